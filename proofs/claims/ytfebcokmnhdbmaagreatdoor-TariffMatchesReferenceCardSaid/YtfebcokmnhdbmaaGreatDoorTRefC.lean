/- dialtoneref37: price, Price, good. -/
import Derived.Test.YtfebcokmnhdbmaaGreatDoorTRefB
namespace Go.Proofs.YtfebcokmnhdbmaaGreatDoor
set_option linter.unusedVariables false
set_option linter.unusedSimpArgs false
open Go.RowKit
set_option maxRecDepth 100000 in
set_option maxHeartbeats 4000000 in
theorem rprice_any (base : Int) (l : List Tp.Rate) (A : Option Addr) (cap : Nat) (off t : Int) (w : World) (hA : At 4 rateC w w.heap.size A l) (hn : l.length ≤ cap) (hl : l.length ≤ 9223372036854775807) (hok : ∀ r ∈ l, Tp.Ok r) (ho : -50400 ≤ off ∧ off ≤ 50400) (ht : 0 ≤ t ∧ t ≤ 20000000) :
    Calls Tryz.prog 55 #[.agg #[.slice A l.length cap, .int .i64 base], .int .i64 off, .int .i64 t] w fun e w' => e = .returned (.int .i64 (Tp.price base l off t)) ∧ Below w.heap.size w w' := by
  have B := Bx.mk w 26 #[.slice A l.length cap, .int .i64 base]
  have hb := bNewW w (.cells #[.slice A l.length cap, .int .i64 base] 26)
  have hO := on_any base l A cap ((t + off + 604800) / 86400 % 7) ((t + off + 604800) % 86400) _ ((hA.below (bNewW w (.cells #[.slice A l.length cap, .int .i64 base] 26))).more hb.size) hn hl hok (by omega) (by omega)
  have e : 86400 * ((t + off + 604800) / 86400 % 7) + (t + off + 604800) % 86400 = Tp.sec off t := by unfold Tp.sec; omega
  rw [e] at hO
  change Calls _ _ _ _ (fun e w' => e = .returned (.int .i64 (Tp.price base l off t)) ∧ _) at hO
  generalize Tp.price base l off t = p at *
  have c0 := B.cell 0 rfl
  have c1 := B.cell 1 rfl
  clear e hok hA
  obtain ⟨o1, o2⟩ := ho
  obtain ⟨t1, t2⟩ := ht
  go_enter Tryz.func55, Tryz.ntmps55
  go_wp2_with fail
  refine hO.mono ?_
  rintro _ w1 ⟨rfl, hb1⟩
  go_wp2
  go_ret
  exact ⟨rfl, bCall hb hb1⟩
set_option maxRecDepth 100000 in
set_option maxHeartbeats 4000000 in
theorem rgood_any (base : Int) (l : List Tp.Rate) (A : Option Addr) (cap : Nat) (off a b : Int) (w : World) (hA : At 4 rateC w w.heap.size A l) (hn : l.length ≤ cap) (hl : l.length ≤ 9223372036854775807) :
    Calls Tryz.prog 58 #[.agg #[.slice A l.length cap, .int .i64 base], .int .i64 off, .agg #[.int .i64 a, .int .i64 b]] w fun e w' => e = .returned (.bool (good base l off a b)) ∧ Below w.heap.size w w' := by
  have hd : Kp (good base l off a b = (Tp.valid base l && isZone off && isSpell a b)) := ⟨rfl⟩
  have hb := bNew (bStart w) (.cells #[.slice A l.length cap, .int .i64 base] 26)
  replace hb := bNew hb (.cells #[.int .i64 a, .int .i64 b] 28)
  have B := (Bx.mk w 26 #[.slice A l.length cap, .int .i64 base]).new (.cells #[.int .i64 a, .int .i64 b] 28)
  have B2 := Bx.mk (w.alloc (.cells #[.slice A l.length cap, .int .i64 base] 26)) 28 #[.int .i64 a, .int .i64 b]
  rw [alloc_size] at B2
  have hV := tValid_any base l A cap _ ((hA.below hb).more hb.size) hn hl
  have hZ := fun w0 => rZone_any off w0
  have hI := fun w0 => rSpell_any a b w0
  have c0 := B.cell 0 rfl
  have c1 := B.cell 1 rfl
  generalize good base l off a b = g at *
  generalize Tp.valid base l = q1 at *
  generalize isZone off = q2 at *
  generalize isSpell a b = q3 at *
  cases q1
  · go_enter Tryz.func58, Tryz.ntmps58
    go_wp2_with (go_at_call 19; refine hV.mono ?_; rintro e w1 ⟨rfl, hb1⟩; clear hV)
    go_ret
    exact ⟨ret_bool (by rw [hd.out]; rfl), bCall hb hb1⟩
  · cases q2
    · go_enter Tryz.func58, Tryz.ntmps58
      go_wp2_with (first | (go_at_call 19; refine hV.mono ?_; rintro e w1 ⟨rfl, hb1⟩; clear hV) | (go_at_call 54; refine (hZ _).mono ?_; rintro e w2 ⟨rfl, rfl⟩; clear hZ))
      go_ret
      exact ⟨ret_bool (by rw [hd.out]; rfl), bCall hb hb1⟩
    · go_enter Tryz.func58, Tryz.ntmps58
      go_wp2_with (first | (go_at_call 19; refine hV.mono ?_; rintro e w1 ⟨rfl, hb1⟩; clear hV; have k0 := (B2.call hb1).cell 0 rfl; have k1 := (B2.call hb1).cell 1 rfl) | (go_at_call 54; refine (hZ _).mono ?_; rintro e w2 ⟨rfl, rfl⟩; clear hZ) | (go_at_call 64; refine (hI _).mono ?_; rintro e w3 ⟨rfl, hb3⟩; clear hI))
      go_ret
      exact ⟨ret_bool (by rw [hd.out]; rfl), bCall (bCall hb hb1) hb3⟩
set_option maxRecDepth 100000 in
set_option maxHeartbeats 4000000 in
theorem rPrice_any (base : Int) (l : List Tp.Rate) (A : Option Addr) (cap : Nat) (off t : Int) (w : World) (hT : Tar w base l A cap) :
    Calls Tryz.prog 22 #[.agg #[.slice A l.length cap, .int .i64 base], .int .i64 off, .int .i64 t] w fun e w' => e = .returned (.tuple #[.int .i64 (priceR base l off t).1, .int .i64 (priceR base l off t).2]) ∧ Below w.heap.size w w' := by
  have hd : Kp (priceR base l off t = if Tp.valid base l && isZone off && Tp.within t 0 10000000 then (Tp.price base l off t, 0) else (0, 370)) := ⟨rfl⟩
  have hb := bNew (bStart w) (.cells #[.slice A l.length cap, .int .i64 base] 26)
  have B := Bx.mk w 26 #[.slice A l.length cap, .int .i64 base]
  have hT1 := hT.call (bNewW w (.cells #[.slice A l.length cap, .int .i64 base] 26))
  have hV := tValid_any base l A cap _ hT1.at_ hT.cap hT.len
  have hZ := fun w0 => rZone_any off w0
  have hI := fun w0 => rin_any t 0 10000000 w0
  have c0 := B.cell 0 rfl
  have c1 := B.cell 1 rfl
  have hv : Kp (Tp.valid base l = true → ∀ r ∈ l, Tp.Ok r) := ⟨fun h => (Tp.valid_iff.1 h).2.2⟩
  have hz : Kp (isZone off = true → -50400 ≤ off ∧ off ≤ 50400) := ⟨fun h => Tp.within_iff.1 h⟩
  have ht : Kp (Tp.within t 0 10000000 = true → 0 ≤ t ∧ t ≤ 10000000) := ⟨fun h => Tp.within_iff.1 h⟩
  have hp := Kp.mk (fun w0 (h : At 4 rateC w0 w0.heap.size A l) hok ho ht => rprice_any base l A cap off t w0 h hT.cap hT.len hok ho ht)
  generalize priceR base l off t = pr at *
  generalize Tp.price base l off t = p at *
  generalize Tp.valid base l = q1 at *
  generalize isZone off = q2 at *
  generalize Tp.within t 0 10000000 = q3 at *
  clear hT
  cases q1
  · clear hv hz ht hp
    go_enter Tryz.func22, Tryz.ntmps22
    go_wp2_with (go_at_call 19; refine hV.mono ?_; rintro e w1 ⟨rfl, hb1⟩; clear hV)
    go_ret2
    exact ⟨by rw [hd.out]; rfl, bCall hb hb1⟩
  · cases q2
    · clear hv hz ht hp
      go_enter Tryz.func22, Tryz.ntmps22
      go_wp2_with (first | (go_at_call 19; refine hV.mono ?_; rintro e w1 ⟨rfl, hb1⟩; clear hV) | (go_at_call 54; refine (hZ _).mono ?_; rintro e w2 ⟨rfl, rfl⟩; clear hZ))
      go_ret2
      exact ⟨by rw [hd.out]; rfl, bCall hb hb1⟩
    · cases q3
      · clear hv hz ht hp
        go_enter Tryz.func22, Tryz.ntmps22
        go_wp2_with (first | (go_at_call 19; refine hV.mono ?_; rintro e w1 ⟨rfl, hb1⟩; clear hV) | (go_at_call 54; refine (hZ _).mono ?_; rintro e w2 ⟨rfl, rfl⟩; clear hZ) | (go_at_call 50; refine (hI _).mono ?_; rintro e w2 ⟨rfl, rfl⟩; clear hI))
        go_ret2
        exact ⟨by rw [hd.out]; rfl, bCall hb hb1⟩
      · have hv := hv.out rfl
        have hz := hz.out rfl
        have ht := ht.out rfl
        have hok := Kp.mk hv
        clear hv
        have hp2 := fun w1 (hb1 : Below (w.alloc (.cells #[.slice A l.length cap, .int .i64 base] 26)).heap.size (w.alloc (.cells #[.slice A l.length cap, .int .i64 base] 26)) w1) => hp.out w1 ((hT1.call hb1).at_) hok.out hz ⟨ht.1, by omega⟩
        go_enter Tryz.func22, Tryz.ntmps22
        go_wp2_with (first | (go_at_call 19; refine hV.mono ?_; rintro e w1 ⟨rfl, hb1⟩; clear hV; have k0 := (B.call hb1).cell 0 rfl; have k1 := (B.call hb1).cell 1 rfl) | (go_at_call 54; refine (hZ _).mono ?_; rintro e w2 ⟨rfl, rfl⟩; clear hZ) | (go_at_call 50; refine (hI _).mono ?_; rintro e w2 ⟨rfl, rfl⟩; clear hI) | (go_at_call 55; refine (hp2 _ hb1).mono ?_; rintro e w3 ⟨rfl, hb3⟩; clear hp2))
        go_ret2
        exact ⟨by rw [hd.out]; rfl, bCall (bCall hb hb1) hb3⟩
end Go.Proofs.YtfebcokmnhdbmaaGreatDoor

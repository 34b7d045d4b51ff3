/- rated of package tariff. Price and isGood of package tariff. changes of package tariff. Regions in a round of a range over a function: what was shown outside a round holds in it. What the rounds of a range over 'spells' keep: what lay below, three boxes, and what the iterator has made. spells of package tariff: what it hands on. The sum of a spell: the inner function of sum, of package tariff. sum, Sum of package tariff. -/
import Derived.Test.YtfebcokmnhdbmaaGreatDoorQ02
import Derived.Test.YtfebcokmnhdbmaaGreatDoorQ00
import Derived.Test.YtfebcokmnhdbmaaGreatDoorQ01
import Derived.RangeFuncNested
import Derived.RangeFuncBound
import Derived.RangeFuncCalls
import Derived.RangeFuncLeaves
import Derived.RangeFuncBox
import Derived.OrdersIn
import Derived.OwnWalkIn
import Derived.RangeFuncFrom
import Derived.RangeFuncWrites
import Derived.Shelf.Abstract
import Derived.TacticsInMore
import Derived.LoopNIn
import Derived.LoopIn
import Derived.Deep.DeepCutAuto
namespace Go.Proofs.YtfebcokmnhdbmaaGreatDoor
set_option linter.unusedVariables false
set_option linter.unusedSimpArgs false
open Go.RowKit
theorem bits_and : ∀ m, m < 128 → (bits BinOp.and IntKind.i64 ((m : Nat) : Int) 1 == 1) = decide (((m : Nat) : Int) % 2 = 1) := by decide +kernel
theorem bit_is {d : Int} (k : Nat) (h0 : 0 ≤ d) (h1 : d ≤ 127) : (bits BinOp.and IntKind.i64 (d / 2 ^ k) 1 == 1) = Tp.bit d k := by
  obtain ⟨n, rfl⟩ := Int.eq_ofNat_of_zero_le h0
  have e : ((n : Nat) : Int) / 2 ^ k = ((n / 2 ^ k : Nat) : Int) := by rw [Int.natCast_ediv, Int.natCast_pow]; rfl
  have hl : n / 2 ^ k < 128 := Nat.lt_of_le_of_lt (Nat.div_le_self n _) (by omega)
  unfold Tp.bit
  rw [e, bits_and _ hl]
set_option maxRecDepth 100000 in
set_option maxHeartbeats 4000000 in
theorem hit_any (r : Tp.Rate) (s : Int) (g : Nat) (w : World) (hB : Bx w g 3 #[.int .i64 s]) (h0 : 0 ≤ s) (h1 : s < 604800) (hr : Tp.Ok r) :
    Calls Tryz.prog 76 #[rateV r, .pointer (some ⟨g, 0, none⟩)] w fun e w' => e = .returned (.bool (Tp.hits s r)) ∧ Below w.heap.size w w' := by
  obtain ⟨x0, x1, x2, x3⟩ := r
  obtain ⟨d1, d2, l0, lh, hh, p0, p1⟩ := hr
  simp only at d1 d2 l0 lh hh p0 p1
  simp only [rateV]
  have hd : Kp (Tp.hits s ⟨x0, x1, x2, x3⟩ = (Tp.bit x0 (s / 86400).toNat && Tp.within (s % 86400) x1 (x2 - 1))) := ⟨rfl⟩
  have hI := fun w0 => isIn_any (s % 86400) x1 (x2 - 1) w0
  generalize Tp.hits s ⟨x0, x1, x2, x3⟩ = ok at *
  have B := Bx.mk w 68 #[.int .i64 x0, .int .i64 x1, .int .i64 x2, .int .i64 x3]
  have hb := bNew (bStart w) (.cells #[.int .i64 x0, .int .i64 x1, .int .i64 x2, .int .i64 x3] 68)
  have c0 := B.cell 0 rfl
  have c1 := B.cell 1 rfl
  have c2 := B.cell 2 rfl
  have c3 := B.cell 3 rfl
  have cs := (hB.new (.cells #[.int .i64 x0, .int .i64 x1, .int .i64 x2, .int .i64 x3] 68)).cell 0 rfl
  have hbit := bit_is (s / 86400).toNat (show 0 ≤ x0 by omega) d2
  generalize Tp.bit x0 (s / 86400).toNat = q at *
  generalize Tp.within (s % 86400) x1 (x2 - 1) = q2 at *
  clear hB
  cases q
  · go_enter Tryz.func76, Tryz.ntmps76
    go_wp2
    go_ret
    exact ⟨ret_bool (by rw [hd.out] <;> simp), hb⟩
  · go_enter Tryz.func76, Tryz.ntmps76
    go_wp2_with (go_at_call 48; refine (hI _).mono ?_; rintro e w1 ⟨rfl, rfl⟩; clear hI)
    go_ret
    exact ⟨ret_bool (by rw [hd.out] <;> simp), hb⟩
theorem rated_cases (base : Int) (l : List Tp.Rate) (s : Int) : (idxI (Tp.hits s) l = -1 ∧ Tp.rated base l s = base) ∨ ∃ (i : Nat) (hi : i < l.length), idxI (Tp.hits s) l = i ∧ Tp.rated base l s = l[i].price := by
  unfold Tp.rated idxI
  cases h : l.findIdx? (Tp.hits s) with
  | none =>
    left
    have : l.find? (Tp.hits s) = none := by
      rw [List.find?_eq_none]
      intro x hx
      rw [List.findIdx?_eq_none_iff.1 h x hx]; simp
    rw [this]
    exact ⟨rfl, rfl⟩
  | some i =>
    right
    obtain ⟨h1, h2, h3⟩ := List.findIdx?_eq_some_iff_getElem.1 h
    have : l.find? (Tp.hits s) = some l[i] := List.find?_eq_some_iff_getElem.2 ⟨h2, i, h1, rfl, fun j hj => by simpa using h3 j hj⟩
    rw [this]
    exact ⟨i, h1, rfl, rfl⟩
set_option maxRecDepth 100000 in
set_option maxHeartbeats 4000000 in
theorem rated_any (base : Int) (l : List Tp.Rate) (A : Option Addr) (cap : Nat) (s : Int) (w : World) (hA : At 4 rateC w w.heap.size A l) (hn : l.length ≤ cap) (hl : l.length ≤ 9223372036854775807) (hr : ∀ r ∈ l, Tp.Ok r) (h0 : 0 ≤ s) (h1 : s < 604800) :
    Calls Tryz.prog 52 #[.agg #[.slice A l.length cap, .int .i64 base], .int .i64 s] w fun e w' => e = .returned (.int .i64 (Tp.rated base l s)) ∧ Below w.heap.size w w' := by
  have hb := bNew (bNew (bStart w) (.cells #[.slice A l.length cap, .int .i64 base] 26)) (.cells #[.int .i64 s] 3)
  have B := (Bx.mk w 26 #[.slice A l.length cap, .int .i64 base]).new (.cells #[.int .i64 s] 3)
  have B2 := Bx.mk (w.alloc (.cells #[.slice A l.length cap, .int .i64 base] 26)) 3 #[.int .i64 s]
  rw [alloc_size] at B2
  have hA2 := (hA.below hb).more (show w.heap.size ≤ ((w.alloc (.cells #[.slice A l.length cap, .int .i64 base] 26)).alloc (.cells #[.int .i64 s] 3)).heap.size by rw [alloc_size, alloc_size]; omega)
  have hC := idx_r l A cap (w.heap.size + 1) (Tp.hits s) _ hA2 hn hl (fun r hrm W hW => hit_any r s _ W (B2.call hW) h0 h1 (hr r hrm))
  have c0 := B.cell 0 rfl
  have c1 := B.cell 1 rfl
  rcases rated_cases base l s with ⟨e1, e2⟩ | ⟨i, hi, e1, e2⟩
  · rw [e1] at hC
    have hd : Kp (Tp.rated base l s = base) := ⟨e2⟩
    clear e1 e2 hA2 hr B2
    go_enter Tryz.func52, Tryz.ntmps52
    go_wp2_with (refine hC.mono ?_; rintro e w1 ⟨rfl, hb1⟩; have k0 := (B.call hb1).cell 0 rfl; have k1 := (B.call hb1).cell 1 rfl; clear hC)
    go_ret
    exact ⟨ret_int hd.out.symm, bCall hb hb1⟩
  · rw [e1] at hC
    have hd : Kp (Tp.rated base l s = l[i].price) := ⟨e2⟩
    obtain ⟨b, off, rfl, hbB, hcell⟩ := hA2 (by omega)
    have c3 := hcell i _ (List.getElem?_eq_getElem hi) 3 _ rfl
    generalize l[i].price = pr at *
    clear e1 e2 hr B2 hcell hA
    go_enter Tryz.func52, Tryz.ntmps52
    go_wp2_with (refine hC.mono ?_; rintro e w1 ⟨rfl, hb1⟩; have k0 := (B.call hb1).cell 0 rfl; have k1 := (B.call hb1).cell 1 rfl; have k3 := (hb1.cell (p := ⟨b, off + i * 4 + 3, none⟩) hbB).trans c3; clear hC)
    go_ret
    exact ⟨ret_int hd.out.symm, bCall hb hb1⟩
end Go.Proofs.YtfebcokmnhdbmaaGreatDoor
namespace Go.Proofs.YtfebcokmnhdbmaaGreatDoor
set_option linter.unusedVariables false
set_option linter.unusedSimpArgs false
open Go.RowKit
/-- a tariff in memory: its rates can be read, and are such as a program can hold -/
structure Tar (w : World) (base : Int) (l : List Tp.Rate) (A : Option Addr) (cap : Nat) : Prop where
  at_ : At 4 rateC w w.heap.size A l
  cap : l.length ≤ cap
  len : l.length ≤ 9223372036854775807
  base : I64 base
  r64 : ∀ r ∈ l, R64 r
theorem Tar.call {w w' : World} {base : Int} {l : List Tp.Rate} {A : Option Addr} {cap : Nat} (h : Tar w base l A cap) (hb : Below w.heap.size w w') : Tar w' base l A cap :=
  ⟨(h.at_.below hb).more hb.size, h.cap, h.len, h.base, h.r64⟩
def priceR (base : Int) (l : List Tp.Rate) (off t : Int) : Int × Int := if Tp.valid base l && isZone off && Tp.within t 0 10000000 then (Tp.price base l off t, 0) else (0, 370)
set_option maxRecDepth 100000 in
set_option maxHeartbeats 4000000 in
theorem price_any (base : Int) (l : List Tp.Rate) (A : Option Addr) (cap : Nat) (off t : Int) (w : World) (hT : Tar w base l A cap) (hoff : I64 off) (ht : I64 t) :
    Calls Tryz.prog 21 #[.agg #[.slice A l.length cap, .int .i64 base], .int .i64 off, .int .i64 t] w fun e w' => e = .returned (.tuple #[.int .i64 (priceR base l off t).1, .int .i64 (priceR base l off t).2]) ∧ Below w.heap.size w w' := by
  have hd : Kp (priceR base l off t = if Tp.valid base l && isZone off && Tp.within t 0 10000000 then (Tp.price base l off t, 0) else (0, 370)) := ⟨rfl⟩
  have hb := bNew (bStart w) (.cells #[.slice A l.length cap, .int .i64 base] 26)
  have B := Bx.mk w 26 #[.slice A l.length cap, .int .i64 base]
  have hT1 := hT.call (bNewW w (.cells #[.slice A l.length cap, .int .i64 base] 26))
  have hV := valid_any base l A cap _ hT1.at_ hT.cap hT.len hT.base hT.r64
  have hZ := fun w0 => isZone_any off w0
  have hI := fun w0 => isIn_any t 0 10000000 w0
  have c0 := B.cell 0 rfl
  have c1 := B.cell 1 rfl
  have hv : Kp (Tp.valid base l = true → ∀ r ∈ l, Tp.Ok r) := ⟨fun h => (Tp.valid_iff.1 h).2.2⟩
  have hz : Kp (isZone off = true → -50400 ≤ off ∧ off ≤ 50400) := ⟨fun h => Tp.within_iff.1 h⟩
  have ht : Kp (Tp.within t 0 10000000 = true → 0 ≤ t ∧ t ≤ 10000000) := ⟨fun h => Tp.within_iff.1 h⟩
  generalize priceR base l off t = pr at *
  generalize Tp.valid base l = q1 at *
  generalize isZone off = q2 at *
  generalize Tp.within t 0 10000000 = q3 at *
  clear hT
  cases q1
  · clear hv hz ht hT1
    go_enter Tryz.func21, Tryz.ntmps21
    go_wp2_with (first | (refine hV.mono ?_; rintro e w1 ⟨rfl, hb1⟩; clear hV) | (go_at_call 51; refine (hZ _).mono ?_; rintro e w2 ⟨rfl, rfl⟩; clear hZ) | (go_at_call 48; refine (hI _).mono ?_; rintro e w2 ⟨rfl, rfl⟩; clear hI))
    go_ret2
    exact ⟨by rw [hd.out]; rfl, bCall hb hb1⟩
  · cases q2
    · clear hv hz ht hT1
      go_enter Tryz.func21, Tryz.ntmps21
      go_wp2_with (first | (refine hV.mono ?_; rintro e w1 ⟨rfl, hb1⟩; clear hV) | (go_at_call 51; refine (hZ _).mono ?_; rintro e w2 ⟨rfl, rfl⟩; clear hZ) | (go_at_call 48; refine (hI _).mono ?_; rintro e w2 ⟨rfl, rfl⟩; clear hI))
      go_ret2
      exact ⟨by rw [hd.out]; rfl, bCall hb hb1⟩
    · cases q3
      · clear hv hz ht hT1
        go_enter Tryz.func21, Tryz.ntmps21
        go_wp2_with (first | (refine hV.mono ?_; rintro e w1 ⟨rfl, hb1⟩; clear hV) | (go_at_call 51; refine (hZ _).mono ?_; rintro e w2 ⟨rfl, rfl⟩; clear hZ) | (go_at_call 48; refine (hI _).mono ?_; rintro e w2 ⟨rfl, rfl⟩; clear hI))
        go_ret2
        exact ⟨by rw [hd.out]; rfl, bCall hb hb1⟩
      · have hr := hv.out rfl
        obtain ⟨z1, z2⟩ := hz.out rfl
        obtain ⟨t1, t2⟩ := ht.out rfl
        have hs := Tp.sec_lt off t
        have hpd : Kp (pr = (Tp.rated base l (Tp.sec off t), 0)) := ⟨by rw [hd.out]; rfl⟩
        have hL := fun w0 => local_any off t w0 (by omega) (by omega) (by omega) (by omega)
        generalize Tp.sec off t = s at *
        clear hd hv hz ht
        go_enter Tryz.func21, Tryz.ntmps21
        go_wp2_with (first | (refine hV.mono ?_; rintro e w1 ⟨rfl, hb1⟩; clear hV) | (go_at_call 51; refine (hZ _).mono ?_; rintro e w2 ⟨rfl, rfl⟩; clear hZ) | (go_at_call 48; refine (hI _).mono ?_; rintro e w2 ⟨rfl, rfl⟩; clear hI))
        have hb2 := bCall hb hb1
        have g0 := fun d os => ((B.call hb1).again d os).cell 0 rfl
        have g1 := fun d os => ((B.call hb1).again d os).cell 1 rfl
        have hT2 := hT1.call hb1
        have k1 := fun d os => calls_below (hL (Sort.grow (redrawn w1 d) os))
        have k2 := fun d os => rated_any base l A cap s (Sort.grow (redrawn w1 d) os) (hT2.call (below_regrown w1 d os)).at_ hT2.cap hT2.len hr hs.1 hs.2
        clear c0 c1 hT1 hT2 hL hr
        refine wp_region_quiet_below (by kernel_rfl) (by kernel_rfl) ?_
        repeat (go_big_quiet_step (first
          | (go_at_call 53; with_reducible exact Calls.regrown_of (k1 _ _))
          | (go_at_call 52; with_reducible exact Calls.regrown_of (k2 _ _))))
        refine wpQuiet_nil ?_
        rintro _ ⟨q, rfl⟩
        clear k1 k2 g0 g1
        go_wp2
        go_ret2
        exact ⟨by rw [hpd.out]; rfl, bAgain hb2 q.d q.os⟩
/-- whether a tariff, a zone and a spell are good -/
def good (base : Int) (l : List Tp.Rate) (off a b : Int) : Bool := Tp.valid base l && isZone off && isSpell a b
set_option maxRecDepth 100000 in
set_option maxHeartbeats 4000000 in
theorem good_any (base : Int) (l : List Tp.Rate) (A : Option Addr) (cap : Nat) (off a b : Int) (w : World) (hT : Tar w base l A cap) :
    Calls Tryz.prog 56 #[.agg #[.slice A l.length cap, .int .i64 base], .int .i64 off, .agg #[.int .i64 a, .int .i64 b]] w fun e w' => e = .returned (.bool (good base l off a b)) ∧ Below w.heap.size w w' := by
  have hd : Kp (good base l off a b = (Tp.valid base l && isZone off && isSpell a b)) := ⟨rfl⟩
  have hb := bNew (bNew (bStart w) (.cells #[.slice A l.length cap, .int .i64 base] 26)) (.cells #[.int .i64 a, .int .i64 b] 28)
  have B := (Bx.mk w 26 #[.slice A l.length cap, .int .i64 base]).new (.cells #[.int .i64 a, .int .i64 b] 28)
  have B2 := Bx.mk (w.alloc (.cells #[.slice A l.length cap, .int .i64 base] 26)) 28 #[.int .i64 a, .int .i64 b]
  rw [alloc_size] at B2
  have hT1 := (hT.call (bNewW w (.cells #[.slice A l.length cap, .int .i64 base] 26))).call (bNewW _ (.cells #[.int .i64 a, .int .i64 b] 28))
  have hV := valid_any base l A cap _ hT1.at_ hT.cap hT.len hT.base hT.r64
  have hZ := fun w0 => isZone_any off w0
  have hI := fun w0 => isSpell_any a b w0
  have c0 := B.cell 0 rfl
  have c1 := B.cell 1 rfl
  generalize good base l off a b = g at *
  generalize Tp.valid base l = q1 at *
  generalize isZone off = q2 at *
  generalize isSpell a b = q3 at *
  clear hT hT1
  cases q1
  · go_enter Tryz.func56, Tryz.ntmps56
    go_wp2_with (refine hV.mono ?_; rintro e w1 ⟨rfl, hb1⟩; clear hV)
    go_ret
    exact ⟨ret_bool (by rw [hd.out] <;> simp), bCall hb hb1⟩
  · cases q2
    · go_enter Tryz.func56, Tryz.ntmps56
      go_wp2_with (first | (refine hV.mono ?_; rintro e w1 ⟨rfl, hb1⟩; clear hV) | (go_at_call 51; refine (hZ _).mono ?_; rintro e w2 ⟨rfl, rfl⟩; clear hZ))
      go_ret
      exact ⟨ret_bool (by rw [hd.out] <;> simp), bCall hb hb1⟩
    · go_enter Tryz.func56, Tryz.ntmps56
      go_wp2_with (first | (refine hV.mono ?_; rintro e w1 ⟨rfl, hb1⟩; have k0 := (B2.call hb1).cell 0 rfl; have k1 := (B2.call hb1).cell 1 rfl; clear hV) | (go_at_call 51; refine (hZ _).mono ?_; rintro e w2 ⟨rfl, rfl⟩; clear hZ) | (go_at_call 63; refine (hI _).mono ?_; rintro e w3 ⟨rfl, hb3⟩; clear hI))
      go_ret
      exact ⟨ret_bool (by rw [hd.out] <;> simp), bCall (bCall hb hb1) hb3⟩
end Go.Proofs.YtfebcokmnhdbmaaGreatDoor
namespace Go.Proofs.YtfebcokmnhdbmaaGreatDoor
set_option linter.unusedVariables false
set_option linter.unusedSimpArgs false
open Go.RowKit Go.Shelf
/-- two fresh cells are a source -/
theorem src_two (W : World) (x y : Int) : Src Tryz.prog 1 36 (.slice (some ⟨W.heap.size, 0, none⟩) 2 2) 2 [.int .i64 x, .int .i64 y] (W.alloc (.cells #[.int .i64 x, .int .i64 y] 3)) :=
  RowC.src (B := W.heap.size) (cap := 2) (e := 3) (fun u hu => by simp at hu; rcases hu with rfl | rfl <;> rfl) Tryz.underlying36 ⟨W.heap.size, _, rfl, Nat.le_refl _, Nat.le_refl _, Bx.mk _ _ _, rfl, rfl⟩
/-- ascending numbers in a block of one's own -/
def IntsAt (w : World) (g : Nat) (C : List Int) : Prop := ∃ cells, Bx w g 3 cells ∧ C.length ≤ cells.size ∧ cells.toList.take C.length = C.flatMap intC
theorem IntsAt.cell {w : World} {g : Nat} {C : List Int} (h : IntsAt w g C) (j : Nat) (hj : j < C.length) : w.cell? ⟨g, j, none⟩ = some (.int .i64 C[j]) := by
  obtain ⟨cells, h1, h2, h3⟩ := h
  refine h1.cell j ?_
  have h4 : (cells.toList.take C.length)[j]? = some (.int .i64 C[j]) := by
    rw [h3, flat_map, List.getElem?_map, List.getElem?_eq_getElem hj]; rfl
  rw [List.getElem?_take, if_pos hj] at h4
  simpa using h4
def rawTo (l : List Tp.Rate) (k : Nat) : List Int := 0 :: (l.take k).flatMap fun r => [r.lo, r.hi % 86400]
theorem rawTo_succ {l : List Tp.Rate} {k : Nat} (hk : k < l.length) : rawTo l (k + 1) = rawTo l k ++ [l[k].lo, l[k].hi % 86400] := by
  unfold rawTo
  rw [List.take_succ_eq_append_getElem hk, List.flatMap_append]
  simp
theorem rawTo_len (l : List Tp.Rate) : ∀ k, k ≤ l.length → (rawTo l k).length = 1 + 2 * k
  | 0, _ => by simp [rawTo]
  | k + 1, h => by rw [rawTo_succ (by omega), List.length_append, rawTo_len l k (by omega)]; simp; omega
set_option maxRecDepth 100000 in
set_option maxHeartbeats 4000000 in
theorem changes_any (base : Int) (l : List Tp.Rate) (A : Option Addr) (cap0 : Nat) (w : World) (hT : Tar w base l A cap0) (hr : ∀ r ∈ l, Tp.Ok r) (hl : l.length ≤ 10) :
    Calls Tryz.prog 81 #[.agg #[.slice A l.length cap0, .int .i64 base]] w fun e w' => (∃ g cap, e = .returned (.slice (some ⟨g, 0, none⟩) (Tp.cutsOf l).length cap) ∧ w.heap.size < g ∧ IntsAt w' g (Tp.cutsOf l)) ∧ Below w.heap.size w w' := by
  have hb := bNew (bStart w) (.cells #[.slice A l.length cap0, .int .i64 base] 26)
  have B := Bx.mk w 26 #[.slice A l.length cap0, .int .i64 base]
  have c0 := B.cell 0 rfl
  have hA := hT.at_
  have hn := hT.cap
  obtain ⟨i, z, hi, hz, hs1, hz1, hby⟩ := intI
  have hlen := rawTo_len l
  clear hT
  go_enter Tryz.func81, Tryz.ntmps81
  go_wp2_with fail
  have hrow0 : RowC 3 1 (w.heap.size + 1) 1 (1 + 2 * 0) ((rawTo l 0).flatMap intC) (.slice (some ⟨w.heap.size + 1, 0, none⟩) 1 1) ((w.alloc (.cells #[.slice A l.length cap0, .int .i64 base] 26)).alloc (.cells #[.int .i64 0] 3)) :=
    ⟨w.heap.size + 1, _, rfl, Nat.le_refl _, Nat.le_refl _, by have := Bx.mk (w.alloc (.cells #[.slice A l.length cap0, .int .i64 base] 26)) 3 #[.int .i64 0]; rw [alloc_size] at this; exact this, rfl, rfl⟩
  go_loopw [3, 10] (fun s3 s10 wr => ∃ k cap : Nat, k ≤ l.length ∧ s10 = .int .i64 k ∧ RowC 3 1 (w.heap.size + 1) cap (1 + 2 * k) ((rawTo l k).flatMap intC) s3 wr ∧ cap ≤ maxLen ∧ Below w.heap.size w wr ∧ Bx wr w.heap.size 26 #[.slice A l.length cap0, .int .i64 base]) (fun s3 s10 wr => l.length - (intOf s10).toNat)
  case atStart => exact ⟨0, 1, by omega, rfl, hrow0, by unfold maxLen; omega, bNew hb _, B.new _⟩
  case round =>
    clear hb B c0 hrow0
    obtain ⟨k, cap, hk, rfl, hrow, hcm, hb, B⟩ := hrel
    have hrow' := hrow
    obtain ⟨g, cells, rfl, hg, hnc, hbx, hcs, hfl⟩ := hrow'
    by_cases hlt : k < l.length
    · obtain ⟨b, off, rfl, hbB, hcell⟩ := hA (by omega)
      have hck : l[k]? = some l[k] := List.getElem?_eq_getElem hlt
      have ho := hr l[k] (List.getElem_mem hlt)
      obtain ⟨d1, d2, l0, lh, h1, p0, p1⟩ := ho
      have hsu := rawTo_succ hlt
      have c0 : wr.cell? ⟨b, off + k * 4, none⟩ = some (.int .i64 l[k].days) := (hb.cell (p := ⟨b, _, none⟩) hbB).trans (hcell k _ hck 0 _ rfl)
      have c1 : wr.cell? ⟨b, off + k * 4 + 1, none⟩ = some (.int .i64 l[k].lo) := (hb.cell (p := ⟨b, _, none⟩) hbB).trans (hcell k _ hck 1 _ rfl)
      have c2 : wr.cell? ⟨b, off + k * 4 + 2, none⟩ = some (.int .i64 l[k].hi) := (hb.cell (p := ⟨b, _, none⟩) hbB).trans (hcell k _ hck 2 _ rfl)
      have c3 : wr.cell? ⟨b, off + k * 4 + 3, none⟩ = some (.int .i64 l[k].price) := (hb.cell (p := ⟨b, _, none⟩) hbB).trans (hcell k _ hck 3 _ rfl)
      have hsu : Kp (rawTo l (k + 1) = rawTo l k ++ [l[k].lo, l[k].hi % 86400]) := ⟨hsu⟩
      generalize l[k].days = x0 at *
      generalize l[k].lo = x1 at *
      generalize l[k].hi = x2 at *
      generalize l[k].price = x3 at *
      clear hcell hA hck hr hlen
      have R := Bx.mk wr 68 #[.int .i64 x0, .int .i64 x1, .int .i64 x2, .int .i64 x3]
      have r1 := R.cell 1 rfl
      have r2 := R.cell 2 rfl
      have hb2 := bNew (bNew hb (.cells #[.int .i64 x0, .int .i64 x1, .int .i64 x2, .int .i64 x3] 68)) (.cells #[.int .i64 x1, .int .i64 (x2 % 86400)] 3)
      have B2 := (B.new (.cells #[.int .i64 x0, .int .i64 x1, .int .i64 x2, .int .i64 x3] 68)).new (.cells #[.int .i64 x1, .int .i64 (x2 % 86400)] 3)
      have hrow2 := stab_rowC _ _ _ _ _ _ _ _ _ (stab_rowC _ _ _ _ _ _ _ _ _ hrow (bNewW wr (.cells #[.int .i64 x0, .int .i64 x1, .int .i64 x2, .int .i64 x3] 68))) (bNewW _ (.cells #[.int .i64 x1, .int .i64 (x2 % 86400)] 3))
      have hle : w.heap.size + 1 ≤ wr.heap.size := B.lt
      have hsrc := src_two (wr.alloc (.cells #[.int .i64 x0, .int .i64 x1, .int .i64 x2, .int .i64 x3] 68)) x1 (x2 % 86400)
      rw [alloc_size] at hsrc
      have hsz : w.heap.size + 1 ≤ ((wr.alloc (.cells #[.int .i64 x0, .int .i64 x1, .int .i64 x2, .int .i64 x3] 68)).alloc (.cells #[.int .i64 x1, .int .i64 (x2 % 86400)] 3)).heap.size := by rw [alloc_size, alloc_size]; omega
      go_wp2_with (at_builtin; refine wpList_append_row rfl (.tmp 14) (.tmp 20) 36 3 rfl i z 1 (w.heap.size + 1) cap (1 + 2 * k) 2 ((rawTo l k).flatMap intC) [.int .i64 x1, .int .i64 (x2 % 86400)] _ _ Tryz.underlying36 hi hz hs1 hz1 rfl rfl hrow2 hsz hsrc hcm (by unfold maxLen; omega) (by rw [hby]; omega) ?_; intro v' w' cap' e1 e2 e3 e4)
      rw [Nat.mul_succ, ← Nat.add_assoc] at *
      refine ⟨⟨k + 1, cap', by omega, by go_num, ?_, e4, hb2.trans (e1.mono (by omega)), B2.below e1 (Nat.lt_succ_self _)⟩, by simp [intOf]; omega⟩
      rw [hsu.out, List.flatMap_append]
      exact e3
    · obtain rfl : k = l.length := by omega
      have hrl := hlen l.length (Nat.le_refl _)
      have hcut : Kp (Tp.cutsOf l = Lib.compact ((rawTo l l.length).mergeSort fun x y => decide (x ≤ y))) := ⟨by unfold Tp.cutsOf Tp.rawC rawTo; rw [List.take_length]⟩
      generalize rawTo l l.length = zs at *
      have hml : (zs.mergeSort fun x y => decide (x ≤ y)).length = zs.length := List.length_mergeSort _
      have hS := sort_row zs g cap (w.heap.size + 1) cells wr hbx (by rw [hrl, ← hfl, Nat.mul_one]) (by rw [hcs]; omega) hg (by omega)
      have hC := fun w1 cells1 h1 h2 h3 => compact_row (zs.mergeSort fun x y => decide (x ≤ y)) g cap (w.heap.size + 1) cells1 w1 h1 h2 h3 hg (by omega) (by omega)
      rw [hml, hrl] at hC
      rw [hrl] at hS
      have hcs' : 1 + 2 * l.length ≤ cells.size := by rw [hcs]; omega
      have hcl : (Lib.compact (zs.mergeSort fun x y => decide (x ≤ y))).length ≤ 1 + 2 * l.length := by
        unfold Lib.compact Lib.compactUpTo
        rw [List.length_map]
        exact Nat.le_trans (List.length_filter_le _ _) (by simp; omega)
      generalize (zs.mergeSort fun x y => decide (x ≤ y)) = ys at *
      clear hrow hfl hbx hcs hA hr hlen hrl hml
      go_wp2_with fail
      refine hS.mono ?_
      clear hS
      rintro _ w1 ⟨rfl, ⟨cells1, k1, k2, k3⟩, hb1⟩
      go_wp2_with fail
      refine (hC w1 cells1 k1 k3 (by omega)).mono ?_
      clear hC
      rintro _ w2 ⟨rfl, ⟨cells2, m1, m2, m3⟩, hb2⟩
      go_wp2
      go_ret
      refine ⟨⟨g, cap, by rw [hcut.out]; rfl, by omega, cells2, m1, by rw [hcut.out]; omega, by rw [hcut.out]; exact m3⟩, hb.trans ((hb1.trans hb2).mono (by omega))⟩
end Go.Proofs.YtfebcokmnhdbmaaGreatDoor
namespace Go.Proofs.YtfebcokmnhdbmaaGreatDoor
set_option linter.unusedVariables false
set_option linter.unusedSimpArgs false
open Go.RowKit
section
variable {P : Program} {ops : Array Oper}
theorem operIn_of {o : Oper} {a : Act} {w : World} {K : Act → World → Prop} {Q : Exit → Act → World → Prop} {l m : Nat} (hnd : ∀ c, o.op ≠ .defer c) (h : o.wp P a w K Q) : o.wpIn (Fence.wide.inRound l) m P a w K Q := by
  refine ⟨fun _ _ => trivial, ?_⟩
  rw [Oper.semAt_plain _ _ _ hnd]
  unfold Oper.wp at h
  generalize (execOp a.eval o).run P w = r at h ⊢
  cases r with
  | ok x w' =>
    cases x <;> simp only [Oper.upon, Oper.uponIn] at h ⊢
    case enter f args => exact ⟨(fun h => by cases h), (callsIn_wide.2 h).inRound l⟩
    case row => exact ⟨(fun h => by cases h), fun c cs _ => by
      obtain ⟨v, w'', h1, h2⟩ := h c cs
      exact ⟨v, w'', h1, stepsIn_wide.2 h2⟩⟩
    all_goals first | exact h | exact h.elim
  | halt x w' => cases x <;> simp only [Oper.upon, Oper.uponIn] at h ⊢ <;> first | exact h | exact h.elim
def noDefer (ops : Array Oper) : Bool := ops.all fun o => match o.op with | .defer _ => false | _ => true
theorem noDefer_spec (h : noDefer ops = true) {i : Nat} {o : Oper} (ho : ops[i]? = some o) : ∀ c, o.op ≠ .defer c := by
  intro c hc
  unfold noDefer at h
  rw [Array.all_eq_true'] at h
  have := h o (Array.mem_of_getElem? ho)
  rw [hc] at this
  cases this
theorem wpOpIn_of {Q : Exit → Act → World → Prop} {i l m : Nat} {K : Act → World → Prop} {a : Act} {w : World} (hd : noDefer ops = true) (hq : ¬ LetsOut Q) (h : wpOp P ops Q i K a w) : wpOpIn (Fence.wide.inRound l) m P ops Q i K a w := by
  unfold wpOp at h
  unfold wpOpIn
  cases ho : ops[i]? with
  | none => rw [ho] at h; exact h
  | some o =>
    rw [ho] at h
    simp only at h ⊢
    split at h
    · rw [if_pos (by assumption)]
      rcases h with h | ⟨_, h⟩
      · exact operIn_of (noDefer_spec hd ho) h
      · exact absurd h hq
    · rw [if_neg (by assumption)]
      exact ⟨fun _ _ => trivial, h⟩
theorem wpAnyIn_of {Q : Exit → Act → World → Prop} {md : Region.Mode} {l m : Nat} (hd : noDefer ops = true) (hq : ¬ LetsOut Q) : ∀ (f : Nat) (listed : Array Bool) (a : Act) (w : World), wpAny P md ops Q f listed a w → wpAnyIn (Fence.wide.inRound l) m P md ops Q f listed a w
  | 0, _, _, _, h => h
  | f + 1, listed, a, w, h => ⟨h.1, fun i hi => wpOpIn_mono (fun a w h => wpAnyIn_of hd hq f _ a w h) (wpOpIn_of hd hq (h.2 i hi))⟩
theorem operIn_mono {o : Oper} {a : Act} {w : World} {K K' : Act → World → Prop} {Q Q' : Exit → Act → World → Prop} {l m : Nat} (hnd : ∀ c, o.op ≠ .defer c) (hq : ∀ e a w, Q e a w → Q' e a w) (hlo : ¬ LetsOut Q) (hK : ∀ a w, K a w → K' a w) (h : o.wp P a w K Q) : o.wpIn (Fence.wide.inRound l) m P a w K' Q' := by
  refine ⟨fun _ _ => trivial, ?_⟩
  rw [Oper.semAt_plain _ _ _ hnd]
  unfold Oper.wp at h
  generalize (execOp a.eval o).run P w = r at h ⊢
  cases r with
  | ok x w' =>
    cases x <;> simp only [Oper.upon, Oper.uponIn] at h ⊢
    case enter f args => exact ⟨(fun h => by cases h), ((callsIn_wide.2 h).inRound l).mono (fun e w'' he => by cases e <;> first | exact hK _ _ he | exact hq _ _ _ he | exact absurd he hlo)⟩
    case row => exact ⟨(fun h => by cases h), fun c cs _ => by
      obtain ⟨v, w'', h1, h2⟩ := h c cs
      exact ⟨v, w'', hK _ _ h1, stepsIn_wide.2 h2⟩⟩
    all_goals first | exact hK _ _ h | exact h.elim
  | halt x w' => cases x <;> simp only [Oper.upon, Oper.uponIn] at h ⊢ <;> first | exact hq _ _ _ h | exact h.elim
def noDeferL (l : List Oper) : Bool := l.all fun o => match o.op with | .defer _ => false | _ => true
theorem wpListIn_of {Q : Exit → Act → World → Prop} {k m : Nat} : ∀ (l : List Oper) (a : Act) (w : World), noDeferL l = true → wpList P ops (fun e a' w' => e = .normal ∧ Q .normal a' w') l a w → wpListIn (Fence.wide.inRound k) m P ops Q l a w
  | [], a, w, _, h => h.2
  | o :: l, a, w, hd, h => by
    simp only [noDeferL, List.all_cons, Bool.and_eq_true] at hd
    have hnd : ∀ c, o.op ≠ .defer c := by
      intro c hc
      rw [hc] at hd
      cases hd.1
    have hlo : ¬ LetsOut (fun e a' w' => e = .normal ∧ Q .normal a' w') := by rintro ⟨_, _, h, _⟩; cases h
    simp only [wpList, wpListIn] at h ⊢
    split at h
    · rw [if_pos (by assumption)]
      rcases h with h | ⟨_, h⟩
      · exact operIn_mono hnd (fun e a w ⟨he, h⟩ => he ▸ h) hlo (fun a w h => wpListIn_of l a w hd.2 h) h
      · exact absurd h hlo
    · rw [if_neg (by assumption)]
      exact ⟨fun _ _ => trivial, wpListIn_of l _ w hd.2 h⟩
/-- a region of a round that draws its order: a quiet head, a forced tail -/
theorem wpIn_region_below_tail {id l m : Nat} {os : List Oper} {a : Act} {w : World} {Q : Exit → Act → World → Prop} (n : Nat) (hm : P.follows .mixedOrders = true) (hB : Region.lexTailB .any os.toArray n = true) (hd : noDefer os.toArray = true)
    (h : wpQuiet P os.toArray (fun w' => ∃ p : Regrown, w' = Sort.grow (redrawn w p.d) p.os) (fun a' => ∀ w', (∃ p : Regrown, w' = Sort.grow (redrawn w p.d) p.os) → wpList P os.toArray (fun e a'' w'' => e = .normal ∧ Q .normal a'' w'') (os.drop n) a' w') (os.take n) a) :
    (Code.region id os.toArray true).wpIn (Fence.wide.inRound l) m P Q a w :=
  wpIn_mono (wpIn_region_any hm (wpAnyIn_of hd (by rintro ⟨_, _, h, _⟩; cases h) _ _ _ _ (any_below_tail n hB h))) (fun e a w ⟨he, h⟩ => he ▸ h)
/-- a region of a round that draws its order, its head by relations -/
theorem wpIn_region_rgl {id l m : Nat} {os : List Oper} {Q : Exit → Act → World → Prop} {a0 : Act} {w0 : World} (ps : List (Value → World → Prop)) (n sz : Nat) (hm : P.follows .mixedOrders = true) (hd : noDefer os.toArray = true) (hnp : ps.length = n) (hsz : a0.tmps.size = sz)
    (hB : (okRG os.toArray sz && looksB os.toArray n && (decide (os.length ≤ n) || (Region.sinkB .any os.toArray n && Region.chainB .any os.toArray n)) && decide (n ≤ os.length) && Region.seqB .any os.toArray (os.length - n) n ((List.range os.length).map fun i => decide (i < n)).toArray) = true)
    (hst : AllS ps) (hsteps : Users P ps w0 a0 [] (os.take n) ps)
    (hfin : ∀ vs w', Below w0.heap.size w0 w' → AllR vs w' 0 ps → wpList P os.toArray (fun e a'' w'' => e = .normal ∧ Q .normal a'' w'') (os.drop n) (putD vs 0 ((os.take n).map (·.dst)) a0) w') : (Code.region id os.toArray true).wpIn (Fence.wide.inRound l) m P Q a0 w0 :=
  wpIn_mono (wpIn_region_any hm (wpAnyIn_of hd (by rintro ⟨_, _, h, _⟩; cases h) _ _ _ _ (any_region_rgl ps n sz hnp hsz hB hst hsteps hfin))) (fun e a w ⟨he, h⟩ => he ▸ h)
end
end Go.Proofs.YtfebcokmnhdbmaaGreatDoor
namespace Go.Proofs.YtfebcokmnhdbmaaGreatDoor
set_option linter.unusedVariables false
open Go.RowKit
structure KpS (n₀ B0 : Nat) (bs : List Nat) (W W' : World) : Prop where
  below : Below n₀ W W'
  keep : ∀ b ∈ bs, W'.heap[b]? = W.heap[b]?
  fresh : ∀ b o, B0 ≤ b → W.heap[b]? = some o → o.isCells = true → W'.heap[b]? = W.heap[b]?
section
variable {n₀ B0 : Nat} {bs : List Nat} {A B C : World}
theorem KpS.refl (n₀ B0 : Nat) (bs : List Nat) (W : World) : KpS n₀ B0 bs W W := ⟨Below.refl _ _, fun _ _ => rfl, fun _ _ _ _ _ => rfl⟩
theorem KpS.trans (h : KpS n₀ B0 bs A B) (k : KpS n₀ B0 bs B C) : KpS n₀ B0 bs A C :=
  ⟨h.below.trans k.below, fun b hb => (k.keep b hb).trans (h.keep b hb), fun b o h1 h2 h3 => by
    have e := h.fresh b o h1 h2 h3
    exact (k.fresh b o h1 (e.trans h2) h3).trans e⟩
theorem kpS_b {w : World} (h1 : n₀ ≤ w.heap.size) (h2 : ∀ b ∈ bs, b < w.heap.size) (W : World) (l : Nat) (o o' : Obj) (hl : w.heap.size ≤ l) (h : W.heap[l]? = some o) (hc : o.isCells = false) (hw : o.isWalk = false) : KpS n₀ B0 bs W (W.putObj l o') := by
  have key : ∀ b, b ≠ l → (W.putObj l o').heap[b]? = W.heap[b]? := fun b hne => by
    show (W.heap.setIfInBounds l o')[b]? = _
    rw [Array.getElem?_setIfInBounds_ne (Ne.symm hne)]
  refine ⟨belowK_b (w := w) h1 W l o o' hl h hc hw, fun b hb => key b (by have := h2 b hb; omega), fun b q _ hq hqc => key b ?_⟩
  rintro rfl
  rw [h] at hq
  cases hq
  rw [hc] at hqc
  cases hqc
theorem KpS.call {W W' : World} (h : Below W.heap.size W W') (hn : n₀ ≤ W.heap.size) (hb : ∀ b ∈ bs, b < W.heap.size) : KpS n₀ B0 bs W W' :=
  ⟨h.mono hn, fun b hbb => h.block b (hb b hbb), fun b o _ ho _ => h.block b (Array.getElem?_eq_some_iff.1 ho).1⟩
theorem KpS.set {W : World} {g : Nat} {i : Nat} (hn : n₀ ≤ g) (hB : g < B0) (hb : ∀ b ∈ bs, b ≠ g) (u : Value) : KpS n₀ B0 bs W (W.setCell ⟨g, i, none⟩ u) :=
  ⟨(Below.refl _ _).setCell hn u, fun b hbb => Below.heap_setCell W ⟨g, i, none⟩ u b (hb b hbb), fun b o hbo _ _ => Below.heap_setCell W ⟨g, i, none⟩ u b (by show b ≠ g; omega)⟩
theorem KpS.bx {W W' : World} {g : Nat} {t : TypeId} {cs : Array Value} (h : KpS n₀ B0 bs W W') (hg : g ∈ bs ∨ B0 ≤ g) (hB : Bx W g t cs) : Bx W' g t cs := by
  have e : W'.heap[g]? = W.heap[g]? := by
    rcases hg with hg | hg
    · exact h.keep g hg
    · exact h.fresh g _ hg hB rfl
  exact e.trans hB
end
/-- the same, of what the iterator has made the rows of ints alone -/
structure KpT (n₀ B0 : Nat) (bs : List Nat) (W W' : World) : Prop where
  below : Below n₀ W W'
  keep : ∀ b ∈ bs, W'.heap[b]? = W.heap[b]?
  fresh : ∀ b cs, B0 ≤ b → Bx W b 3 cs → Bx W' b 3 cs
section
variable {n₀ B0 : Nat} {bs : List Nat} {A B C : World}
theorem KpT.refl (n₀ B0 : Nat) (bs : List Nat) (W : World) : KpT n₀ B0 bs W W := ⟨Below.refl _ _, fun _ _ => rfl, fun _ _ _ h => h⟩
theorem KpT.trans (h : KpT n₀ B0 bs A B) (k : KpT n₀ B0 bs B C) : KpT n₀ B0 bs A C :=
  ⟨h.below.trans k.below, fun b hb => (k.keep b hb).trans (h.keep b hb), fun b cs h1 h2 => k.fresh b cs h1 (h.fresh b cs h1 h2)⟩
theorem KpS.toT (h : KpS n₀ B0 bs A B) : KpT n₀ B0 bs A B := ⟨h.below, h.keep, fun b cs h1 h2 => (h.fresh b _ h1 h2 rfl).trans h2⟩
theorem kpT_b {w : World} (h1 : n₀ ≤ w.heap.size) (h2 : ∀ b ∈ bs, b < w.heap.size) (W : World) (l : Nat) (o o' : Obj) (hl : w.heap.size ≤ l) (h : W.heap[l]? = some o) (hc : o.isCells = false) (hw : o.isWalk = false) : KpT n₀ B0 bs W (W.putObj l o') :=
  (kpS_b (B0 := B0) h1 h2 W l o o' hl h hc hw).toT
theorem KpT.bx {W W' : World} {g : Nat} {t : TypeId} {cs : Array Value} (h : KpT n₀ B0 bs W W') (hg : g ∈ bs ∨ (B0 ≤ g ∧ t = 3)) (hB : Bx W g t cs) : Bx W' g t cs := by
  rcases hg with hg | ⟨hg, rfl⟩
  · exact (h.keep g hg).trans hB
  · exact h.fresh g cs hg hB
end
end Go.Proofs.YtfebcokmnhdbmaaGreatDoor
namespace Go.Proofs.YtfebcokmnhdbmaaGreatDoor
set_option linter.unusedVariables false
set_option linter.unusedSimpArgs false
open Go.RowKit Go.Shelf
attribute [local go_sem] Oper.semAt_some
theorem abide {β : Type} {B : Nat} {J : β → World → Prop} (hJ : AbidesFrom B J) {s : β} {W W' : World} (hs : J s W) (hb : Below W.heap.size W W') : J s W' :=
  hJ s W W' none hs ⟨hb.os, hb.tape, hb.output, hb.size, fun k hk _ => hb.block k hk⟩ (fun r e => by cases e)
/-- what a round is handed -/
def pcA (x : Tp.Pc) : Array Value := #[.agg #[.int .i64 x.lo, .int .i64 x.hi, .int .i64 x.price]]
/-- between two pieces: the iterator's boxes, and where prices can change -/
structure SpI (base : Int) (L : List Tp.Rate) (A : Option Addr) (cap : Nat) (off a b : Int) (n₀ px ps po g : Nat) (W0 W : World) : Prop where
  bl : Below n₀ W0 W
  x : Bx W px 26 #[.slice A L.length cap, .int .i64 base]
  o : Bx W po 3 #[.int .i64 off]
  s : Bx W ps 28 #[.int .i64 a, .int .i64 b]
  c : IntsAt W g (Tp.cutsOf L)
  lt : g < W.heap.size
section
variable {base : Int} {L : List Tp.Rate} {A : Option Addr} {cap : Nat} {off a b : Int} {n₀ B0 px ps po g : Nat} {W0 W W' : World}
theorem IntsAt.bx {C : List Int} (h : IntsAt W g C) (f : ∀ t cs, Bx W g t cs → Bx W' g t cs) : IntsAt W' g C := by
  obtain ⟨cells, h1, h2, h3⟩ := h
  exact ⟨cells, f _ _ h1, h2, h3⟩
theorem SpI.call (h : SpI base L A cap off a b n₀ px ps po g W0 W) (hb : Below W.heap.size W W') (hn : n₀ ≤ W.heap.size) : SpI base L A cap off a b n₀ px ps po g W0 W' :=
  ⟨h.bl.trans (hb.mono hn), h.x.call hb, h.o.call hb, h.s.call hb, h.c.bx fun t cs hx => hx.call hb, Nat.lt_of_lt_of_le h.lt hb.size⟩
theorem SpI.kp (h : SpI base L A cap off a b n₀ px ps po g W0 W) (hk : KpT n₀ B0 [px, ps, po] W W') (hg : B0 ≤ g) : SpI base L A cap off a b n₀ px ps po g W0 W' :=
  ⟨h.bl.trans hk.below, hk.bx (.inl (by simp)) h.x, hk.bx (.inl (by simp)) h.o, hk.bx (.inl (by simp)) h.s, by obtain ⟨cells, h1, h2, h3⟩ := h.c; exact ⟨cells, hk.fresh _ _ hg h1, h2, h3⟩, Nat.lt_of_lt_of_le h.lt hk.below.size⟩
end
/-- what a body may know of a piece -/
def PcOk (x : Tp.Pc) : Prop := 0 ≤ x.price ∧ x.price ≤ 1000000 ∧ 0 ≤ x.lo ∧ x.lo ≤ x.hi ∧ x.hi ≤ x.lo + 86400 ∧ x.hi ≤ 20000000
set_option maxRecDepth 100000 in
set_option maxHeartbeats 4000000 in
theorem spells1_in (n : Nat) (hn : 1 ≤ n) (l px ps po n₀ B0 : Nat) (base : Int) (L : List Tp.Rate) (A : Option Addr) (cap : Nat) (off a b : Int) (J Jx : List Tp.Pc → World → Prop) (W : World)
    (hv : Tp.valid base L = true) (hoff : -50400 ≤ off ∧ off ≤ 50400) (h0 : 0 ≤ a) (hb7 : b ≤ 20000000) (h64 : ∀ r ∈ L, R64 r) (hcap : L.length ≤ cap) (hn0 : n₀ ≤ W.heap.size) (hB0 : B0 ≤ W.heap.size)
    (hA : At 4 rateC W n₀ A L) (hx : Bx W px 26 #[.slice A L.length cap, .int .i64 base]) (ho : Bx W po 3 #[.int .i64 off]) (hs : Bx W ps 28 #[.int .i64 a, .int .i64 b])
    (hJ : AbidesFrom W.heap.size J)
    (hY : ∀ pre x W1, PcOk x → J pre W1 → pre.length < (Tp.pieces base L (Tp.cutsOf L) off (b - a).toNat a b).length → YieldAt Fence.wide (n - 1) Tryz.prog l (pcA x) W1 fun e W' =>
      (e = .returned (.bool true) ∧ J (pre ++ [x]) W' ∧ KpT n₀ B0 [px, ps, po] W1 W') ∨ (e = .returned (.bool false) ∧ Jx (pre ++ [x]) W'))
    (hj0 : J [] W) :
    CallsIn Fence.wide n Tryz.prog 80 #[.func (.yield l) #[] #[], .pointer (some ⟨px, 0, none⟩), .pointer (some ⟨ps, 0, none⟩), .pointer (some ⟨po, 0, none⟩)] W fun e W' => (∃ v, e = .returned v) ∧
      ((∃ ys, ys = Tp.pieces base L (Tp.cutsOf L) off (b - a).toNat a b ∧ J ys W') ∨ (∃ pre, True ∧ Jx pre W')) := by
  obtain ⟨T, hT⟩ : ∃ T, T = Tp.pieces base L (Tp.cutsOf L) off (b - a).toNat a b := ⟨_, rfl⟩
  rw [← hT] at hY ⊢
  replace hT : Kp (T = Tp.pieces base L (Tp.cutsOf L) off (b - a).toNat a b) := ⟨hT⟩
  have hok := (Tp.valid_iff.1 hv).2.2
  have hb64 : I64 base := ⟨by have := (Tp.valid_iff.1 hv).1; omega, by have := (Tp.valid_iff.1 hv).1; omega⟩
  have hl10 := (Tp.valid_iff.1 hv).2.1
  have hC := changes_any base L A cap W ⟨hA.more hn0, hcap, by omega, hb64, h64⟩ hok hl10
  have hcut := Tp.cuts_of hok
  have q0 := hx.cell 0 rfl
  have q1 := hx.cell 1 rfl
  have q2 := hs.cell 0 rfl
  have q3 := hs.cell 1 rfl
  refine callsIn_of_wp Tryz.func80 rfl trivial ?_ rfl
  simp only [Tryz.ntmps80, List.size_toArray, List.length_cons, List.length_nil, Nat.reduceAdd, Nat.reduceSub, Array.replicate_succ, Array.replicate_zero, List.push_toArray, List.append_toArray, List.nil_append, List.cons_append]
  gi_wp2_with (refine ⟨trivial, ?_⟩; gi_at_call 81; refine (callsIn_wide.2 hC).mono ?_; rintro e w1 ⟨⟨g, cg, rfl, hg, hIA⟩, hb1⟩; clear hC; have z2 := (hs.call hb1).cell 0 rfl; have z3 := (hs.call hb1).cell 1 rfl)
  have hI : SpI base L A cap off a b n₀ px ps po g W w1 := ⟨hb1.mono hn0, hx.call hb1, ho.call hb1, hs.call hb1, hIA, by obtain ⟨_, h1, _⟩ := hIA; exact h1.lt⟩
  have hj1 := abide hJ hj0 hb1
  have hJ1 : AbidesFrom w1.heap.size J := fun s X Y row hs hg hr => hJ s X Y row hs hg (fun r e => ⟨Nat.le_trans hb1.size (hr r e).1, (hr r e).2⟩)
  have hn1 : n₀ ≤ w1.heap.size := Nat.le_trans hn0 hb1.size
  have hgB : B0 ≤ g := by omega
  have hCl : (Tp.cutsOf L).length ≤ 1000000 := by
    unfold Tp.cutsOf Lib.compact Lib.compactUpTo
    rw [List.length_map]
    refine Nat.le_trans (List.length_filter_le _ _) ?_
    have : (Tp.rawC L).length = 1 + 2 * L.length := by have := rawTo_len L L.length (Nat.le_refl _); unfold rawTo at this; unfold Tp.rawC; rwa [List.take_length] at this
    simp [List.length_mergeSort, this]
    omega
  clear hj0 hIA hs ho hx q0 q1 q2 q3 z2 z3 hJ
  gi_loopw [6] (fun s6 wr => ∃ (pre : List Tp.Pc) (t : Int) (m : Nat), s6 = .int .i64 t ∧ Kp (T = pre ++ Tp.pieces base L (Tp.cutsOf L) off m t b) ∧ b - t ≤ m ∧ a ≤ t ∧ J pre wr ∧ SpI base L A cap off a b n₀ px ps po g W wr ∧ n₀ ≤ wr.heap.size) (fun s6 _ => (b - intOf s6).toNat)
  case atStart => exact ⟨[], a, (b - a).toNat, rfl, hT, by omega, Int.le_refl _, hj1, hI, hn1⟩
  case round =>
    clear hj1 hI hn1
    obtain ⟨pre, t, m, rfl, hTe, hm, hat, hJs, hI, hnr⟩ := hrel
    have z3 := hI.s.cell 1 rfl
    by_cases hlt : t < b
    · have t0 : decide (t < b) = true := by simp; omega
      have z4 := hI.o.cell 0 rfl
      have hsec := Tp.sec_lt off t
      have hL := fun w0 => local_any off t w0 (by omega) (by omega) (by omega) (by omega)
      have hpr : Kp (Tp.price base L off t = Tp.rated base L (Tp.sec off t)) := ⟨rfl⟩
      have hstop := Tp.stop_gt (C := Tp.cutsOf L) (off := off) hlt
      have hstop2 := Tp.stop_le (C := Tp.cutsOf L) (off := off) (a := t) (b := b)
      have hst : Kp (Tp.stop (Tp.cutsOf L) off t b = min (t + Tp.nextC (Tp.cutsOf L) (Tp.sec off t % 86400) - Tp.sec off t % 86400) b) := ⟨rfl⟩
      have hnx : Kp _ := ⟨Tp.nextC_find hcut.so (Tp.sec off t % 86400)⟩
      have hn86 := Tp.nextC_le (C := Tp.cutsOf L) (d := Tp.sec off t % 86400) hcut.rg
      have hng := Tp.nextC_gt (C := Tp.cutsOf L) (d := Tp.sec off t % 86400) (by omega)
      obtain ⟨m, rfl⟩ : ∃ m', m = m' + 1 := ⟨m - 1, by omega⟩
      have hTn : Kp (T = pre ++ [⟨t, Tp.stop (Tp.cutsOf L) off t b, Tp.price base L off t⟩] ++ Tp.pieces base L (Tp.cutsOf L) off m (Tp.stop (Tp.cutsOf L) off t b) b) := ⟨by rw [hTe.out, Tp.pieces, if_pos hlt, List.append_assoc]; rfl⟩
      have hpl : pre.length < T.length := by rw [hTn.out]; simp
      have hSr := fun w1 (hI1 : IntsAt w1 g (Tp.cutsOf L)) => search_row (Tp.cutsOf L) (Tp.sec off t % 86400 + 1) g _ cg w1 rfl (fun j hj => hI1.cell j hj) hcut.so hCl
      have hRt := fun w1 (hA1 : At 4 rateC w1 w1.heap.size A L) => rated_any base L A cap (Tp.sec off t) w1 hA1 hcap (by omega) hok hsec.1 hsec.2
      have hpk : Kp (PcOk ⟨t, Tp.stop (Tp.cutsOf L) off t b, Tp.price base L off t⟩) := ⟨by
        have h1 := Tp.price_bound hv off t
        have h2 := hst.out
        unfold PcOk
        simp only
        exact ⟨h1.1, h1.2, by omega, by omega, by omega, by omega⟩⟩
      rw [hpr.out] at hTn hpk
      generalize Tp.sec off t = s at *
      generalize Tp.rated base L s = pr at *
      generalize Tp.stop (Tp.cutsOf L) off t b = t2 at *
      generalize Tp.nextC (Tp.cutsOf L) (s % 86400) = nv at *
      have hmin : min (t + nv - s % 86400) b = t2 := hst.out.symm
      obtain ⟨ci, hci⟩ : ∃ ci, (Tp.cutsOf L).countP (· < s % 86400 + 1) = ci := ⟨_, rfl⟩
      rw [hci] at hSr hnx
      have hcl : Kp (ci ≤ (Tp.cutsOf L).length) := ⟨by rw [← hci]; exact List.countP_le_length⟩
      clear hTe hpr hst hci hok hcut
      by_cases hc : ci < (Tp.cutsOf L).length
      · have t1 : decide ((ci : Int) < ((Tp.cutsOf L).length : Int)) = true := by simp; omega
        have hcv : (Tp.cutsOf L)[ci] = nv := by have h := hnx.out; rw [List.getElem?_eq_getElem hc] at h; exact h.symm
        have hcell := fun w1 (h : IntsAt w1 g (Tp.cutsOf L)) => h.cell ci hc
        rw [hcv] at hcell
        clear hnx hcv
        gi_wp2_with (first | (refine ⟨trivial, ?_⟩; gi_at_call 53; refine (callsIn_wide.2 (hL _)).mono ?_; rintro e w2 ⟨rfl, rfl⟩; clear hL) | (refine ⟨trivial, ?_⟩; gi_at_call 82; refine (callsIn_wide.2 (hSr _ hI.c)).mono ?_; rintro e w2 ⟨⟨bb, rfl⟩, hb2⟩; clear hSr; have hI2 := hI.call hb2 hnr; have y3 := hI2.s.cell 1 rfl; have y4 := hI2.x.cell 0 rfl; have y5 := hI2.x.cell 1 rfl; have y6 := hcell w2 hI2.c; have hj2 := abide hJ1 hJs hb2))
        have hA2 : At 4 rateC w2 w2.heap.size A L := (hA.below hI2.bl).more (Nat.le_trans hnr hb2.size)
        refine ⟨trivial, (callsIn_wide.2 (hRt w2 hA2)).mono ?_⟩
        clear hRt hA2 y3 y4 y5
        rintro e w3 ⟨rfl, hb3⟩
        have hj3 := abide hJ1 hj2 hb3
        have hI3 := hI2.call hb3 (Nat.le_trans hnr hb2.size)
        obtain ⟨fn, tmps, assign, body, hy, hR⟩ := hY pre ⟨t, t2, pr⟩ w3 hpk.out hj3 hpl
        simp only [pcA] at hy
        clear hY hj3 hj2 hI2 hI hJs
        gi_wp2
        refine hR.mono ?_
        rintro e W3 (⟨rfl, hJ3, hk3⟩ | ⟨rfl, hJx3⟩)
        · gi_wp2
          go_roundw
          case rel => exact ⟨pre ++ [⟨t, t2, pr⟩], t2, m, rfl, hTn, by omega, by omega, hJ3, hI3.kp hk3 hgB, Nat.le_trans hnr (Nat.le_trans hb2.size (Nat.le_trans hb3.size hk3.below.size))⟩
          case measure => simp [intOf]; omega
        · gi_wp2
          refine bodyPost_ret (results_none rfl _ _ _) rfl ?_
          exact ⟨⟨_, rfl⟩, .inr ⟨_, trivial, hJx3⟩⟩
      · have t1 : decide ((ci : Int) < ((Tp.cutsOf L).length : Int)) = false := by simp; omega
        have hcv : nv = 86400 := by have h := hnx.out; rw [List.getElem?_eq_none (by omega)] at h; exact h
        subst hcv
        clear hnx
        gi_wp2_with (first | (refine ⟨trivial, ?_⟩; gi_at_call 53; refine (callsIn_wide.2 (hL _)).mono ?_; rintro e w2 ⟨rfl, rfl⟩; clear hL) | (refine ⟨trivial, ?_⟩; gi_at_call 82; refine (callsIn_wide.2 (hSr _ hI.c)).mono ?_; rintro e w2 ⟨⟨bb, rfl⟩, hb2⟩; clear hSr; have hI2 := hI.call hb2 hnr; have y3 := hI2.s.cell 1 rfl; have y4 := hI2.x.cell 0 rfl; have y5 := hI2.x.cell 1 rfl; have hj2 := abide hJ1 hJs hb2))
        have hA2 : At 4 rateC w2 w2.heap.size A L := (hA.below hI2.bl).more (Nat.le_trans hnr hb2.size)
        refine ⟨trivial, (callsIn_wide.2 (hRt w2 hA2)).mono ?_⟩
        clear hRt hA2 y3 y4 y5
        rintro e w3 ⟨rfl, hb3⟩
        have hj3 := abide hJ1 hj2 hb3
        have hI3 := hI2.call hb3 (Nat.le_trans hnr hb2.size)
        obtain ⟨fn, tmps, assign, body, hy, hR⟩ := hY pre ⟨t, t2, pr⟩ w3 hpk.out hj3 hpl
        simp only [pcA] at hy
        clear hY hj3 hj2 hI2 hI hJs
        gi_wp2
        refine hR.mono ?_
        rintro e W3 (⟨rfl, hJ3, hk3⟩ | ⟨rfl, hJx3⟩)
        · gi_wp2
          go_roundw
          case rel => exact ⟨pre ++ [⟨t, t2, pr⟩], t2, m, rfl, hTn, by omega, by omega, hJ3, hI3.kp hk3 hgB, Nat.le_trans hnr (Nat.le_trans hb2.size (Nat.le_trans hb3.size hk3.below.size))⟩
          case measure => simp [intOf]; omega
        · gi_wp2
          refine bodyPost_ret (results_none rfl _ _ _) rfl ?_
          exact ⟨⟨_, rfl⟩, .inr ⟨_, trivial, hJx3⟩⟩
    · have t0 : decide (t < b) = false := by simp; omega
      have hnil : Tp.pieces base L (Tp.cutsOf L) off m t b = [] := by
        cases m with
        | zero => rfl
        | succ m => rw [Tp.pieces, if_neg hlt]
      have hfin : Kp (pre = T) := ⟨by rw [hTe.out, hnil, List.append_nil]⟩
      clear hY hnil hTe
      gi_wp2
      go_end0
      exact ⟨⟨_, rfl⟩, .inl (by rw [hfin.out] at hJs; exact hJs)⟩
abbrev PcR := { x : Tp.Pc // PcOk x }
def pcR (x : PcR) : Array Value := pcA x.1
theorem spells_stopsT (n : Nat) (hn : 1 ≤ n) (px ps po n₀ B0 : Nat) (base : Int) (L : List Tp.Rate) (A : Option Addr) (cap : Nat) (off a b : Int) (w : World)
    (hv : Tp.valid base L = true) (hoff : -50400 ≤ off ∧ off ≤ 50400) (h0 : 0 ≤ a) (hb7 : b ≤ 20000000) (h64 : ∀ r ∈ L, R64 r) (hcap : L.length ≤ cap) (hn0 : n₀ ≤ w.heap.size) (hB0 : B0 ≤ w.heap.size)
    (hA : At 4 rateC w n₀ A L) (hx : Bx w px 26 #[.slice A L.length cap, .int .i64 base]) (ho : Bx w po 3 #[.int .i64 off]) (hs : Bx w ps 28 #[.int .i64 a, .int .i64 b]) :
    SeqStopsK Fence.wide n Tryz.prog 80 #[.pointer (some ⟨px, 0, none⟩), .pointer (some ⟨ps, 0, none⟩), .pointer (some ⟨po, 0, none⟩)] pcR (KpT n₀ B0 [px, ps, po])
      (fun ys => ys.map (·.1) = Tp.pieces base L (Tp.cutsOf L) off (b - a).toNat a b) (fun _ => True) (Tp.pieces base L (Tp.cutsOf L) off (b - a).toNat a b).length w := fun l J Jx W hW hJ hJx hY hj0 => by
  refine (spells1_in n hn l px ps po n₀ B0 base L A cap off a b (fun pre W => ∃ p' : List PcR, p'.map (·.1) = pre ∧ J p' W) (fun pre W => ∃ p' : List PcR, p'.map (·.1) = pre ∧ Jx p' W) W hv hoff h0 hb7 h64 hcap (Nat.le_trans hn0 hW.size) (Nat.le_trans hB0 hW.size)
    (hA.below (hW.mono hn0)) (hx.call hW) (ho.call hW) (hs.call hW) (fun s X Y row ⟨p', h1, h2⟩ hg hr => ⟨p', h1, hJ p' X Y row h2 hg hr⟩) (fun pre x W1 hx ⟨p', h1, h2⟩ hl => ?_) ⟨[], rfl, hj0⟩).mono ?_
  · refine (hY p' ⟨x, hx⟩ W1 h2 (by rw [← h1, List.length_map] at hl; exact hl)).mono fun e W' h => ?_
    rcases h with ⟨e1, e2, e3⟩ | ⟨e1, e2⟩
    · exact .inl ⟨e1, ⟨_, by rw [List.map_append, h1]; rfl, e2⟩, e3⟩
    · exact .inr ⟨e1, ⟨_, by rw [List.map_append, h1]; rfl, e2⟩⟩
  · rintro e W' ⟨he, ⟨ys, rfl, p', h1, h2⟩ | ⟨pre, -, p', h1, h2⟩⟩
    · exact ⟨he, .inl ⟨p', h1, h2⟩⟩
    · exact ⟨he, .inr ⟨p', trivial, h2⟩⟩
theorem spells_stops (n : Nat) (hn : 1 ≤ n) (px ps po n₀ B0 : Nat) (base : Int) (L : List Tp.Rate) (A : Option Addr) (cap : Nat) (off a b : Int) (w : World)
    (hv : Tp.valid base L = true) (hoff : -50400 ≤ off ∧ off ≤ 50400) (h0 : 0 ≤ a) (hb7 : b ≤ 20000000) (h64 : ∀ r ∈ L, R64 r) (hcap : L.length ≤ cap) (hn0 : n₀ ≤ w.heap.size) (hB0 : B0 ≤ w.heap.size)
    (hA : At 4 rateC w n₀ A L) (hx : Bx w px 26 #[.slice A L.length cap, .int .i64 base]) (ho : Bx w po 3 #[.int .i64 off]) (hs : Bx w ps 28 #[.int .i64 a, .int .i64 b]) :
    SeqStopsK Fence.wide n Tryz.prog 80 #[.pointer (some ⟨px, 0, none⟩), .pointer (some ⟨ps, 0, none⟩), .pointer (some ⟨po, 0, none⟩)] pcR (KpS n₀ B0 [px, ps, po])
      (fun ys => ys.map (·.1) = Tp.pieces base L (Tp.cutsOf L) off (b - a).toNat a b) (fun _ => True) (Tp.pieces base L (Tp.cutsOf L) off (b - a).toNat a b).length w := fun l J Jx W hW hJ hJx hY hj0 => by
  refine (spells1_in n hn l px ps po n₀ B0 base L A cap off a b (fun pre W => ∃ p' : List PcR, p'.map (·.1) = pre ∧ J p' W) (fun pre W => ∃ p' : List PcR, p'.map (·.1) = pre ∧ Jx p' W) W hv hoff h0 hb7 h64 hcap (Nat.le_trans hn0 hW.size) (Nat.le_trans hB0 hW.size)
    (hA.below (hW.mono hn0)) (hx.call hW) (ho.call hW) (hs.call hW) (fun s X Y row ⟨p', h1, h2⟩ hg hr => ⟨p', h1, hJ p' X Y row h2 hg hr⟩) (fun pre x W1 hx ⟨p', h1, h2⟩ hl => ?_) ⟨[], rfl, hj0⟩).mono ?_
  · refine (hY p' ⟨x, hx⟩ W1 h2 (by rw [← h1, List.length_map] at hl; exact hl)).mono fun e W' h => ?_
    rcases h with ⟨e1, e2, e3⟩ | ⟨e1, e2⟩
    · exact .inl ⟨e1, ⟨_, by rw [List.map_append, h1]; rfl, e2⟩, e3.toT⟩
    · exact .inr ⟨e1, ⟨_, by rw [List.map_append, h1]; rfl, e2⟩⟩
  · rintro e W' ⟨he, ⟨ys, rfl, p', h1, h2⟩ | ⟨pre, -, p', h1, h2⟩⟩
    · exact ⟨he, .inl ⟨p', h1, h2⟩⟩
    · exact ⟨he, .inr ⟨p', trivial, h2⟩⟩
set_option maxHeartbeats 1000000 in
theorem spells_in (n : Nat) (x : Value) (off : Int) (s : Value) (w : World) (hx : ∃ A m c base, x = .agg #[.slice A m c, .int .i64 base]) (hs : ∃ a b, s = .agg #[.int .i64 a, .int .i64 b]) :
    CallsIn Fence.wide n Tryz.prog 61 #[x, .int .i64 off, s] w fun e w' => e = .returned (.func (.func 80) #[] #[.pointer (some ⟨w.heap.size, 0, none⟩), .pointer (some ⟨w.heap.size + 1 + 1, 0, none⟩), .pointer (some ⟨w.heap.size + 1, 0, none⟩)]) ∧
      w' = ((w.alloc (.cells x.cells 26)).alloc (.cells #[.int .i64 off] 3)).alloc (.cells s.cells 28) := by
  obtain ⟨A, m, c, base, rfl⟩ := hx
  obtain ⟨a, b, rfl⟩ := hs
  refine callsIn_of_wp Tryz.func61 rfl trivial ?_ rfl
  simp only [Tryz.ntmps61, List.size_toArray, List.length_cons, List.length_nil, Nat.reduceAdd, Nat.reduceSub, Array.replicate_succ, Array.replicate_zero, List.push_toArray, List.append_toArray, List.nil_append, List.cons_append]
  gi_wp2
  go_ret
  exact ⟨rfl, rfl⟩
end Go.Proofs.YtfebcokmnhdbmaaGreatDoor
namespace Go.Proofs.YtfebcokmnhdbmaaGreatDoor
set_option linter.unusedVariables false
set_option linter.unusedSimpArgs false
open Go.RowKit Go.Shelf
attribute [local go_sem] Oper.semAt_some
theorem tbx_kept {W W' : World} {row : Option Nat} {g : Nat} {t : TypeId} {cs : Array Value} (h : Bx W g t cs) (hg : W.grownBy W' row) (hr : ∀ r, row = some r → ∃ o : Obj, W.heap[r]? = some o ∧ o.isCells = false) : Bx W' g t cs :=
  (hg.block g h.lt (fun e => by
    obtain ⟨o, ho, hc⟩ := hr g e.symm
    rw [show W.heap[g]? = _ from h] at ho
    cases ho; cases hc)).trans h
theorem tkeeps_below {W W' : World} (h : Below W.heap.size W W') (B : Nat) : KeepsFrom B W W' := ⟨h.size, fun k o _ hk _ => (h.block k (Array.getElem?_eq_some_iff.1 hk).1).trans hk⟩
/-- what pieces have come to -/
def got (pre : List PcR) : Int := Tp.worth (pre.map (·.1))
theorem got_snoc (pre : List PcR) (x : PcR) : got (pre ++ [x]) = got pre + x.1.price * (x.1.hi - x.1.lo) := by
  unfold got Tp.worth
  rw [List.map_append, List.foldl_append]
  rfl
theorem got_cons (x : PcR) (pre : List PcR) : got (x :: pre) = x.1.price * (x.1.hi - x.1.lo) + got pre := by
  unfold got
  rw [List.map_cons, Tp.worth, List.foldl_cons, Tp.foldl_worth]
  omega
theorem got_bound : ∀ (pre : List PcR), 0 ≤ got pre ∧ got pre ≤ 86400000000 * pre.length
  | [] => by simp [got, Tp.worth]
  | x :: pre => by
    have ih := got_bound pre
    obtain ⟨h1, h2, h3, h4, h5, h6⟩ := x.2
    rw [got_cons]
    have m1 : 0 ≤ x.1.price * (x.1.hi - x.1.lo) := Int.mul_nonneg h1 (by omega)
    have m2 : x.1.price * (x.1.hi - x.1.lo) ≤ 1000000 * 86400 := Int.mul_le_mul h2 (by omega) (by omega) (by omega)
    rw [List.length_cons]
    omega
theorem pieces_len (base : Int) (l : List Tp.Rate) (C : List Int) (off : Int) : ∀ (n : Nat) (a b : Int), (Tp.pieces base l C off n a b).length ≤ n
  | 0, a, b => Nat.le_refl _
  | n + 1, a, b => by
    rw [Tp.pieces]
    split
    · rw [List.length_cons]; exact Nat.succ_le_succ (pieces_len base l C off n _ b)
    · exact Nat.zero_le _
/-- between two rounds of add: what has come -/
def AddI (w : World) (pre : List PcR) (W : World) : Prop := Bx W (w.heap.size + 1) 3 #[.int .i64 (got pre)] ∧ Below w.heap.size w W ∧ w.heap.size + 5 ≤ W.heap.size
set_option maxRecDepth 100000 in
set_option maxHeartbeats 4000000 in
theorem add_any (base : Int) (L : List Tp.Rate) (A : Option Addr) (cap : Nat) (off a b : Int) (gx go : Nat) (w : World)
    (hv : Tp.valid base L = true) (hoff : -50400 ≤ off ∧ off ≤ 50400) (h0 : 0 ≤ a) (hab : a ≤ b) (hb7 : b ≤ 20000000) (h64 : ∀ r ∈ L, R64 r) (hcap : L.length ≤ cap)
    (hA : At 4 rateC w w.heap.size A L) (hx : Bx w gx 26 #[.slice A L.length cap, .int .i64 base]) (ho : Bx w go 3 #[.int .i64 off]) :
    Calls Tryz.prog 78 #[.agg #[.int .i64 a, .int .i64 b], .pointer (some ⟨gx, 0, none⟩), .pointer (some ⟨go, 0, none⟩)] w fun e w' => e = .returned (.int .i64 (Tp.sumF (Tp.price base L off) a b)) ∧ Below w.heap.size w w' := by
  have hok := (Tp.valid_iff.1 hv).2.2
  have hworth : Kp (Tp.worth (Tp.pieces base L (Tp.cutsOf L) off (b - a).toNat a b) = Tp.sumF (Tp.price base L off) a b) := ⟨Tp.pieces_worth (Tp.cuts_of hok) hok _ a b hab (by omega)⟩
  have hN : (Tp.pieces base L (Tp.cutsOf L) off (b - a).toNat a b).length ≤ 20000000 := Nat.le_trans (pieces_len _ _ _ _ _ _ _) (by omega)
  have b1 := bNewW w (.cells #[.int .i64 a, .int .i64 b] 28)
  have b2 := bNew b1 (.cells #[.int .i64 0] 3)
  have Bs := (Bx.mk w 28 #[.int .i64 a, .int .i64 b]).new (.cells #[.int .i64 0] 3)
  have Bn := Bx.mk (w.alloc (.cells #[.int .i64 a, .int .i64 b] 28)) 3 #[.int .i64 0]
  rw [alloc_size] at Bn
  have hx2 := (hx.new (.cells #[.int .i64 a, .int .i64 b] 28)).new (.cells #[.int .i64 0] 3)
  have ho2 := (ho.new (.cells #[.int .i64 a, .int .i64 b] 28)).new (.cells #[.int .i64 0] 3)
  have hA2 := hA.below b2
  have hsz2 : ((w.alloc (.cells #[.int .i64 a, .int .i64 b] 28)).alloc (.cells #[.int .i64 0] 3)).heap.size = w.heap.size + 2 := by rw [alloc_size, alloc_size]
  have c0 := hx2.cell 0 rfl
  have c1 := hx2.cell 1 rfl
  have c2 := ho2.cell 0 rfl
  have c3 := Bs.cell 0 rfl
  have c4 := Bs.cell 1 rfl
  refine (callsIn_wide (n := 3)).1 ?_
  refine callsIn_of_wp_marks Tryz.func78 rfl trivial ?_ rfl
  simp only [Tryz.ntmps78, List.size_toArray, List.length_cons, List.length_nil, Nat.reduceAdd, Nat.reduceSub, Array.replicate_succ, Array.replicate_zero, List.push_toArray, List.append_toArray, List.nil_append, List.cons_append]
  gi_wp2_with (refine ⟨trivial, ?_⟩; gi_at_call 61; refine (spells_in 2 _ _ _ _ ⟨_, _, _, _, rfl⟩ ⟨_, _, rfl⟩).mono ?_; rintro e w' ⟨rfl, rfl⟩)
  have bX := ((Bx.mk ((w.alloc (.cells #[.int .i64 a, .int .i64 b] 28)).alloc (.cells #[.int .i64 0] 3)) 26 #[.slice A L.length cap, .int .i64 base]).new (.cells #[.int .i64 off] 3)).new (.cells #[.int .i64 a, .int .i64 b] 28)
  rw [hsz2] at bX
  have bO := (Bx.mk (((w.alloc (.cells #[.int .i64 a, .int .i64 b] 28)).alloc (.cells #[.int .i64 0] 3)).alloc (.cells #[.slice A L.length cap, .int .i64 base] 26)) 3 #[.int .i64 off]).new (.cells #[.int .i64 a, .int .i64 b] 28)
  rw [alloc_size, hsz2] at bO
  have bS := Bx.mk ((((w.alloc (.cells #[.int .i64 a, .int .i64 b] 28)).alloc (.cells #[.int .i64 0] 3)).alloc (.cells #[.slice A L.length cap, .int .i64 base] 26)).alloc (.cells #[.int .i64 off] 3)) 28 #[.int .i64 a, .int .i64 b]
  rw [alloc_size, alloc_size, hsz2] at bS
  have bN := ((Bn.new (.cells #[.slice A L.length cap, .int .i64 base] 26)).new (.cells #[.int .i64 off] 3)).new (.cells #[.int .i64 a, .int .i64 b] 28)
  have hb5 := bNew (bNew (bNew b2 (.cells #[.slice A L.length cap, .int .i64 base] 26)) (.cells #[.int .i64 off] 3)) (.cells #[.int .i64 a, .int .i64 b] 28)
  have hsz5 : (((((w.alloc (.cells #[.int .i64 a, .int .i64 b] 28)).alloc (.cells #[.int .i64 0] 3)).alloc (.cells #[.slice A L.length cap, .int .i64 base] 26)).alloc (.cells #[.int .i64 off] 3)).alloc (.cells #[.int .i64 a, .int .i64 b] 28)).heap.size = w.heap.size + 5 := by rw [alloc_size, alloc_size, alloc_size, hsz2]
  have hA5 := hA.below hb5
  clear b1 b2 Bs Bn hx2 ho2 hA2 hsz2 c0 c1 c2 c3 c4 hx ho hA
  generalize (((((w.alloc (.cells #[.int .i64 a, .int .i64 b] 28)).alloc (.cells #[.int .i64 0] 3)).alloc (.cells #[.slice A L.length cap, .int .i64 base] 26)).alloc (.cells #[.int .i64 off] 3)).alloc (.cells #[.int .i64 a, .int .i64 b] 28)) = W0 at *
  refine wpIn_rangeFunc_ownH rfl (by decide) (gf := 80) (lb := #[.pointer (some ⟨w.heap.size + 2, 0, none⟩), .pointer (some ⟨w.heap.size + 2 + 1 + 1, 0, none⟩), .pointer (some ⟨w.heap.size + 2 + 1, 0, none⟩)]) rfl trivial (enters_of Tryz.func80 (by kernel_rfl) rfl)
    (spells_stops 2 (by decide) (w.heap.size + 2) (w.heap.size + 2 + 1 + 1) (w.heap.size + 2 + 1) w.heap.size W0.heap.size base L A cap off a b W0 hv hoff h0 hb7 h64 hcap (by omega) (Nat.le_refl _) hA5 bX bO bS) KpS.trans (kpS_b (by omega) (by simp; omega)) (Below.refl _ _) (fun _ => rfl)
    (AddI w) (fun _ _ _ => False)
    (fun pre W W' row hs hg hr => ⟨tbx_kept hs.1 hg (fun r e => (hr r e).2), hs.2.1.grown hg hs.2.1.size (fun k e => by have := (hr k e).1; omega), Nat.le_trans hs.2.2 hg.size⟩)
    (fun _ _ _ _ _ hs _ _ => hs)
    ⟨bN, hb5, by omega⟩
    (fun x a' W => ∃ g, W0.heap.size ≤ g ∧ Bx W g 64 #[.int .i64 x.1.lo, .int .i64 x.1.hi, .int .i64 x.1.price] ∧ a' = { tmps := #[.agg #[.int .i64 a, .int .i64 b], .pointer (some ⟨gx, 0, none⟩), .pointer (some ⟨go, 0, none⟩), .pointer (some ⟨w.heap.size, 0, none⟩), .int .i64 0, .pointer (some ⟨w.heap.size + 1, 0, none⟩), .pointer (some ⟨g, 0, none⟩), .agg #[.slice A L.length cap, .int .i64 base], .int .i64 off, .agg #[.int .i64 a, .int .i64 b], .func (.func 80) #[] #[.pointer (some ⟨w.heap.size + 2, 0, none⟩), .pointer (some ⟨w.heap.size + 2 + 1 + 1, 0, none⟩), .pointer (some ⟨w.heap.size + 2 + 1, 0, none⟩)], .agg #[.int .i64 x.1.lo, .int .i64 x.1.hi, .int .i64 x.1.price], undef, undef, undef, undef, undef, undef, undef, undef, undef, undef, undef, undef, undef], defers := [] })
    (fun x a' _ X Y row hs hg hr => by obtain ⟨g, h1, h2, h3⟩ := hs; exact ⟨g, h1, tbx_kept h2 hg (fun r e => (hr r e).2), h3⟩)
    ?assign ?body ?done ?stop
  case assign =>
    rintro l pre x W K ⟨i1, i2, i3⟩ hK
    simp only [pcR, pcA]
    gi_wp2
    exact hK _ _ ((KeepsOthers.alloc _ _).from _) (KpS.call (bNewW W _) (by omega) (by simp; omega)) ⟨i1.new _, bNew i2 _, by rw [alloc_size]; omega⟩ ⟨W.heap.size, by omega, Bx.mk _ _ _, rfl⟩
  case body =>
    rintro l pre ⟨⟨lo, hi, price⟩, hx⟩ a' W hl ⟨r, hr⟩ ⟨i1, i2, i3⟩ ⟨g, hg, bP, rfl⟩ hlt
    simp only at bP ⊢
    have hgb := got_bound pre
    have hgs : Kp (got (pre ++ [⟨⟨lo, hi, price⟩, hx⟩]) = got pre + price * (hi - lo)) := ⟨got_snoc _ _⟩
    obtain ⟨p1, p2, p3, p4, p5, p6⟩ := hx
    simp only at p1 p2 p3 p4 p5 p6
    have m1 : 0 ≤ price * (hi - lo) := Int.mul_nonneg p1 (by omega)
    have m2 : price * (hi - lo) ≤ 1000000 * 86400 := Int.mul_le_mul p2 (by omega) (by omega) (by omega)
    have n0 := i1.cell 0 rfl
    have n1 := i1.frozen 0
    have k0 := bP.cell 0 rfl
    have k1 := bP.cell 1 rfl
    have k2 := bP.cell 2 rfl
    have hpl : pre.length ≤ 20000000 := by omega
    generalize got pre = q at *
    gi_wp2
    refine ⟨(KeepsOthers.setCell _ _ _).from _, KpS.set (Nat.le_succ _) (by omega) (by simp; omega) _, ?_, bSet i2 (Nat.le_succ _) _, Nat.le_trans i3 (KeepsOthers.setCell _ _ _).size⟩
    rw [hgs.out]
    exact i1.set 0 _
  case done =>
    rintro D ys W hD hS ⟨i1, i2, i3⟩ hK
    have hgot : Kp (got ys = Tp.sumF (Tp.price base L off) a b) := ⟨by unfold got; rw [hS, hworth.out]⟩
    have n0 := i1.cell 0 rfl
    gi_wp2
    refine ⟨by simp, .inl ⟨_, _, rfl, run_takeDeferred hK, ?_⟩⟩
    exact ⟨_, results_tmp rfl _ _ _, by rw [← hgot.out]; rfl, i2.trans (belowK_b (w := w) (Nat.le_refl _) W D _ _ (by omega) hK rfl rfl)⟩
  case stop =>
    rintro D c pre W _ _ h _
    exact h.elim
end Go.Proofs.YtfebcokmnhdbmaaGreatDoor
namespace Go.Proofs.YtfebcokmnhdbmaaGreatDoor
set_option linter.unusedVariables false
set_option linter.unusedSimpArgs false
open Go.RowKit Go.Shelf
theorem sum_weeks (base : Int) (l : List Tp.Rate) (off : Int) {a b k : Int} (hk : 0 ≤ k) (h : a + k * 604800 ≤ b) :
    Tp.sumF (Tp.price base l off) a b = Tp.sumF (Tp.price base l off) (a + k * 604800) b + k * Tp.sumF (Tp.price base l off) a (a + 604800) := by
  obtain ⟨n, rfl⟩ := Int.eq_ofNat_of_zero_le hk
  rw [Tp.sumF_add _ (show a ≤ a + (n : Int) * 604800 by omega) h]
  have h1 : Tp.sumF (Tp.price base l off) a (a + (n : Int) * 604800) = (n : Int) * Tp.sumF (Tp.price base l off) a (a + 604800) := by
    unfold Tp.sumF
    rw [show (a + (n : Int) * 604800 - a).toNat = 604800 * n by omega, show (a + 604800 - a).toNat = 604800 by omega]
    exact Tp.sumN_period (d := 604800) (fun t => by have := Tp.price_week base l off t 1; simpa using this) a n
  omega
theorem sumF_bound {base : Int} {l : List Tp.Rate} (hv : Tp.valid base l = true) (off a b : Int) (hab : a ≤ b) : 0 ≤ Tp.sumF (Tp.price base l off) a b ∧ Tp.sumF (Tp.price base l off) a b ≤ 1000000 * (b - a) := by
  have := Tp.sumN_bound (f := Tp.price base l off) (a := a) (M := 1000000) (b - a).toNat (fun t => (Tp.price_bound hv off t).1) (fun t => (Tp.price_bound hv off t).2)
  unfold Tp.sumF
  omega
set_option maxRecDepth 100000 in
set_option maxHeartbeats 4000000 in
theorem sum_any (base : Int) (L : List Tp.Rate) (A : Option Addr) (cap : Nat) (off a b : Int) (w : World) (hT : Tar w base L A cap) (hv : Tp.valid base L = true) (hoff : -50400 ≤ off ∧ off ≤ 50400) (h0 : 0 ≤ a) (hab : a ≤ b) (hb7 : b ≤ 15000000) :
    Calls Tryz.prog 57 #[.agg #[.slice A L.length cap, .int .i64 base], .int .i64 off, .agg #[.int .i64 a, .int .i64 b]] w fun e w' => e = .returned (.int .i64 (Tp.sumF (Tp.price base L off) a b)) ∧ Below w.heap.size w w' := by
  obtain ⟨k, hk⟩ : ∃ k, k = (b - a) / 604800 := ⟨_, rfl⟩
  have hk0 : 0 ≤ k := by omega
  have hk1 : a + k * 604800 ≤ b := by omega
  have hk2 : k ≤ 30 := by omega
  have hsw : Kp (Tp.sumF (Tp.price base L off) a b = Tp.sumF (Tp.price base L off) (a + k * 604800) b + k * Tp.sumF (Tp.price base L off) a (a + 604800)) := ⟨sum_weeks base L off hk0 hk1⟩
  have s1 := sumF_bound hv off (a + k * 604800) b hk1
  have s2 := sumF_bound hv off a (a + 604800) (by omega)
  have b1 := bNewW w (.cells #[.slice A L.length cap, .int .i64 base] 26)
  have b2 := bNew b1 (.cells #[.int .i64 off] 3)
  have b3 := bNew b2 (.cells #[.int .i64 a, .int .i64 b] 28)
  have B1 := ((Bx.mk w 26 #[.slice A L.length cap, .int .i64 base]).new (.cells #[.int .i64 off] 3)).new (.cells #[.int .i64 a, .int .i64 b] 28)
  have B2 := (Bx.mk (w.alloc (.cells #[.slice A L.length cap, .int .i64 base] 26)) 3 #[.int .i64 off]).new (.cells #[.int .i64 a, .int .i64 b] 28)
  rw [alloc_size] at B2
  have B3 := Bx.mk ((w.alloc (.cells #[.slice A L.length cap, .int .i64 base] 26)).alloc (.cells #[.int .i64 off] 3)) 28 #[.int .i64 a, .int .i64 b]
  rw [alloc_size, alloc_size] at B3
  have hadd := fun (x y : Int) (w1 : World) (hb1 : Below w.heap.size w w1) (x1 : Bx w1 w.heap.size 26 #[.slice A L.length cap, .int .i64 base]) (x2 : Bx w1 (w.heap.size + 1) 3 #[.int .i64 off]) (h1 : 0 ≤ x) (h2 : x ≤ y) (h3 : y ≤ 20000000) =>
    add_any base L A cap off x y w.heap.size (w.heap.size + 1) w1 hv hoff h1 h2 h3 hT.r64 hT.cap ((hT.at_.below hb1).more hb1.size) x1 x2
  have hA1 := hadd (a + k * 604800) b _ b3 B1 B2 (by omega) (by omega) (by omega)
  have hA2 := fun w1 hb1 x1 x2 => hadd a (a + 604800) w1 hb1 x1 x2 h0 (by omega) (by omega)
  have c0 := B3.cell 0 rfl
  have c1 := B3.cell 1 rfl
  generalize Tp.sumF (Tp.price base L off) (a + k * 604800) b = y1 at *
  generalize Tp.sumF (Tp.price base L off) a (a + 604800) = y2 at *
  generalize Tp.sumF (Tp.price base L off) a b = y at *
  have hkk : Kp ((b - a) / 604800 = k) := ⟨hk.symm⟩
  have m1 : 0 ≤ k * y2 := Int.mul_nonneg hk0 s2.1
  have m2 : k * y2 ≤ 30 * (1000000 * 604800) := Int.mul_le_mul hk2 (by omega) s2.1 (by omega)
  clear hadd hk hT b1 b2
  by_cases hp : 0 < k
  · go_enter Tryz.func57, Tryz.ntmps57
    go_upto_region 3 with fail
    rw [hkk.out]
    clear hkk
    go_wp2_with fail
    refine hA1.mono ?_
    rintro _ w1 ⟨rfl, hb1⟩
    have d0 := (B3.call hb1).cell 0 rfl
    have d1 := (B3.call hb1).cell 1 rfl
    go_wp2_with fail
    refine (hA2 _ (bCall b3 hb1) (B1.call hb1) (B2.call hb1)).mono ?_
    rintro _ w2 ⟨rfl, hb2⟩
    go_wp2
    go_ret
    exact ⟨ret_int hsw.out.symm, bCall (bCall b3 hb1) hb2⟩
  · have hz : Kp (k * y2 = 0) := ⟨by rw [show k = 0 by omega, Int.zero_mul]⟩
    have t0 : decide (k > 0) = false := by simp; omega
    clear hA2 m1 m2
    go_enter Tryz.func57, Tryz.ntmps57
    go_upto_region 3 with fail
    rw [hkk.out]
    go_wp2_with fail
    refine hA1.mono ?_
    rintro _ w1 ⟨rfl, hb1⟩
    go_wp2
    go_ret
    exact ⟨ret_int (by rw [hsw.out, hz.out, Int.add_zero]), bCall b3 hb1⟩
end Go.Proofs.YtfebcokmnhdbmaaGreatDoor

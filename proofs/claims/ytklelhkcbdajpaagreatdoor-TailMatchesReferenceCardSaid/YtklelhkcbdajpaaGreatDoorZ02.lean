/- Plain facts for TailCombines: sums of few fractions stay small. Row of dialtoneref35: a row of Pascal's triangle, as texts. -/
import Derived.Test.YtklelhkcbdajpaaGreatDoorZ00
import Derived.Test.YtklelhkcbdajpaaGreatDoorY02
import Derived.Test.YtklelhkcbdajpaaGreatDoorX10
set_option linter.unusedVariables false
set_option linter.unusedSimpArgs false
set_option maxRecDepth 100000
set_option maxHeartbeats 8000000
namespace Tb
theorem rq_den (p : Int × Int) : (rq p).den ≤ 60 := by
  have h1 := Tp.pick_lt p.2 (show (0 : Int) < 60 by decide)
  have := den_make (n := Tp.pick p.1 (1 + Tp.pick p.2 60 + 1)) (d := 1 + Tp.pick p.2 60) (by omega)
  unfold rq; omega
theorem ratios_in {x : List (Int × Int)} {q : Rat} (h : q ∈ ratios x) : 0 ≤ q ∧ q ≤ 1 ∧ q.den ≤ 60 := by
  obtain ⟨p, -, rfl⟩ := List.mem_map.1 h
  exact ⟨(rq_in p).1, (rq_in p).2.1, rq_den p⟩
theorem q60 {q : Rat} (h : 0 ≤ q ∧ q ≤ 1 ∧ q.den ≤ 60) : Rq.Qz 2 2 q := qz_unit h.1 h.2.1 (by unfold Rq.Sz; rw [Int.natAbs_natCast]; omega)
end Tb
namespace Go.Proofs.YtklelhkcbdajpaaGreatDoor
open Go.RowKit Go.Shelf
theorem LQ.ne {p q : Rat} {a b c d : List UInt8} (hp : LQ p a b) (hq : LQ q c d) (h : p ≠ q) : ¬ (a = c ∧ b = d) := fun ⟨h1, h2⟩ => by
  subst h1 h2
  have e1 := Ig.itoa_inj (hp.out.1.trans hq.out.1.symm)
  have e2 := Ig.itoa_inj (hp.out.2.trans hq.out.2.symm)
  exact h (Rat.ext e1 (by exact_mod_cast e2))
theorem at_ptr {α : Type} {size : Nat} {f : α → List Value} {W : World} {B : Nat} {C : Option Addr} {L : List α} (h : At size f W B C L) (h0 : 0 < L.length) : ∃ b off, C = some ⟨b, off, none⟩ := by
  obtain ⟨b, off, rfl, -, -⟩ := h h0
  exact ⟨b, off, rfl⟩
theorem RowZ.off {e : TypeId} {size B n : Nat} {fl : List Value} {v : Value} {W : World} (h : RowZ e size B n fl v W) {p : Addr} (hp : p.block < B) (u : Value) : RowZ e size B n fl v (W.setCell p u) := by
  rcases h with h | ⟨cap, ⟨g, cells, e1, hg, hn, hB, hs, hf⟩, hm⟩
  · exact .inl h
  · exact .inr ⟨cap, ⟨g, cells, e1, hg, hn, hB.far (by omega) u, hs, hf⟩, hm⟩
structure CbI (w wN : World) (gZ gR gS : Nat) (cz cr cs : Array Value) (C : Option Addr) (L : List Rat) (W : World) : Prop where
  st : SE w W
  bz : Bx W gZ 24 cz
  br : Bx W gR 33 cr
  bs : Bx W gS 33 cs
  at_ : At 2 ratV W gS C L
  sz : wN.heap.size ≤ W.heap.size
section
variable {w wN W W' : World} {gZ gR gS : Nat} {cz cr cs : Array Value} {C : Option Addr} {L : List Rat}
theorem CbI.up (h : CbI w wN gZ gR gS cz cr cs C L W) (o : gZ < gS ∧ gR < gS ∧ gS < wN.heap.size ∧ w.heap.size ≤ gS) (hE : Env w) (hb : Below wN.heap.size W W') : CbI w wN gZ gR gS cz cr cs C L W' := by
  obtain ⟨o1, o2, o3, o4⟩ := o
  have hbl := h.st.bl.trans (hb.mono (by omega))
  exact ⟨⟨hbl, hE.below hbl⟩, h.bz.below hb (by omega), h.br.below hb (by omega), h.bs.below hb o3, h.at_.below (hb.mono (by omega)), Nat.le_trans h.sz hb.size⟩
theorem CbI.call (h : CbI w wN gZ gR gS cz cr cs C L W) (o : gZ < gS ∧ gR < gS ∧ gS < wN.heap.size ∧ w.heap.size ≤ gS) (hE : Env w) (hb : Below W.heap.size W W') : CbI w wN gZ gR gS cz cr cs C L W' := h.up o hE (hb.mono h.sz)
end
end Go.Proofs.YtklelhkcbdajpaaGreatDoor
namespace Go.Proofs.YtklelhkcbdajpaaGreatDoor
open Go.RowKit Go.Shelf
def prow (n : Nat) : List (List UInt8) := (List.range (n + 1)).map (pt n)
theorem prow_len (n : Nat) : (prow n).length = n + 1 := by simp [prow]
theorem prow_get {n k : Nat} (h : k < n + 1) : (prow n)[k]? = some (pt n k) := by simp [prow, h]
theorem prow_take_one (n : Nat) : (prow (n + 1)).take 1 = [Lib.itoa 1] := by
  have h : (prow (n + 1))[0]? = some (pt (n + 1) 0) := prow_get (by omega)
  have h0 : pt (n + 1) 0 = Lib.itoa 1 := by unfold pt; rw [Tb.ch_zero]; rfl
  rw [show (1 : Nat) = 0 + 1 from rfl, List.take_add_one, h, h0]; rfl
theorem prow_take_succ {n k : Nat} (h : k < n + 1) : (prow n).take (k + 1) = (prow n).take k ++ [pt n k] := by
  rw [List.take_add_one, prow_get h]; rfl
theorem prow_last (n : Nat) : prow (n + 1) = (prow (n + 1)).take (n + 1) ++ [Lib.itoa 1] := by
  have h := prow_take_succ (n := n + 1) (k := n + 1) (by omega)
  rw [List.take_of_length_le (by rw [prow_len]; omega)] at h
  have h0 : pt (n + 1) (n + 1) = Lib.itoa 1 := by unfold pt; rw [Tb.ch_self]; rfl
  rw [h0] at h
  exact h
theorem RowC.lower {e : TypeId} {size B B' cap n : Nat} {flat : List Value} {v : Value} {w : World} (h : RowC e size B cap n flat v w) (hB : B' ≤ B) : RowC e size B' cap n flat v w := by
  obtain ⟨g, cells, h1, h2, h3, h4, h5, h6⟩ := h
  exact ⟨g, cells, h1, Nat.le_trans hB h2, h3, h4, h5, h6⟩
theorem row_cell {g k m : Nat} {cells : Array Value} {W : World} {l : List (List UInt8)} {s : List UInt8} (hB : Bx W g 9 cells) (hf : cells.toList.take (m * 1) = l.flatMap strC) (hk : l[k]? = some s) (hkm : k < m) : W.cell? ⟨g, k, none⟩ = some (.string ⟨s.toArray⟩) := by
  refine hB.cell k ?_
  have h2 : (cells.toList.take (m * 1))[k]? = some (.string ⟨s.toArray⟩) := by
    rw [hf]
    have := flat_get (f := strC) (size := 1) strC_len l k 0 _ hk (by decide)
    rw [Nat.mul_one, Nat.add_zero] at this
    rw [this]; rfl
  rw [List.getElem?_take, if_pos (by omega)] at h2
  simpa using h2
theorem rRow_any (n : Nat) (w : World) (hn : n ≤ 100) :
    Calls Tryz.prog 35 #[.int .i64 n] w fun e w' => (∃ v, e = .returned v ∧ RowN 9 1 w.heap.size (n + 1) ((prow n).flatMap strC) v w') ∧ Below w.heap.size w w' := by
  have h49 : Kp (Lib.itoa 1 = [49]) := ⟨by decide +kernel⟩
  have hb0 := bNewW w (.cells #[.string { data := #[49] }] 9)
  have B0 := Bx.mk w 9 #[.string { data := #[49] }]
  go_enter Tryz.func35, Tryz.ntmps35
  go_wp2_with fail
  go_loopw [3, 4] (fun s3 s4 wr => ∃ i : Nat, s4 = .int .i64 i ∧ i ≤ n ∧ RowN 9 1 w.heap.size (i + 1) ((prow i).flatMap strC) s3 wr ∧ Below w.heap.size w wr) (fun _ s4 _ => n - (intOf s4).toNat)
  case atStart => exact ⟨0, rfl, Nat.zero_le _, ⟨1, ⟨w.heap.size, _, rfl, Nat.le_refl _, Nat.le_refl _, B0, rfl, by rw [show prow 0 = [[49]] by unfold prow pt; simp [Tb.ch_zero]; exact h49.out]; rfl⟩, by decide⟩, hb0⟩
  case round =>
    clear hb0 B0
    obtain ⟨i, rfl, hi, ⟨cap, hR, hcm⟩, hb⟩ := hrel
    by_cases hlt : i < n
    · have t0 : decide ((i : Int) < (n : Int)) = true := by simp; omega
      generalize wr = W1 at *
      obtain ⟨g, cells, rfl, hg, hkc, hB, hcs, hfl⟩ := hR
      have hgl := hB.lt
      have hcell : ∀ (W : World), Below W1.heap.size W1 W → ∀ k, k < i + 1 → W.cell? ⟨g, k, none⟩ = some (.string ⟨(pt i k).toArray⟩) := fun W hW k hk => row_cell (hB.call hW) hfl (prow_get hk) hk
      replace hcell := Kp.mk hcell
      have hb1 := bNewW W1 (.cells #[.string { data := #[49] }] 9)
      have B1 := Bx.mk W1 9 #[.string { data := #[49] }]
      have hp1 := Kp.mk (prow_take_one i)
      clear hfl hcs hB
      go_wp2_with fail
      go_loopw [5, 6] (fun s5 s6 wr2 => ∃ k : Nat, s6 = .int .i64 k ∧ 1 ≤ k ∧ k ≤ i + 1 ∧ RowN 9 1 W1.heap.size k (((prow (i + 1)).take k).flatMap strC) s5 wr2 ∧ Below W1.heap.size W1 wr2) (fun _ s6 _ => i + 1 - (intOf s6).toNat)
      case atStart => exact ⟨1, rfl, Nat.le_refl _, by omega, ⟨1, ⟨W1.heap.size, _, rfl, Nat.le_refl _, Nat.le_refl _, B1, rfl, by rw [hp1.out, h49.out]; rfl⟩, by decide⟩, hb1⟩
      case round =>
        clear hb1 B1
        obtain ⟨k, rfl, hk1, hk, ⟨cap2, hR2, hcm2⟩, hbi⟩ := hrel
        by_cases hlk : k < i + 1
        · have t1 : decide ((k : Int) < ((i + 1 : Nat) : Int)) = true := by simp; omega
          have t1' : decide ((k : Int) < (i : Int) + 1) = true := by simp; omega
          have hR2' := hR2
          obtain ⟨g2, cells2, rfl, hg2, hkc2, hB2, hcs2, hfl2⟩ := hR2'
          obtain ⟨k', rfl⟩ : ∃ k', k = k' + 1 := ⟨k - 1, by omega⟩
          have sS := fun (w1 : World) => rplus_s w1 (pt_sum i k') (pt_sum i (k' + 1)) (pt_sum (i + 1) (k' + 1)) ⟨by rw [Tb.ch_succ]; push_cast; rfl⟩ (Tb.ch_sz (by omega) k') (Tb.ch_sz (by omega) (k' + 1)) (Tb.ch_sz (by omega) (k' + 1)) (by decide) (by decide) (by decide)
          have hca := fun (W : World) (hW : Below wr.heap.size wr W) => hcell.out W (bCall hbi hW) k' (by omega)
          have hcb := fun (W : World) (hW : Below wr.heap.size wr W) => hcell.out W (bCall hbi hW) (k' + 1) (by omega)
          have hnx : Kp (((prow (i + 1)).take (k' + 1)).flatMap strC ++ [.string ⟨(pt (i + 1) (k' + 1)).toArray⟩] = ((prow (i + 1)).take (k' + 1 + 1)).flatMap strC) := ⟨by rw [prow_take_succ (show k' + 1 < i + 1 + 1 by omega), List.flatMap_append]; rfl⟩
          generalize pt i k' = sa at *
          generalize pt i (k' + 1) = sb at *
          generalize hsn : pt (i + 1) (k' + 1) = sn at *
          clear hsn hcell hp1 hfl2 hcs2 hB2
          have hcast : ((k' + 1 : Nat) : Int) - 1 = (k' : Int) := by omega
          go_wp2
          refine wp_region_rgl [Eqv (.slice (some ⟨g2, 0, none⟩) (k' + 1) cap2), Eqv (.slice (some ⟨g, 0, none⟩) (i + 1) cap), Eqv (.int .i64 ((k' + 1 : Nat) : Int)), Eqv (.int .i64 (k' : Int)), Eqv (.pointer (some ⟨g, k', none⟩)), Eqv (.string ⟨sa.toArray⟩), Eqv (.slice (some ⟨g, 0, none⟩) (i + 1) cap), Eqv (.int .i64 ((k' + 1 : Nat) : Int)), Eqv (.pointer (some ⟨g, k' + 1, none⟩)), Eqv (.string ⟨sb.toArray⟩), Eqv (.string ⟨sn.toArray⟩), RowC 9 1 wr.heap.size 1 1 [.string ⟨sn.toArray⟩]] 12 37 (by kernel_rfl) rfl rfl (by kernel_rfl) ?_ ?_ ?_
          · simp only [AllS]
            repeat' apply And.intro
            all_goals first | exact stab_eqv _ | exact stab_rowC _ _ _ _ _ _ | trivial
          · simp only [Users, List.take, List.length]
            refine ⟨?_, ?_, ?_, ?_, ?_, ?_, ?_, ?_, ?_, ?_, ?_, ?_, trivial⟩
            all_goals (intro vs w1 hb1 hd; simp only [putD, Act.put, List.nil_append, List.cons_append, List.setIfInBounds_toArray, List.set_cons_succ, List.set_cons_zero, Nat.reduceAdd])
            · clear hd sS hca hcb; go_wp2; exact ⟨Below.refl _ _, rfl⟩
            · clear hd sS hca hcb; go_wp2; exact ⟨Below.refl _ _, rfl⟩
            · clear hd sS hca hcb; go_wp2; first | exact ⟨Below.refl _ _, rfl⟩ | exact ⟨Below.refl _ _, by simp [Eqv]⟩
            · have h2 : vs 2 = _ := hd 2 rfl
              clear hd sS hca hcb; rw [h2]; go_wp2; first | exact ⟨Below.refl _ _, rfl⟩ | exact ⟨Below.refl _ _, by simp [Eqv]⟩
            · have h1 : vs 1 = _ := hd 1 rfl
              have h3 : vs 3 = _ := hd 3 rfl
              have hki : k' < i + 1 := by omega
              clear hd sS hca hcb; rw [h1, h3]; go_wp2; first | exact ⟨Below.refl _ _, rfl⟩ | exact ⟨Below.refl _ _, by simp [Eqv]⟩
            · have h4 : vs 4 = _ := hd 4 rfl
              have c1 := hca w1 hb1
              clear hd sS hca hcb; rw [h4]; go_wp2; exact ⟨Below.refl _ _, rfl⟩
            · clear hd sS hca hcb; go_wp2; exact ⟨Below.refl _ _, rfl⟩
            · clear hd sS hca hcb; go_wp2; first | exact ⟨Below.refl _ _, rfl⟩ | exact ⟨Below.refl _ _, by simp [Eqv]⟩
            · have h6 : vs 6 = _ := hd 6 rfl
              have h7 : vs 7 = _ := hd 7 rfl
              clear hd sS hca hcb; rw [h6, h7]; go_wp2; first | exact ⟨Below.refl _ _, rfl⟩ | exact ⟨Below.refl _ _, by simp [Eqv]⟩
            · have h8 : vs 8 = _ := hd 8 rfl
              have c1 := hcb w1 hb1
              clear hd sS hca hcb; rw [h8]; go_wp2; exact ⟨Below.refl _ _, rfl⟩
            · have h5 : vs 5 = _ := hd 5 rfl
              have h9 : vs 9 = _ := hd 9 rfl
              have hC := sS w1
              clear hd sS hca hcb; rw [h5, h9]
              go_wp2_with fail
              refine hC.mono ?_
              clear hC
              rintro _ w9 ⟨rfl, hb9⟩
              go_wp2
              first | rfl | exact ⟨hb9, rfl⟩
            · have h10 : vs 10 = _ := hd 10 rfl
              clear hd sS hca hcb; rw [h10]; go_wp2
              exact ⟨(Below.refl _ _).alloc (Nat.le_refl _) _, _, _, rfl, hb1.size, Nat.le_refl _, Bx.mk _ _ _, rfl, rfl⟩
          · clear sS hca hcb
            intro vs w1 hb1 hRR
            simp only [AllR, Eqv] at hRR
            obtain ⟨e0, e1, e2, e3, e4, e5, e6, e7, e8, e9, e10, e11, -⟩ := hRR
            simp only [List.drop, List.take, List.map, putD, Act.put, List.setIfInBounds_toArray, List.set_cons_succ, List.set_cons_zero, Nat.reduceAdd]
            have hR1 := stab_rowC _ _ _ _ _ _ _ _ _ hR2 hb1
            refine wpList_append_strs rfl (.tmp 20) (.tmp 31) rfl W1.heap.size cap2 (k' + 1) 1 (((prow (i + 1)).take (k' + 1)).flatMap strC) [.string ⟨sn.toArray⟩] (vs 0) (vs 11) rfl rfl (by rw [e0]; exact hR1) (Nat.le_trans hbi.size hb1.size) (RowC.src (fun u hu => by simp at hu; subst hu; rfl) strsT e11) hcm2 (by omega) ?_
            intro v' w' cap' f1 f2 f3 f4
            rw [hnx.out] at f3
            have hbN := (bCall hbi hb1).trans f1
            clear f1 f2 e0 e1 e2 e3 e4 e5 e6 e7 e8 e9 e10 e11 hR1 hR2 hnx
            go_wp2
            exact ⟨⟨k' + 1 + 1, by go_num, by omega, by omega, ⟨cap', f3, f4⟩, hbN⟩, by simp [intOf] <;> omega⟩
        · obtain rfl : k = i + 1 := by omega
          have t1 : decide (((i + 1 : Nat) : Int) < ((i + 1 : Nat) : Int)) = false := by simp
          have hR2' := hR2
          obtain ⟨g2, cells2, rfl, hg2, hkc2, hB2, hcs2, hfl2⟩ := hR2'
          have hn1 := bNewW wr (.cells #[.string { data := #[49] }] 9)
          have hR1 := stab_rowC _ _ _ _ _ _ _ _ _ hR2 hn1
          have hbn := bCall hbi hn1
          have hsrc := RowC.src (P := Tryz.prog) (B := wr.heap.size) (cap := 1) (e := 9) (t := 61) (fun u hu => by simp at hu; subst hu; rfl) strsT (show RowC 9 1 wr.heap.size 1 1 [.string { data := #[49] }] (.slice (some ⟨wr.heap.size, 0, none⟩) 1 1) (wr.alloc (.cells #[.string { data := #[49] }] 9)) from ⟨wr.heap.size, _, rfl, Nat.le_refl _, Nat.le_refl _, Bx.mk _ _ _, rfl, rfl⟩)
          have hnx : Kp (((prow (i + 1)).take (i + 1)).flatMap strC ++ [.string { data := #[49] }] = (prow (i + 1)).flatMap strC) := ⟨by
            have h := congrArg (fun l => l.flatMap strC) (prow_last i)
            rw [List.flatMap_append, h49.out] at h
            exact h.symm⟩
          clear hB2 hcs2 hfl2 hcell hp1 hR2
          go_wp2_with (at_builtin; refine wpList_append_strs rfl (.tmp 33) (.tmp 34) rfl W1.heap.size cap2 (i + 1) 1 (((prow (i + 1)).take (i + 1)).flatMap strC) [.string { data := #[49] }] _ _ rfl rfl hR1 hbn.size hsrc hcm2 (by omega) ?_; intro v' w' cap' f1 f2 f3 f4; rw [hnx.out] at f3; replace f3 := Kp.mk f3)
          exact ⟨⟨i + 1, by go_num, by omega, ⟨cap', f3.out.lower hb.size, f4⟩, hb.trans ((hbn.trans f1).mono hb.size)⟩, by simp [intOf] <;> omega⟩
    · obtain rfl : i = n := by omega
      have hR2 := hR
      obtain ⟨g, cells, rfl, -, -, -, -, -⟩ := hR2
      go_wp2
      go_ret
      exact ⟨⟨_, rfl, cap, hR, hcm⟩, hb⟩
end Go.Proofs.YtklelhkcbdajpaaGreatDoor

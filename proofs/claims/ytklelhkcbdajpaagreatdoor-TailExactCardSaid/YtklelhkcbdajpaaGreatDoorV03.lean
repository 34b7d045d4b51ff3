/- Row of dialtoneref35: a row of Pascal's triangle, as texts. One store into memory that a drawn region makes; blocks of other types that the region makes stay. times of dialtonelaw35: the product of three integers; products of small fractions. -/
import Derived.Test.YtklelhkcbdajpaaGreatDoorU02
import Derived.Test.YtklelhkcbdajpaaGreatDoorQ10
import Derived.Test.YtklelhkcbdajpaaGreatDoorU03
import Derived.Test.YtklelhkcbdajpaaGreatDoorV01
import Derived.Test.YtklelhkcbdajpaaGreatDoorV00
namespace Go.Proofs.YtklelhkcbdajpaaGreatDoor
set_option linter.unusedVariables false
set_option linter.unusedSimpArgs false
open Go.RowKit Go.Shelf
/-- a row of Pascal's triangle -/
def prow (n : Nat) : List (List UInt8) := (List.range (n + 1)).map (pt n)
theorem prow_len (n : Nat) : (prow n).length = n + 1 := by simp [prow]
theorem prow_get {n k : Nat} (h : k < n + 1) : (prow n)[k]? = some (pt n k) := by simp [prow, h]
theorem prow_take_one (n : Nat) : (prow (n + 1)).take 1 = [Lib.itoa 1] := by
  have h : (prow (n + 1))[0]? = some (pt (n + 1) 0) := prow_get (by omega)
  have h0 : pt (n + 1) 0 = Lib.itoa 1 := by unfold pt; rw [Tb.ch_zero]; rfl
  rw [show (1 : Nat) = 0 + 1 from rfl, List.take_add_one, h, h0]; rfl
theorem prow_take_succ {n k : Nat} (h : k < n + 1) : (prow n).take (k + 1) = (prow n).take k ++ [pt n k] := by
  rw [List.take_add_one, prow_get h]; rfl
theorem prow_last (n : Nat) : prow (n + 1) = (prow (n + 1)).take (n + 1) ++ [Lib.itoa 1] := by
  have h := prow_take_succ (n := n + 1) (k := n + 1) (by omega)
  rw [List.take_of_length_le (by rw [prow_len]; omega)] at h
  have h0 : pt (n + 1) (n + 1) = Lib.itoa 1 := by unfold pt; rw [Tb.ch_self]; rfl
  rw [h0] at h
  exact h
theorem RowC.lower {e : TypeId} {size B B' cap n : Nat} {flat : List Value} {v : Value} {w : World} (h : RowC e size B cap n flat v w) (hB : B' ≤ B) : RowC e size B' cap n flat v w := by
  obtain ⟨g, cells, h1, h2, h3, h4, h5, h6⟩ := h
  exact ⟨g, cells, h1, Nat.le_trans hB h2, h3, h4, h5, h6⟩
/-- the cell of one element of a slice of texts -/
theorem row_cell {g k m : Nat} {cells : Array Value} {W : World} {l : List (List UInt8)} {s : List UInt8} (hB : Bx W g 9 cells) (hf : cells.toList.take (m * 1) = l.flatMap strC) (hk : l[k]? = some s) (hkm : k < m) : W.cell? ⟨g, k, none⟩ = some (.string ⟨s.toArray⟩) := by
  refine hB.cell k ?_
  have h2 : (cells.toList.take (m * 1))[k]? = some (.string ⟨s.toArray⟩) := by
    rw [hf]
    have := flat_get (f := strC) (size := 1) strC_len l k 0 _ hk (by decide)
    rw [Nat.mul_one, Nat.add_zero] at this
    rw [this]; rfl
  rw [List.getElem?_take, if_pos (by omega)] at h2
  simpa using h2
set_option maxRecDepth 100000 in
set_option maxHeartbeats 8000000 in
theorem rRow_any (n : Nat) (w : World) (hn : n ≤ 100) :
    Calls Tryz.prog 35 #[.int .i64 n] w fun e w' => (∃ v, e = .returned v ∧ RowN 9 1 w.heap.size (n + 1) ((prow n).flatMap strC) v w') ∧ Below w.heap.size w w' := by
  have h49 : Kp (Lib.itoa 1 = [49]) := ⟨by decide +kernel⟩
  have hb0 := bNewW w (.cells #[.string { data := #[49] }] 9)
  have B0 := Bx.mk w 9 #[.string { data := #[49] }]
  go_enter Tryz.func35, Tryz.ntmps35
  go_wp2_with fail
  go_loopw [3, 4] (fun s3 s4 wr => ∃ i : Nat, s4 = .int .i64 i ∧ i ≤ n ∧ RowN 9 1 w.heap.size (i + 1) ((prow i).flatMap strC) s3 wr ∧ Below w.heap.size w wr) (fun _ s4 _ => n - (intOf s4).toNat)
  case atStart => exact ⟨0, rfl, Nat.zero_le _, ⟨1, ⟨w.heap.size, _, rfl, Nat.le_refl _, Nat.le_refl _, B0, rfl, by rw [show prow 0 = [[49]] by unfold prow pt; simp [Tb.ch_zero]; exact h49.out]; rfl⟩, by decide⟩, hb0⟩
  case round =>
    clear hb0 B0
    obtain ⟨i, rfl, hi, ⟨cap, hR, hcm⟩, hb⟩ := hrel
    by_cases hlt : i < n
    · have t0 : decide ((i : Int) < (n : Int)) = true := by simp; omega
      generalize wr = W1 at *
      obtain ⟨g, cells, rfl, hg, hkc, hB, hcs, hfl⟩ := hR
      have hgl := hB.lt
      have hcell : ∀ (W : World), Below W1.heap.size W1 W → ∀ k, k < i + 1 → W.cell? ⟨g, k, none⟩ = some (.string ⟨(pt i k).toArray⟩) := fun W hW k hk => row_cell (hB.call hW) hfl (prow_get hk) hk
      replace hcell := Kp.mk hcell
      have hb1 := bNewW W1 (.cells #[.string { data := #[49] }] 9)
      have B1 := Bx.mk W1 9 #[.string { data := #[49] }]
      have hp1 := Kp.mk (prow_take_one i)
      clear hfl hcs hB
      go_wp2_with fail
      go_loopw [5, 6] (fun s5 s6 wr2 => ∃ k : Nat, s6 = .int .i64 k ∧ 1 ≤ k ∧ k ≤ i + 1 ∧ RowN 9 1 W1.heap.size k (((prow (i + 1)).take k).flatMap strC) s5 wr2 ∧ Below W1.heap.size W1 wr2) (fun _ s6 _ => i + 1 - (intOf s6).toNat)
      case atStart => exact ⟨1, rfl, Nat.le_refl _, by omega, ⟨1, ⟨W1.heap.size, _, rfl, Nat.le_refl _, Nat.le_refl _, B1, rfl, by rw [hp1.out, h49.out]; rfl⟩, by decide⟩, hb1⟩
      case round =>
        clear hb1 B1
        obtain ⟨k, rfl, hk1, hk, ⟨cap2, hR2, hcm2⟩, hbi⟩ := hrel
        by_cases hlk : k < i + 1
        · have t1 : decide ((k : Int) < ((i + 1 : Nat) : Int)) = true := by simp; omega
          have t1' : decide ((k : Int) < (i : Int) + 1) = true := by simp; omega
          have hR2' := hR2
          obtain ⟨g2, cells2, rfl, hg2, hkc2, hB2, hcs2, hfl2⟩ := hR2'
          obtain ⟨k', rfl⟩ : ∃ k', k = k' + 1 := ⟨k - 1, by omega⟩
          have sS := fun (w1 : World) => rplus_s w1 (pt_sum i k') (pt_sum i (k' + 1)) (pt_sum (i + 1) (k' + 1)) ⟨by rw [Tb.ch_succ]; push_cast; rfl⟩ (Tb.ch_sz (by omega) k') (Tb.ch_sz (by omega) (k' + 1)) (Tb.ch_sz (by omega) (k' + 1)) (by decide) (by decide) (by decide)
          have hca := fun (W : World) (hW : Below wr.heap.size wr W) => hcell.out W (bCall hbi hW) k' (by omega)
          have hcb := fun (W : World) (hW : Below wr.heap.size wr W) => hcell.out W (bCall hbi hW) (k' + 1) (by omega)
          have hnx : Kp (((prow (i + 1)).take (k' + 1)).flatMap strC ++ [.string ⟨(pt (i + 1) (k' + 1)).toArray⟩] = ((prow (i + 1)).take (k' + 1 + 1)).flatMap strC) := ⟨by rw [prow_take_succ (show k' + 1 < i + 1 + 1 by omega), List.flatMap_append]; rfl⟩
          generalize pt i k' = sa at *
          generalize pt i (k' + 1) = sb at *
          generalize hsn : pt (i + 1) (k' + 1) = sn at *
          clear hsn hcell hp1 hfl2 hcs2 hB2
          have hcast : ((k' + 1 : Nat) : Int) - 1 = (k' : Int) := by omega
          go_wp2
          refine wp_region_rgl [Eqv (.slice (some ⟨g2, 0, none⟩) (k' + 1) cap2), Eqv (.slice (some ⟨g, 0, none⟩) (i + 1) cap), Eqv (.int .i64 ((k' + 1 : Nat) : Int)), Eqv (.int .i64 (k' : Int)), Eqv (.pointer (some ⟨g, k', none⟩)), Eqv (.string ⟨sa.toArray⟩), Eqv (.slice (some ⟨g, 0, none⟩) (i + 1) cap), Eqv (.int .i64 ((k' + 1 : Nat) : Int)), Eqv (.pointer (some ⟨g, k' + 1, none⟩)), Eqv (.string ⟨sb.toArray⟩), Eqv (.string ⟨sn.toArray⟩), RowC 9 1 wr.heap.size 1 1 [.string ⟨sn.toArray⟩]] 12 37 (by kernel_rfl) rfl rfl (by kernel_rfl) ?_ ?_ ?_
          · simp only [AllS]
            repeat' apply And.intro
            all_goals first | exact stab_eqv _ | exact stab_rowC _ _ _ _ _ _ | trivial
          · simp only [Users, List.take, List.length]
            refine ⟨?_, ?_, ?_, ?_, ?_, ?_, ?_, ?_, ?_, ?_, ?_, ?_, trivial⟩
            all_goals (intro vs w1 hb1 hd; simp only [putD, Act.put, List.nil_append, List.cons_append, List.setIfInBounds_toArray, List.set_cons_succ, List.set_cons_zero, Nat.reduceAdd])
            · clear hd sS hca hcb; go_wp2; exact ⟨Below.refl _ _, rfl⟩
            · clear hd sS hca hcb; go_wp2; exact ⟨Below.refl _ _, rfl⟩
            · clear hd sS hca hcb; go_wp2; first | exact ⟨Below.refl _ _, rfl⟩ | exact ⟨Below.refl _ _, by simp [Eqv]⟩
            · have h2 : vs 2 = _ := hd 2 rfl
              clear hd sS hca hcb; rw [h2]; go_wp2; first | exact ⟨Below.refl _ _, rfl⟩ | exact ⟨Below.refl _ _, by simp [Eqv]⟩
            · have h1 : vs 1 = _ := hd 1 rfl
              have h3 : vs 3 = _ := hd 3 rfl
              have hki : k' < i + 1 := by omega
              clear hd sS hca hcb; rw [h1, h3]; go_wp2; first | exact ⟨Below.refl _ _, rfl⟩ | exact ⟨Below.refl _ _, by simp [Eqv]⟩
            · have h4 : vs 4 = _ := hd 4 rfl
              have c1 := hca w1 hb1
              clear hd sS hca hcb; rw [h4]; go_wp2; exact ⟨Below.refl _ _, rfl⟩
            · clear hd sS hca hcb; go_wp2; exact ⟨Below.refl _ _, rfl⟩
            · clear hd sS hca hcb; go_wp2; first | exact ⟨Below.refl _ _, rfl⟩ | exact ⟨Below.refl _ _, by simp [Eqv]⟩
            · have h6 : vs 6 = _ := hd 6 rfl
              have h7 : vs 7 = _ := hd 7 rfl
              clear hd sS hca hcb; rw [h6, h7]; go_wp2; first | exact ⟨Below.refl _ _, rfl⟩ | exact ⟨Below.refl _ _, by simp [Eqv]⟩
            · have h8 : vs 8 = _ := hd 8 rfl
              have c1 := hcb w1 hb1
              clear hd sS hca hcb; rw [h8]; go_wp2; exact ⟨Below.refl _ _, rfl⟩
            · have h5 : vs 5 = _ := hd 5 rfl
              have h9 : vs 9 = _ := hd 9 rfl
              have hC := sS w1
              clear hd sS hca hcb; rw [h5, h9]
              go_wp2_with fail
              refine hC.mono ?_
              clear hC
              rintro _ w9 ⟨rfl, hb9⟩
              go_wp2
              first | rfl | exact ⟨hb9, rfl⟩
            · have h10 : vs 10 = _ := hd 10 rfl
              clear hd sS hca hcb; rw [h10]; go_wp2
              exact ⟨(Below.refl _ _).alloc (Nat.le_refl _) _, _, _, rfl, hb1.size, Nat.le_refl _, Bx.mk _ _ _, rfl, rfl⟩
          · clear sS hca hcb
            intro vs w1 hb1 hRR
            simp only [AllR, Eqv] at hRR
            obtain ⟨e0, e1, e2, e3, e4, e5, e6, e7, e8, e9, e10, e11, -⟩ := hRR
            simp only [List.drop, List.take, List.map, putD, Act.put, List.setIfInBounds_toArray, List.set_cons_succ, List.set_cons_zero, Nat.reduceAdd]
            have hR1 := stab_rowC _ _ _ _ _ _ _ _ _ hR2 hb1
            refine wpList_append_strs rfl (.tmp 20) (.tmp 31) rfl W1.heap.size cap2 (k' + 1) 1 (((prow (i + 1)).take (k' + 1)).flatMap strC) [.string ⟨sn.toArray⟩] (vs 0) (vs 11) rfl rfl (by rw [e0]; exact hR1) (Nat.le_trans hbi.size hb1.size) (RowC.src (fun u hu => by simp at hu; subst hu; rfl) strsT e11) hcm2 (by omega) ?_
            intro v' w' cap' f1 f2 f3 f4
            rw [hnx.out] at f3
            have hbN := (bCall hbi hb1).trans f1
            clear f1 f2 e0 e1 e2 e3 e4 e5 e6 e7 e8 e9 e10 e11 hR1 hR2 hnx
            go_wp2
            exact ⟨⟨k' + 1 + 1, by go_num, by omega, by omega, ⟨cap', f3, f4⟩, hbN⟩, by simp [intOf] <;> omega⟩
        · obtain rfl : k = i + 1 := by omega
          have t1 : decide (((i + 1 : Nat) : Int) < ((i + 1 : Nat) : Int)) = false := by simp
          have hR2' := hR2
          obtain ⟨g2, cells2, rfl, hg2, hkc2, hB2, hcs2, hfl2⟩ := hR2'
          have hn1 := bNewW wr (.cells #[.string { data := #[49] }] 9)
          have hR1 := stab_rowC _ _ _ _ _ _ _ _ _ hR2 hn1
          have hbn := bCall hbi hn1
          have hsrc := RowC.src (P := Tryz.prog) (B := wr.heap.size) (cap := 1) (e := 9) (t := 61) (fun u hu => by simp at hu; subst hu; rfl) strsT (show RowC 9 1 wr.heap.size 1 1 [.string { data := #[49] }] (.slice (some ⟨wr.heap.size, 0, none⟩) 1 1) (wr.alloc (.cells #[.string { data := #[49] }] 9)) from ⟨wr.heap.size, _, rfl, Nat.le_refl _, Nat.le_refl _, Bx.mk _ _ _, rfl, rfl⟩)
          have hnx : Kp (((prow (i + 1)).take (i + 1)).flatMap strC ++ [.string { data := #[49] }] = (prow (i + 1)).flatMap strC) := ⟨by
            have h := congrArg (fun l => l.flatMap strC) (prow_last i)
            rw [List.flatMap_append, h49.out] at h
            exact h.symm⟩
          clear hB2 hcs2 hfl2 hcell hp1 hR2
          go_wp2_with (at_builtin; refine wpList_append_strs rfl (.tmp 33) (.tmp 34) rfl W1.heap.size cap2 (i + 1) 1 (((prow (i + 1)).take (i + 1)).flatMap strC) [.string { data := #[49] }] _ _ rfl rfl hR1 hbn.size hsrc hcm2 (by omega) ?_; intro v' w' cap' f1 f2 f3 f4; rw [hnx.out] at f3; replace f3 := Kp.mk f3)
          exact ⟨⟨i + 1, by go_num, by omega, ⟨cap', f3.out.lower hb.size, f4⟩, hb.trans ((hbn.trans f1).mono hb.size)⟩, by simp [intOf] <;> omega⟩
    · obtain rfl : i = n := by omega
      have hR2 := hR
      obtain ⟨g, cells, rfl, -, -, -, -, -⟩ := hR2
      go_wp2
      go_ret
      exact ⟨⟨_, rfl, cap, hR, hcm⟩, hb⟩
end Go.Proofs.YtklelhkcbdajpaaGreatDoor
namespace Go.Proofs.YtklelhkcbdajpaaGreatDoor.RS
set_option linter.unusedVariables false
open Go.RowKit
/-- as KF; and every block but those of the type t is as it was -/
def K2 (B : Nat) (t : TypeId) (cs : Array Value) (w w' : World) : Prop := KF B t cs w w' ∧ KpE t w w'
variable {B : Nat} {t : TypeId} {cs : Array Value} {W w w' : World}
theorem cls_K2 (B : Nat) (t : TypeId) (cs : Array Value) : Cls (K2 B t cs) :=
  ⟨fun w => ⟨(cls_KF B t cs).refl w, KpE.refl t w⟩, fun h1 h2 => ⟨(cls_KF B t cs).trans h1.1 h2.1, h1.2.trans h2.2⟩, fun w n => ⟨(cls_KF B t cs).drawn w n, ⟨Nat.le_refl _, fun _ _ h _ => h⟩⟩⟩
theorem K2.rf (B : Nat) (t : TypeId) (cs : Array Value) (w : World) : K2 B t cs w w := (cls_K2 B t cs).refl w
theorem K2.call (h : K2 B t cs W w) (hB : B ≤ W.heap.size) (hb : Below w.heap.size w w') : K2 B t cs w w' := ⟨h.1.call hB hb, KpE.call hb⟩
theorem K2.new (h : K2 B t cs W w) (hB : B ≤ W.heap.size) (z : Array Value) (hz : z.size = cs.size) (x : Value) : K2 B t cs w (w.alloc (.cells z t)) ∧ PtrR B t cs x (.pointer (some ⟨w.heap.size, 0, none⟩)) (w.alloc (.cells z t)) :=
  ⟨⟨(h.1.new hB z hz x).1, KpE.call (bNew (Below.refl w.heap.size w) _)⟩, (h.1.new hB z hz x).2⟩
theorem K2.store2 {x y a b : Value} {g : Nat} (hg : B ≤ g) (hB : Bx w g t #[a, b]) (u : Value) (hu : u = .pointer (some ⟨g, 0, none⟩)) (z : Value) :
    K2 B t #[x, y] w ((w.setCell ⟨g, 0, none⟩ x).setCell ⟨g, 1, none⟩ y) ∧ StoR B t #[x, y] u z ((w.setCell ⟨g, 0, none⟩ x).setCell ⟨g, 1, none⟩ y) :=
  ⟨⟨(KF.store2 hg hB u hu z).1, (KpE.set hB 0 x).trans (KpE.set (hB.set 0 x) 1 y)⟩, (KF.store2 hg hB u hu z).2⟩
theorem stab_ptr2 (B : Nat) (t : TypeId) (cs : Array Value) : Stab (K2 B t cs) (PtrR B t cs) := fun x v w w' h k => stab_ptr B t cs x v w w' h k.1
theorem stab_sto2 (B : Nat) (t : TypeId) (cs : Array Value) : Stab (K2 B t cs) (StoR B t cs) := fun x v w w' h k => stab_sto B t cs x v w w' h k.1
/-- a slice, one of whose cells is known -/
def ElR (ty : TypeId) (k n : Nat) (s : Value) : Rl := fun _ v w => ∃ g cap cells, v = .slice (some ⟨g, 0, none⟩) n cap ∧ Bx w g ty cells ∧ cells[k]? = some s
theorem stab_el {ty : TypeId} (ht : ty ≠ t) (k n : Nat) (s : Value) : Stab (K2 B t cs) (ElR ty k n s) := fun x v w w' ⟨g, cap, cells, h1, h2, h3⟩ h => ⟨g, cap, cells, h1, h.2.bx ht h2, h3⟩
/-- a pointer to a cell that is known -/
def PtC (ty : TypeId) (k : Nat) (s : Value) : Rl := fun _ v w => ∃ g cells, v = .pointer (some ⟨g, k, none⟩) ∧ Bx w g ty cells ∧ cells[k]? = some s
theorem stab_ptc {ty : TypeId} (ht : ty ≠ t) (k : Nat) (s : Value) : Stab (K2 B t cs) (PtC ty k s) := fun x v w w' ⟨g, cells, h1, h2, h3⟩ h => ⟨g, cells, h1, h.2.bx ht h2, h3⟩
/-- a slice of one's own, known whole -/
def SlW (ty : TypeId) (n : Nat) (c : Array Value) : Rl := fun _ v w => ∃ g, v = .slice (some ⟨g, 0, none⟩) n n ∧ Bx w g ty c
theorem stab_slw {ty : TypeId} (ht : ty ≠ t) (n : Nat) (c : Array Value) : Stab (K2 B t cs) (SlW ty n c) := fun x v w w' ⟨g, h1, h2⟩ h => ⟨g, h1, h.2.bx ht h2⟩
end Go.Proofs.YtklelhkcbdajpaaGreatDoor.RS
namespace Go.Proofs.YtklelhkcbdajpaaGreatDoor
set_option linter.unusedVariables false
set_option linter.unusedSimpArgs false
open Go.RowKit Go.Shelf
theorem Mul_s {x y z : Int} {sx sy sz : List UInt8} (w : World) (hx : Ix x sx) (hy : Ix y sy) (hz : Ix z sz) (h : Kp (x * y = z)) {j k l : Nat} (fx : Rq.Sz j x) (fy : Rq.Sz k y) (fz : Rq.Sz l z) (hj : j ≤ 200) (hk : k ≤ 200) (hl : l ≤ 200) (hE : Env w) :
    Calls Tryz.prog 77 #[.string ⟨sx.toArray⟩, .string ⟨sy.toArray⟩] w fun e w' => e = .returned (.tuple #[.string ⟨sz.toArray⟩, .int .i64 0]) ∧ Below w.heap.size w w' := by
  have hC := Mul_any x y w (fx.fits hj) (fy.fits hk) hE
  rw [h.out, Ig.resS_fits (fz.fits hl), Ig.resE_fits (fz.fits hl), hx.out, hy.out, hz.out] at hC
  exact hC
set_option maxRecDepth 100000 in
set_option maxHeartbeats 4000000 in
theorem ltimes_any {a b c : Int} {sa sb sc sp : List UInt8} (g : Nat) (w : World) (ha : Ix a sa) (hb : Ix b sb) (hc : Ix c sc) (hp : Ix (a * b * c) sp) (fa : Rq.Sz 31 a) (fb : Rq.Sz 61 b) (fc : Rq.Sz 61 c)
    (hB : Bx w g 9 #[.string ⟨sa.toArray⟩, .string ⟨sb.toArray⟩, .string ⟨sc.toArray⟩]) (hE : Env w) :
    Calls Tryz.prog 34 #[.slice (some ⟨g, 0, none⟩) 3 3] w fun e w' => e = .returned (.string ⟨sp.toArray⟩) ∧ Below w.heap.size w w' := by
  obtain ⟨sab, hab⟩ := Ix.ex (a * b)
  have h1 : Ix 1 [49] := ⟨by decide +kernel⟩
  have M1 := fun w0 hE => Mul_s w0 h1 ha ha ⟨Int.one_mul a⟩ Rq.sz_one fa fa (by decide) (by decide) (by decide) hE
  have M2 := fun w0 hE => Mul_s w0 ha hb hab ⟨rfl⟩ fa fb (fa.mul fb) (by decide) (by decide) (by decide) hE
  have M3 := fun w0 hE => Mul_s w0 hab hc hp ⟨rfl⟩ (fa.mul fb) fc ((fa.mul fb).mul fc) (by decide) (by decide) (by decide) hE
  clear ha hb hc hp hab h1 fa fb fc
  go_enter Tryz.func34, Tryz.ntmps34
  go_wp2_with fail
  go_loopw [3, 4] (fun s3 s4 wr => ∃ k : Nat, s4 = .int .i64 k ∧ Below w.heap.size w wr ∧ (k = 0 ∧ s3 = .string ⟨#[49]⟩ ∨ k = 1 ∧ s3 = .string ⟨sa.toArray⟩ ∨ k = 2 ∧ s3 = .string ⟨sab.toArray⟩ ∨ k = 3 ∧ s3 = .string ⟨sp.toArray⟩)) (fun _ s4 _ => 3 - (intOf s4).toNat)
  case atStart => exact ⟨0, rfl, bStart w, .inl ⟨rfl, rfl⟩⟩
  case round =>
    obtain ⟨k, rfl, hb, hk⟩ := hrel
    have hEr := hE.below hb
    have c0 := (hB.call hb).cell 0 rfl
    have c1 := (hB.call hb).cell 1 rfl
    have c2 := (hB.call hb).cell 2 rfl
    rcases hk with ⟨rfl, rfl⟩ | ⟨rfl, rfl⟩ | ⟨rfl, rfl⟩ | ⟨rfl, rfl⟩
    · have hC := M1 wr hEr
      clear M1 M2 M3
      go_wp2_with fail
      refine hC.mono ?_
      rintro _ w1 ⟨rfl, hb1⟩
      go_wp2
      exact ⟨⟨1, rfl, bCall hb hb1, .inr (.inl ⟨rfl, rfl⟩)⟩, by simp [intOf]⟩
    · have hC := M2 wr hEr
      clear M1 M2 M3
      go_wp2_with fail
      refine hC.mono ?_
      rintro _ w1 ⟨rfl, hb1⟩
      go_wp2
      exact ⟨⟨2, rfl, bCall hb hb1, .inr (.inr (.inl ⟨rfl, rfl⟩))⟩, by simp [intOf]⟩
    · have hC := M3 wr hEr
      clear M1 M2 M3
      go_wp2_with fail
      refine hC.mono ?_
      rintro _ w1 ⟨rfl, hb1⟩
      go_wp2
      exact ⟨⟨3, rfl, bCall hb hb1, .inr (.inr (.inr ⟨rfl, rfl⟩))⟩, by simp [intOf]⟩
    · clear M1 M2 M3
      go_wp2
      go_ret
      exact ⟨rfl, hb⟩
theorem mul_qz' {a b : Rat} {j k : Nat} (ha : Rq.Qz j j a) (hb : Rq.Qz k k b) : Rq.Qz (j + k) (j + k) (a * b) := by
  rw [← Rq.mul_is]
  exact Rq.qz_divInt (Int.mul_pos (Rq.den_pos' a) (Rq.den_pos' b)) (ha.num.mul hb.num) (ha.den.mul hb.den)
theorem el_of {k m : Nat} {cells : Array Value} {l : List (List UInt8)} {s : List UInt8} (hf : cells.toList.take (m * 1) = l.flatMap strC) (hk : l[k]? = some s) (hkm : k < m) : cells[k]? = some (.string ⟨s.toArray⟩) := by
  have h2 : (cells.toList.take (m * 1))[k]? = some (.string ⟨s.toArray⟩) := by
    rw [hf]
    have := flat_get (f := strC) (size := 1) strC_len l k 0 _ hk (by decide)
    rw [Nat.mul_one, Nat.add_zero] at this
    rw [this]; rfl
  rw [List.getElem?_take, if_pos (by omega)] at h2
  simpa using h2
end Go.Proofs.YtklelhkcbdajpaaGreatDoor

/- Plain facts for TailCombines: sums of few fractions stay small. -/
import Derived.Test.YtklelhkcbdajpaaGreatDoorV00
namespace Tb
set_option linter.unusedVariables false
/-- a fraction from 0 to m with a denominator of few digits -/
theorem qz_upto {q : Rat} {m k : Nat} (h0 : 0 ≤ q) (h1 : q ≤ (m : Rat)) (hm : m ≤ 999) (hd : Rq.Sz k (q.den : Int)) : Rq.Qz (k + 3) (k + 3) q := by
  refine ⟨?_, hd.mono (by omega)⟩
  have h2 := Rat.num_nonneg.2 h0
  have h3 : q.num ≤ (m : Int) * q.den := by have := (Rat.le_iff _ _).1 h1; simpa using this
  unfold Rq.Sz at *
  rw [Int.natAbs_natCast] at hd
  have h4 : (m : Int) * q.den ≤ 999 * q.den := Int.mul_le_mul_of_nonneg_right (by omega) (by omega)
  have e : 10 ^ (k + 3) = 10 ^ k * 1000 := by rw [Nat.pow_add]
  rw [e]
  omega
theorem rsum_qz {l : List Rat} (h : ∀ r ∈ l, 0 ≤ r ∧ r ≤ 1 ∧ r.den ≤ 60) (hl : l.length ≤ 8) : Rq.Qz 18 18 (rsum l) := by
  have h0 := rsum_nonneg fun r hr => (h r hr).1
  have h1 := rsum_le fun r hr => (h r hr).2.1
  have h2 := rsum_den fun r hr => (h r hr).2.2
  refine qz_upto (m := l.length) (k := 15) h0 h1 (by omega) ?_
  unfold Rq.Sz
  rw [Int.natAbs_natCast]
  have h3 : 60 ^ l.length ≤ 60 ^ 8 := Nat.pow_le_pow_right (by decide) hl
  have h4 : 60 ^ 8 < 10 ^ 15 := by decide
  omega
theorem rq_den (p : Int × Int) : (rq p).den ≤ 60 := by
  have h1 := Tp.pick_lt p.2 (show (0 : Int) < 60 by decide)
  have := den_make (n := Tp.pick p.1 (1 + Tp.pick p.2 60 + 1)) (d := 1 + Tp.pick p.2 60) (by omega)
  unfold rq; omega
theorem ratios_in {x : List (Int × Int)} {q : Rat} (h : q ∈ ratios x) : 0 ≤ q ∧ q ≤ 1 ∧ q.den ≤ 60 := by
  obtain ⟨p, -, rfl⟩ := List.mem_map.1 h
  exact ⟨(rq_in p).1, (rq_in p).2.1, rq_den p⟩
theorem q60 {q : Rat} (h : 0 ≤ q ∧ q ≤ 1 ∧ q.den ≤ 60) : Rq.Qz 2 2 q := qz_unit h.1 h.2.1 (by unfold Rq.Sz; rw [Int.natAbs_natCast]; omega)
/-- as many equal ones -/
theorem rep_sum (q : Rat) (m : Nat) : rsum (List.replicate m q) = q * ((m : Int) : Rat) := by rw [rsum_replicate]; rfl
theorem mul_qz {q : Rat} {k m : Nat} (h0 : 0 ≤ q) (h1 : q ≤ 1) (hd : Rq.Sz k (q.den : Int)) (hm : m ≤ 20) : Rq.Qz (k + 3) (k + 3) (rsum (List.replicate m q)) := by
  have hle : rsum (List.replicate m q) ≤ (m : Rat) := by
    have := rsum_le (l := List.replicate m q) fun r hr => by rw [List.eq_of_mem_replicate hr]; exact h1
    rwa [List.length_replicate] at this
  refine qz_upto (m := m) (rsum_nonneg fun r hr => by rw [List.eq_of_mem_replicate hr]; exact h0) hle (by omega) ?_
  rw [rsum_replicate]
  have e : q * (m : Rat) = Rat.divInt (q.num * m) q.den := by
    have h := Rq.mul_is q (m : Rat)
    rw [← h]
    simp
  rw [e]
  have := den_make (n := q.num * m) (d := (q.den : Int)) (Rq.den_pos' q)
  exact sz_le (by omega) this hd
end Tb
namespace Go.Proofs.YtklelhkcbdajpaaGreatDoor
set_option linter.unusedVariables false
set_option linter.unusedSimpArgs false
open Go.RowKit Go.Shelf
theorem comb_60 {l : List Rat} (h : ∀ r ∈ l, 0 ≤ r ∧ r ≤ 1 ∧ r.den ≤ 60) (hl : l.length ≤ 8) : comb l = some (Tb.rsum l) :=
  comb_of l (j := 18) (k := 2) (by decide) (fun i hi => Tb.rsum_qz (fun r hr => h r (List.mem_of_mem_take hr)) (by rw [List.length_take]; omega)) fun q hq => Tb.q60 (h q hq)
theorem comb_rep {q : Rat} {k m : Nat} (hk : k ≤ 90) (h0 : 0 ≤ q) (h1 : q ≤ 1) (hd : Rq.Sz k (q.den : Int)) (hm : m ≤ 20) : comb (List.replicate m q) = some (Tb.rsum (List.replicate m q)) :=
  comb_of _ (j := k + 3) (k := k) (by omega) (fun i hi => by
    rw [List.length_replicate] at hi
    rw [List.take_replicate, Nat.min_eq_left hi]
    exact Tb.mul_qz h0 h1 hd (by omega)) fun r hr => by rw [List.eq_of_mem_replicate hr]; exact Tb.qz_unit h0 h1 hd
theorem cmp_le0 {x y : Rat} {c : Int} (hc : Kp (Rq.cmpQ x y = c)) (h : x ≤ y) : decide (c ≤ 0) = true := by
  rcases Rq.cmp_cases x y with ⟨e, _⟩ | ⟨e, _⟩ | ⟨e, h1⟩
  · rw [← hc.out, e]; rfl
  · rw [← hc.out, e]; rfl
  · exact absurd h (Rat.not_le.2 h1)
theorem lq1_le (q : Rat) : lq1 q ≤ 1 ∧ lq1 q ≤ q := by
  unfold lq1
  split
  · next h => exact ⟨Rat.le_refl, Rat.le_of_lt h⟩
  · next h => exact ⟨Rat.not_lt.1 h, Rat.le_refl⟩
theorem le_lq1 {q t : Rat} (h1 : q ≤ 1) (h2 : q ≤ t) : q ≤ lq1 t := by
  unfold lq1; split
  · exact h1
  · exact h2
theorem lq1_qz {q : Rat} {k : Nat} (h0 : 0 ≤ q) (hk : 1 ≤ k) (h : Rq.Qz k k q) : Rq.Qz k k (lq1 q) := by
  unfold lq1; split
  · exact Tb.qz_unit (by decide +kernel) Rat.le_refl (Rq.sz_one.mono hk)
  · exact h
/-- two fractions that differ have different texts -/
theorem LQ.ne {p q : Rat} {a b c d : List UInt8} (hp : LQ p a b) (hq : LQ q c d) (h : p ≠ q) : ¬ (a = c ∧ b = d) := fun ⟨h1, h2⟩ => by
  subst h1 h2
  have e1 := Ig.itoa_inj (hp.out.1.trans hq.out.1.symm)
  have e2 := Ig.itoa_inj (hp.out.2.trans hq.out.2.symm)
  exact h (Rat.ext e1 (by exact_mod_cast e2))
theorem ratSrc {W : World} {B : Nat} {a b : List UInt8} (hB : W.heap.size = B) : Src Tryz.prog 2 26 (.slice (some ⟨B, 0, none⟩) 1 1) 1 [.string ⟨a.toArray⟩, .string ⟨b.toArray⟩] (W.alloc (.cells #[.string ⟨a.toArray⟩, .string ⟨b.toArray⟩] 33)) := by
  subst hB
  exact RowC.src (P := Tryz.prog) (B := W.heap.size) (cap := 1) (e := 33) (size := 2) (t := 26) (fun u hu => by simp at hu; rcases hu with rfl | rfl <;> rfl) Tryz.underlying26 (show RowC 33 2 W.heap.size 1 1 [.string ⟨a.toArray⟩, .string ⟨b.toArray⟩] (.slice (some ⟨W.heap.size, 0, none⟩) 1 1) (W.alloc (.cells #[.string ⟨a.toArray⟩, .string ⟨b.toArray⟩] 33)) from ⟨W.heap.size, _, rfl, Nat.le_refl _, Nat.le_refl _, Bx.mk _ _ _, rfl, rfl⟩)
/-- the cells of one fraction of a slice -/
theorem cell_ratV {W : World} {B b off : Nat} {L : List Rat} (h : At 2 ratV W B (some ⟨b, off, none⟩) L) {j : Nat} (hj : j < L.length) {qa qb : List UInt8} (lq : LQ L[j] qa qb) : b < B ∧ W.cell? ⟨b, off + j * 2, none⟩ = some (.string ⟨qa.toArray⟩) ∧ W.cell? ⟨b, off + j * 2 + 1, none⟩ = some (.string ⟨qb.toArray⟩) := by
  obtain ⟨b', off', he, hb, hc⟩ := h (by omega)
  cases he
  have e1 := ratV_is lq
  exact ⟨hb, hc j _ (List.getElem?_eq_getElem hj) 0 _ (by rw [e1]; rfl), hc j _ (List.getElem?_eq_getElem hj) 1 _ (by rw [e1]; rfl)⟩
theorem at_ptr {α : Type} {size : Nat} {f : α → List Value} {W : World} {B : Nat} {C : Option Addr} {L : List α} (h : At size f W B C L) (h0 : 0 < L.length) : ∃ b off, C = some ⟨b, off, none⟩ := by
  obtain ⟨b, off, rfl, -, -⟩ := h h0
  exact ⟨b, off, rfl⟩
theorem RowZ.off {e : TypeId} {size B n : Nat} {fl : List Value} {v : Value} {W : World} (h : RowZ e size B n fl v W) {p : Addr} (hp : p.block < B) (u : Value) : RowZ e size B n fl v (W.setCell p u) := by
  rcases h with h | ⟨cap, ⟨g, cells, e1, hg, hn, hB, hs, hf⟩, hm⟩
  · exact .inl h
  · exact .inr ⟨cap, ⟨g, cells, e1, hg, hn, hB.far (by omega) u, hs, hf⟩, hm⟩
/-- the state of the loop of TailCombines -/
structure CbI (w wN : World) (gZ gR gS : Nat) (cz cr cs : Array Value) (C : Option Addr) (L : List Rat) (W : World) : Prop where
  st : SE w W
  bz : Bx W gZ 24 cz
  br : Bx W gR 33 cr
  bs : Bx W gS 33 cs
  at_ : At 2 ratV W gS C L
  sz : wN.heap.size ≤ W.heap.size
section
variable {w wN W W' : World} {gZ gR gS : Nat} {cz cr cs : Array Value} {C : Option Addr} {L : List Rat}
theorem CbI.up (h : CbI w wN gZ gR gS cz cr cs C L W) (o : gZ < gS ∧ gR < gS ∧ gS < wN.heap.size ∧ w.heap.size ≤ gS) (hE : Env w) (hb : Below wN.heap.size W W') : CbI w wN gZ gR gS cz cr cs C L W' := by
  obtain ⟨o1, o2, o3, o4⟩ := o
  have hbl := h.st.bl.trans (hb.mono (by omega))
  exact ⟨⟨hbl, hE.below hbl⟩, h.bz.below hb (by omega), h.br.below hb (by omega), h.bs.below hb o3, h.at_.below (hb.mono (by omega)), Nat.le_trans h.sz hb.size⟩
theorem CbI.call (h : CbI w wN gZ gR gS cz cr cs C L W) (o : gZ < gS ∧ gR < gS ∧ gS < wN.heap.size ∧ w.heap.size ≤ gS) (hE : Env w) (hb : Below W.heap.size W W') : CbI w wN gZ gR gS cz cr cs C L W' := h.up o hE (hb.mono h.sz)
theorem CbI.setS (h : CbI w wN gZ gR gS cz cr cs C L W) (o : gZ < gS ∧ gR < gS ∧ gS < wN.heap.size ∧ w.heap.size ≤ gS) (hE : Env w) (i : Nat) (u : Value) : CbI w wN gZ gR gS cz cr (cs.setIfInBounds i u) C L (W.setCell ⟨gS, i, none⟩ u) := by
  obtain ⟨o1, o2, o3, o4⟩ := o
  have hbl := bSet h.st.bl (p := ⟨gS, i, none⟩) o4 u
  have hb := (Below.refl gS W).setCell (p := ⟨gS, i, none⟩) (Nat.le_refl _) u
  exact ⟨⟨hbl, hE.below hbl⟩, h.bz.below hb o1, h.br.below hb o2, h.bs.set i u, h.at_.below hb, Nat.le_trans h.sz hb.size⟩
end
end Go.Proofs.YtklelhkcbdajpaaGreatDoor

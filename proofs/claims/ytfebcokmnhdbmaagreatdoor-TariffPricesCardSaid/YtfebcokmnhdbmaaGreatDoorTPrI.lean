/- The law of prices: what the rounds keep that make two further tariffs. -/
import Derived.Test.YtfebcokmnhdbmaaGreatDoorQ04
import Derived.Test.YtfebcokmnhdbmaaGreatDoorQ05
import Derived.Test.YtfebcokmnhdbmaaGreatDoorRowF
namespace Go.Proofs.YtfebcokmnhdbmaaGreatDoor
set_option linter.unusedVariables false
set_option linter.unusedSimpArgs false
open Go.RowKit Go.Shelf
/-- other prices at the same times, so far -/
structure LkTo (g : Int → Int → Prop) (L M : List Tp.Rate) (k : Nat) : Prop where
  len : M.length = k
  at_ : ∀ (i : Nat) (r q : Tp.Rate), L[i]? = some r → M[i]? = some q → r.days = q.days ∧ r.lo = q.lo ∧ r.hi = q.hi ∧ g r.price q.price
theorem LkTo.step {g : Int → Int → Prop} {L M : List Tp.Rate} {k : Nat} {r q : Tp.Rate} (h : LkTo g L M k) (hk : L[k]? = some r) (h1 : r.days = q.days ∧ r.lo = q.lo ∧ r.hi = q.hi ∧ g r.price q.price) : LkTo g L (M ++ [q]) (k + 1) := by
  refine ⟨by rw [List.length_append, List.length_singleton, h.len], fun i r' q' hr hq => ?_⟩
  rcases Nat.lt_or_ge i k with hi | hi
  · rw [List.getElem?_append_left (by rw [h.len]; exact hi)] at hq
    exact h.at_ i r' q' hr hq
  · have : i = k := by
      have := (List.getElem?_eq_some_iff.1 hq).1
      rw [List.length_append, List.length_singleton, h.len] at this
      omega
    subst this
    rw [hk] at hr
    cases hr
    rw [List.getElem?_append_right (by rw [h.len]; exact Nat.le_refl _), h.len, Nat.sub_self] at hq
    cases hq
    exact h1
theorem LkTo.like {g : Int → Int → Prop} {L M : List Tp.Rate} {k : Nat} (h : LkTo g L M k) (hk : k = L.length) : Tp.Like L M g := ⟨by rw [h.len, hk], h.at_⟩
theorem LkTo.ok {g : Int → Int → Prop} {L M : List Tp.Rate} {k : Nat} (h : LkTo g L M k) (hk : k ≤ L.length) (hL : ∀ r ∈ L, Tp.Ok r ∧ r.price < 1000) (hg : ∀ p q, 0 ≤ p → p < 1000 → g p q → 0 ≤ q ∧ q ≤ 1000000) : ∀ q ∈ M, Tp.Ok q := by
  intro q hq
  obtain ⟨i, hi⟩ := List.mem_iff_getElem?.1 hq
  have hik := (List.getElem?_eq_some_iff.1 hi).1
  rw [h.len] at hik
  have hr := List.getElem?_eq_getElem (show i < L.length by omega)
  obtain ⟨⟨d1, d2, l0, lh, h1, p0, p1⟩, hp⟩ := hL _ (List.getElem_mem (show i < L.length by omega))
  obtain ⟨e1, e2, e3, e4⟩ := h.at_ i _ q hr hi
  have := hg _ _ p0 hp e4
  exact ⟨by omega, by omega, by omega, by omega, by omega, this.1, this.2⟩
theorem ok_r64 {M : List Tp.Rate} (h : ∀ q ∈ M, Tp.Ok q) : ∀ q ∈ M, R64 q := fun q hq => by
  obtain ⟨d1, d2, l0, lh, h1, p0, p1⟩ := h q hq
  exact ⟨⟨by omega, by omega⟩, ⟨by omega, by omega⟩, ⟨by omega, by omega⟩, by omega, by omega⟩
def Apart (v u : Value) : Prop := ∀ g n c n' c', v = .slice (some ⟨g, 0, none⟩) n c → u ≠ .slice (some ⟨g, 0, none⟩) n' c'
theorem RowZ.below {e : TypeId} {size B n : Nat} {flat : List Value} {v : Value} {W : World} (h : RowZ e size B n flat v W) : ∀ g n' c', v = .slice (some ⟨g, 0, none⟩) n' c' → g < W.heap.size := by
  rintro g n' c' e1
  rcases h with ⟨rfl, -, -⟩ | ⟨cap, ⟨g', cells, rfl, h2, h3, h4, -⟩, -⟩
  · cases e1
  · cases e1; exact h4.lt
theorem RowZ.kpV {e : TypeId} {size B n : Nat} {flat : List Value} {v u u' : Value} {W W' : World} (h : RowZ e size B n flat v W) (hV : KpV u u' W W') (hap : Apart u v) : RowZ e size B n flat v W' := by
  rcases h with h | ⟨cap, ⟨g, cells, rfl, h2, h3, h4, h5, h6⟩, hm⟩
  · exact .inl h
  · exact .inr ⟨cap, ⟨g, cells, rfl, h2, h3, hV.bx h4 (fun n' c' e1 => hap g n' c' _ _ e1 rfl), h5, h6⟩, hm⟩
theorem RowZ.set_far {e : TypeId} {size B n : Nat} {flat : List Value} {v : Value} {W : World} (h : RowZ e size B n flat v W) {p : Addr} (hp : ∀ n c, v ≠ .slice (some ⟨p.block, 0, none⟩) n c) (u : Value) : RowZ e size B n flat v (W.setCell p u) := by
  rcases h with h | ⟨cap, ⟨g, cells, rfl, h2, h3, h4, h5, h6⟩, hm⟩
  · exact .inl h
  · exact .inr ⟨cap, ⟨g, cells, rfl, h2, h3, h4.far (fun e1 => hp _ _ (by rw [e1])) u, h5, h6⟩, hm⟩
structure PrI (wA W : World) (mb bs m : Int) (L : List Tp.Rate) (kT kL : Nat) (vT vL : Value) (MT ML : List Tp.Rate) : Prop where
  bl : Below wA.heap.size wA W
  t : Bx W wA.heap.size 26 #[vT, .int .i64 mb]
  l : Bx W (wA.heap.size + 1) 26 #[vL, .int .i64 bs]
  rt : RowZ 68 4 (wA.heap.size + 2) kT (MT.flatMap rateC) vT W
  rl : RowZ 68 4 (wA.heap.size + 2) kL (ML.flatMap rateC) vL W
  ap : Apart vT vL
  lt : LkTo (fun p q => q = m * p) L MT kT
  ll : LkTo (fun p q => 0 ≤ q ∧ q ≤ p) L ML kL
  sz : wA.heap.size + 2 ≤ W.heap.size
section
variable {wA W W1 W2 : World} {mb bs m : Int} {L MT ML : List Tp.Rate} {kT kL : Nat} {vT vL v' : Value} {q : Tp.Rate}
theorem PrI.call (h : PrI wA W mb bs m L kT kL vT vL MT ML) (hb : Below W.heap.size W W1) : PrI wA W1 mb bs m L kT kL vT vL MT ML :=
  ⟨bCall h.bl hb, h.t.call hb, h.l.call hb, stab_rowZ _ _ _ _ _ _ _ _ h.rt hb, stab_rowZ _ _ _ _ _ _ _ _ h.rl hb, h.ap, h.lt, h.ll, Nat.le_trans h.sz hb.size⟩
theorem PrI.set (h : PrI wA W mb bs m L kT kL vT vL MT ML) {g i : Nat} (hg : wA.heap.size + 2 ≤ g) (h1 : ∀ n c, vT ≠ .slice (some ⟨g, 0, none⟩) n c) (h2 : ∀ n c, vL ≠ .slice (some ⟨g, 0, none⟩) n c) (u : Value) : PrI wA (W.setCell ⟨g, i, none⟩ u) mb bs m L kT kL vT vL MT ML :=
  ⟨h.bl.setCell (p := ⟨g, i, none⟩) (by show wA.heap.size ≤ g; omega) u, h.t.far (p := ⟨g, i, none⟩) (by show wA.heap.size ≠ g; omega) u, h.l.far (p := ⟨g, i, none⟩) (by show wA.heap.size + 1 ≠ g; omega) u,
    h.rt.set_far (p := ⟨g, i, none⟩) h1 u, h.rl.set_far (p := ⟨g, i, none⟩) h2 u, h.ap, h.lt, h.ll, Nat.le_trans h.sz (KeepsOthers.setCell W ⟨g, i, none⟩ u).size⟩
theorem PrI.pushT (h : PrI wA W mb bs m L kT kL vT vL MT ML) (hW : Below W.heap.size W W1) (hB : Below (wA.heap.size + 2) W1 W2) (hV : KpV vT v' W1 W2) (hr : RowZ 68 4 (wA.heap.size + 2) (kT + 1) (MT.flatMap rateC ++ rateC q) v' W2)
    (hq : LkTo (fun p q => q = m * p) L (MT ++ [q]) (kT + 1)) : PrI wA (W2.setCell ⟨wA.heap.size, 0, none⟩ v') mb bs m L (kT + 1) kL v' vL (MT ++ [q]) ML := by
  have h1 := h.call hW
  refine ⟨(h1.bl.trans (hB.mono (by omega))).setCell (p := ⟨wA.heap.size, 0, none⟩) (Nat.le_refl _) v', by simpa using (h1.t.below hB (by omega)).set 0 v', (h1.l.below hB (by omega)).far (p := ⟨wA.heap.size, 0, none⟩) (by show wA.heap.size + 1 ≠ wA.heap.size; omega) v', ?_,
    rowZ_far (h1.rl.kpV hV h1.ap) (p := ⟨wA.heap.size, 0, none⟩) (by show wA.heap.size < _; omega) v', ?_, hq, h.ll, ?_⟩
  · rw [List.flatMap_append, List.flatMap_singleton]
    exact rowZ_far hr (p := ⟨wA.heap.size, 0, none⟩) (by show wA.heap.size < _; omega) v'
  · intro g n c n' c' e1 e2
    obtain ⟨g2, n2, c2, e3, h3⟩ := hV.at_
    rw [e3] at e1
    cases e1
    rcases h3 with h3 | ⟨n3, c3, h3⟩
    · have := h1.rl.below g n' c' e2; omega
    · exact h1.ap g n3 c3 n' c' h3 e2
  · have := h1.sz; have := hV.size; have := (KeepsOthers.setCell W2 ⟨wA.heap.size, 0, none⟩ v').size; omega
theorem PrI.pushL (h : PrI wA W mb bs m L kT kL vT vL MT ML) (hW : Below W.heap.size W W1) (hB : Below (wA.heap.size + 2) W1 W2) (hV : KpV vL v' W1 W2) (hr : RowZ 68 4 (wA.heap.size + 2) (kL + 1) (ML.flatMap rateC ++ rateC q) v' W2)
    (hq : LkTo (fun p q => 0 ≤ q ∧ q ≤ p) L (ML ++ [q]) (kL + 1)) : PrI wA (W2.setCell ⟨wA.heap.size + 1, 0, none⟩ v') mb bs m L kT (kL + 1) vT v' MT (ML ++ [q]) := by
  have h1 := h.call hW
  have hap : Apart vL vT := fun g n c n' c' e1 e2 => h1.ap g n' c' n c e2 e1
  refine ⟨(h1.bl.trans (hB.mono (by omega))).setCell (p := ⟨wA.heap.size + 1, 0, none⟩) (Nat.le_succ _) v', (h1.t.below hB (by omega)).far (p := ⟨wA.heap.size + 1, 0, none⟩) (by show wA.heap.size ≠ wA.heap.size + 1; omega) v', by simpa using (h1.l.below hB (by omega)).set 0 v',
    rowZ_far (h1.rt.kpV hV hap) (p := ⟨wA.heap.size + 1, 0, none⟩) (by show wA.heap.size + 1 < _; omega) v', ?_, ?_, h.lt, hq, ?_⟩
  · rw [List.flatMap_append, List.flatMap_singleton]
    exact rowZ_far hr (p := ⟨wA.heap.size + 1, 0, none⟩) (by show wA.heap.size + 1 < _; omega) v'
  · intro g n c n' c' e1 e2
    obtain ⟨g2, n2, c2, e3, h3⟩ := hV.at_
    rw [e3] at e2
    cases e2
    rcases h3 with h3 | ⟨n3, c3, h3⟩
    · have := h1.rt.below g n c e1; omega
    · exact hap g n3 c3 n c h3 e1
  · have := h1.sz; have := hV.size; have := (KeepsOthers.setCell W2 ⟨wA.heap.size + 1, 0, none⟩ v').size; omega
/-- a new block is neither slice's -/
theorem PrI.newT (h : PrI wA W mb bs m L kT kL vT vL MT ML) {g : Nat} (hg : W.heap.size ≤ g) : ∀ n c, vT ≠ .slice (some ⟨g, 0, none⟩) n c := fun n c e => by have := h.rt.below g n c e; omega
theorem PrI.newL (h : PrI wA W mb bs m L kT kL vT vL MT ML) {g : Nat} (hg : W.heap.size ≤ g) : ∀ n c, vL ≠ .slice (some ⟨g, 0, none⟩) n c := fun n c e => by have := h.rl.below g n c e; omega
theorem KpV.new {v u : Value} {A B : World} (h : KpV v u A B) {g : Nat} (hg : g < A.heap.size) (hv : ∀ n c, v ≠ .slice (some ⟨g, 0, none⟩) n c) : ∀ n c, u ≠ .slice (some ⟨g, 0, none⟩) n c := fun n c e => by
  obtain ⟨g2, n2, c2, e3, h3⟩ := h.at_
  rw [e3] at e
  cases e
  rcases h3 with h3 | ⟨n3, c3, h3⟩
  · omega
  · exact hv n3 c3 h3
end
end Go.Proofs.YtfebcokmnhdbmaaGreatDoor

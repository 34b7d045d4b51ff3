/- Plain mathematics of tariffs: the reference's pieces. -/
import Derived.Test.YtfebcokmnhdbmaaGreatDoorTBordP
import Derived.Test.YtfebcokmnhdbmaaGreatDoorQ04
namespace Tp
set_option linter.unusedVariables false
theorem insB_sorted {out : List Int} {b : Int} (h : out.Pairwise (· < ·)) : (insB out b).Pairwise (· < ·) := by
  unfold insB
  split
  · exact h
  · next hne =>
    have hlo : ∀ x ∈ out.take (idxB out b), x < b := by
      intro x hx
      obtain ⟨i, hi, rfl⟩ := List.mem_take_iff_getElem.1 hx
      exact idxB_before (by omega) (by omega)
    have hhi : ∀ y ∈ out.drop (idxB out b), b < y := by
      intro y hy
      obtain ⟨i, hi, rfl⟩ := List.mem_drop_iff_getElem.1 hy
      have hl : idxB out b < out.length := by omega
      have h1 := idxB_at hl
      have h2 : out[idxB out b] ≠ b := fun e => hne (by rw [List.getElem?_eq_getElem hl, e])
      rcases Nat.eq_zero_or_pos i with rfl | hp
      · simp only [Nat.add_zero]; omega
      · have := List.pairwise_iff_getElem.1 h (idxB out b) (idxB out b + i) hl (by omega) (by omega)
        omega
    rw [List.pairwise_append, List.pairwise_append]
    refine ⟨⟨h.sublist (List.take_sublist _ _), List.pairwise_singleton _ _, fun x hx y hy => by rw [List.mem_singleton] at hy; subst hy; exact hlo x hx⟩, h.sublist (List.drop_sublist _ _), fun x hx y hy => ?_⟩
    have h2 := hhi y hy
    rcases List.mem_append.1 hx with hx | hx
    · have := hlo x hx; omega
    · rw [List.mem_singleton] at hx; omega
theorem bdsTo_sorted (L : List Rate) : ∀ k, k ≤ L.length → (bdsTo L k).Pairwise (· < ·)
  | 0, _ => by
    show List.Pairwise (· < ·) [(0 : Int), 86400]
    simp
  | k + 1, h => by
    rw [bdsTo_succ (by omega)]
    exact insB_sorted (insB_sorted (bdsTo_sorted L k (by omega)))
structure BdL (L : List Rate) (l : List Int) : Prop where
  so : l.Pairwise (· < ·)
  mem : ∀ x, x ∈ l ↔ x = 0 ∨ x = 86400 ∨ ∃ r ∈ L, x = r.lo ∨ x = r.hi
  rg : ∀ x ∈ l, 0 ≤ x ∧ x ≤ 86400
  len : 2 ≤ l.length
  len2 : l.length ≤ 100
theorem bds_l {L : List Rate} (hok : ∀ r ∈ L, Ok r) (h10 : L.length ≤ 10) : BdL L (bds L) := by
  have hm := bds_mem L
  have hrg : ∀ x ∈ bds L, 0 ≤ x ∧ x ≤ 86400 := fun x hx => by
    rcases (hm x).1 hx with rfl | rfl | ⟨r, hr, h⟩
    · decide
    · decide
    · obtain ⟨d1, d2, l0, lh, h1, p0, p1⟩ := hok r hr
      omega
  have hlen : 2 ≤ (bds L).length := by
    obtain ⟨i, hi, e1⟩ := List.mem_iff_getElem.1 ((hm 0).2 (.inl rfl))
    obtain ⟨j, hj, e2⟩ := List.mem_iff_getElem.1 ((hm 86400).2 (.inr (.inl rfl)))
    have hne : i ≠ j := fun e => by subst e; omega
    omega
  have := (bdsTo_top L L.length (Nat.le_refl _)).2
  exact ⟨bdsTo_sorted L L.length (Nat.le_refl _), hm, hrg, hlen, by have : (bds L).length ≤ 2 + 2 * L.length := this; omega⟩
section
variable {L : List Rate} {l : List Int} (h : BdL L l)
include h
theorem BdL.lt {i j : Nat} (hij : i < j) (hj : j < l.length) : l[i] < l[j] := List.pairwise_iff_getElem.1 h.so i j (by omega) hj hij
theorem BdL.first : l[0]'(by have := h.len; omega) = 0 := by
  have h0 := h.len
  obtain ⟨i, hi, e1⟩ := List.mem_iff_getElem.1 ((h.mem 0).2 (.inl rfl))
  have hr := h.rg l[0] (List.getElem_mem (by omega))
  rcases Nat.eq_zero_or_pos i with rfl | hp
  · exact e1
  · have := h.lt hp hi; omega
theorem BdL.last {k : Nat} (hk : k + 1 = l.length) : l[k] = 86400 := by
  obtain ⟨i, hi, e1⟩ := List.mem_iff_getElem.1 ((h.mem 86400).2 (.inr (.inl rfl)))
  have hr := h.rg l[k] (List.getElem_mem (by omega))
  rcases Nat.lt_or_ge i k with hp | hp
  · have := h.lt hp (by omega); omega
  · have : i = k := by omega
    subst this; exact e1
theorem BdL.between {k : Nat} (hk : k + 1 < l.length) {x : Int} (hx : x ∈ l) : x ≤ l[k] ∨ l[k + 1] ≤ x := by
  obtain ⟨i, hi, e1⟩ := List.mem_iff_getElem.1 hx
  subst e1
  rcases Nat.lt_trichotomy i k with hp | rfl | hp
  · have := h.lt hp (by omega); omega
  · left; omega
  · right
    rcases Nat.lt_or_ge (k + 1) i with hq | hq
    · have := h.lt hq hi; omega
    · have : i = k + 1 := by omega
      subst this; omega
theorem BdL.rated {base : Int} {k : Nat} (hk : k + 1 < l.length) {d s : Int} (hd : 0 ≤ d) (h1 : l[k] ≤ s) (h2 : s < l[k + 1]) : Tp.rated base L (86400 * d + s) = Tp.rated base L (86400 * d + l[k]) := by
  have r1 := h.rg l[k] (List.getElem_mem (by omega))
  have r2 := h.rg l[k + 1] (List.getElem_mem (by omega))
  have key : ∀ r ∈ L, hits (86400 * d + s) r = hits (86400 * d + l[k]) r := by
    intro r hr
    have b1 := h.between hk ((h.mem r.lo).2 (.inr (.inr ⟨r, hr, .inl rfl⟩)))
    have b2 := h.between hk ((h.mem r.hi).2 (.inr (.inr ⟨r, hr, .inr rfl⟩)))
    unfold hits
    have e1 : (86400 * d + s) / 86400 = d := by omega
    have e2 : (86400 * d + s) % 86400 = s := by omega
    have e3 : (86400 * d + l[k]) / 86400 = d := by omega
    have e4 : (86400 * d + l[k]) % 86400 = l[k] := by omega
    rw [e1, e2, e3, e4]
    congr 1
    rw [Bool.eq_iff_iff, within_iff, within_iff]
    omega
  unfold Tp.rated
  have : L.find? (hits (86400 * d + s)) = L.find? (hits (86400 * d + l[k])) := by
    clear h
    induction L with
    | nil => rfl
    | cons r L ih => rw [List.find?_cons, List.find?_cons, key r (by simp), ih (fun x hx => key x (by simp [hx]))]
  rw [this]
theorem BdL.price {base off st t : Int} {k : Nat} (hk : k + 1 < l.length) (ha : (st + off + 604800) % 86400 = 0) (hst : 0 ≤ st + off + 604800) (h1 : st + l[k] ≤ t) (h2 : t < st + l[k + 1]) :
    Tp.price base L off t = Tp.rated base L (86400 * ((st + off + 604800) / 86400 % 7) + l[k]) := by
  have r1 := h.rg l[k] (List.getElem_mem (by omega))
  have r2 := h.rg l[k + 1] (List.getElem_mem (by omega))
  rw [← h.rated (base := base) hk (d := (st + off + 604800) / 86400 % 7) (s := t - st) (by omega) (by omega) (by omega)]
  unfold Tp.price sec
  congr 1
  omega
end
/-- a time, put between two others -/
def cl (a b x : Int) : Int := max a (min b x)
theorem chain_len {f : Int → Int} : ∀ {l : List Pc} {a b : Int}, Chain f a l b → (l.length : Int) ≤ b - a
  | [], a, b, h => by have h : a = b := h; simp; omega
  | p :: l, a, b, ⟨h1, h2, h3, h4⟩ => by
    have := chain_len h4
    rw [List.length_cons]
    omega
/-- one border further -/
theorem piece_step {L : List Rate} {l : List Int} (h : BdL L l) {base off a b st : Int} {out : List Pc} {k : Nat} (hk : k + 1 < l.length) (hab : a ≤ b) (hal : (st + off + 604800) % 86400 = 0) (hst : 0 ≤ st + off + 604800)
    (hc : Chain (price base L off) a out (cl a b (st + l[k]))) :
    (max (st + l[k]) a < min (st + l[k + 1]) b → Chain (price base L off) a (out ++ [⟨max (st + l[k]) a, min (st + l[k + 1]) b, rated base L (86400 * ((st + off + 604800) / 86400 % 7) + l[k])⟩]) (cl a b (st + l[k + 1]))) ∧
    (¬ max (st + l[k]) a < min (st + l[k + 1]) b → Chain (price base L off) a out (cl a b (st + l[k + 1]))) := by
  have hlt : l[k] < l[k + 1] := h.lt (Nat.lt_succ_self k) hk
  unfold cl at *
  constructor
  · intro hl
    refine hc.snoc ?_ ?_ (fun t t1 t2 => ?_) ?_
    · simp only; omega
    · simp only; omega
    · simp only at t2 ⊢
      exact h.price hk hal hst (by omega) (by omega)
    · simp only; omega
  · intro hl
    have : max a (min b (st + l[k + 1])) = max a (min b (st + l[k])) := by omega
    rw [this]; exact hc
end Tp

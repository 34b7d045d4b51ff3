/- Plain mathematics of chapter 22: what the laws ask of a route of made settings. Arguments that are slices of plain data, opened into lists; arguments read behind the call as before. -/
import Derived.Test.YtlldlkjngcgcjaaGreatDoorQ01
import Derived.Deep.Slices
import Derived.ProofKit
import Derived.OpenShut
namespace Go.Proofs.YtlldlkjngcgcjaaGreatDoor
namespace Tw
set_option linter.unusedVariables false
set_option linter.unusedSimpArgs false
theorem nd_take {p : List Int} (h : p.Nodup) {k : Nat} {m : Int} (hk : p[k]? = some m) : m ∉ p.take k := fun hm => by
  obtain ⟨j, hj, e⟩ := List.getElem_of_mem hm
  rw [List.length_take] at hj
  obtain ⟨hl, e2⟩ := List.getElem?_eq_some_iff.1 hk
  have h1 := List.pairwise_iff_getElem.1 h j k (by omega) hl (by omega)
  rw [List.getElem_take] at e
  exact h1 (by rw [e, e2])
/-- what a law asks of a route -/
structure EnL (l : List St) (c : List (Int × Int)) (t n : Int) (r : Ro) : Prop where
  len : r.path.length = r.used.length + 1
  first : r.path[0]? = some n
  u5 : r.used.length ≤ 5
  k1 : 1 ≤ r.kind
  k6 : r.kind ≤ 6
  rng : ∀ (i : Nat) (m : Int), r.path[i]? = some m → 10 ≤ m ∧ m ≤ 18
  stp : ∀ i, i < r.used.length → Stp l c t r.path r.used i
  nd : ∀ (i : Nat) (m : Int), i < r.used.length → r.path[i]? = some m → m ∉ r.path.take i
  last : ∃ m, r.path[r.used.length]? = some m ∧ (m ∈ r.path.take r.used.length ↔ r.kind = 5) ∧ (r.kind = 6 → r.used.length = 5) ∧ (r.kind < 5 → r.kind = max (cond c m) 1)
theorem enL {l : List St} {c : List (Int × Int)} {t n : Int} (hs : ∀ s ∈ l, Sm s) (hc : Vc c) (hn : 10 ≤ n ∧ n ≤ 18) : EnL l c t n (route l c n t) := by
  have hE := route_ok l c n t
  generalize route l c n t = r at hE ⊢
  have hlast : ∃ m, r.path[r.used.length]? = some m ∧ (m ∈ r.path.take r.used.length ↔ r.kind = 5) ∧ (r.kind = 6 → r.used.length = 5) ∧ (r.kind < 5 → r.kind = max (cond c m) 1) ∧ 1 ≤ r.kind ∧ r.kind ≤ 6 := by
    rcases hE.fin with ⟨m, h1, -, h3, h4⟩ | ⟨h1, h2, h3⟩ | ⟨h1, m, h2, h3⟩
    · have hk := cond_le hc m
      exact ⟨m, h1, ⟨fun h => absurd h (nd_take h4 h1), fun h => by omega⟩, fun h => by omega, fun _ => h3, by omega, by omega⟩
    · have hl : r.used.length < r.path.length := by have := hE.len; omega
      exact ⟨_, List.getElem?_eq_getElem hl, ⟨fun h => absurd h (nd_take h3 (List.getElem?_eq_getElem hl)), fun h => by omega⟩, fun _ => h2, fun h => by omega, by omega, by omega⟩
    · exact ⟨m, h2, ⟨fun _ => h1, fun _ => h3⟩, fun h => by omega, fun h => by omega, by omega, by omega⟩
  obtain ⟨m, m1, m2, m3, m4, m5, m6⟩ := hlast
  refine ⟨hE.len, hE.first, hE.u5, m5, m6, fun i x hx => ?_, hE.stp, fun i x hi hx => ?_, m, m1, m2, m3, m4⟩
  · rcases Nat.eq_zero_or_pos i with rfl | h0
    · rw [hE.first] at hx; cases hx; exact hn
    · have hi : i < r.path.length := (List.getElem?_eq_some_iff.1 hx).1
      have hlen := hE.len
      obtain ⟨j, s, -, h2, -, h4, -⟩ := hE.stp (i - 1) (by omega)
      rw [show i - 1 + 1 = i by omega, hx] at h4
      cases h4
      obtain ⟨hj, e⟩ := List.getElem?_eq_some_iff.1 h2
      have := hs s (by rw [← e]; exact List.getElem_mem hj)
      exact ⟨this.t0, by have := this.t2; omega⟩
  · have h1 : (r.path.take r.used.length)[i]? = some x := by rw [List.getElem?_take_of_lt hi]; exact hx
    have h2 := nd_take hE.nd h1
    rw [List.take_take, Nat.min_eq_left (by omega)] at h2
    exact h2
/-- the condition of a number, of the first conditions -/
theorem cond_take {c : List (Int × Int)} (hv : Vc c) {i : Nat} (hi : i < c.length) (n : Int) : cond (c.take (i + 1)) n = if n = c[i].1 then c[i].2 else cond (c.take i) n := by
  rw [cond_F, cond_F, condF_take hv hi]
  by_cases h : n = c[i].1
  · rw [if_pos h, if_pos h]; rfl
  · rw [if_neg h, if_neg h]
theorem cond_zero (n : Int) : cond [] n = 0 := rfl
end Tw
end Go.Proofs.YtlldlkjngcgcjaaGreatDoor
namespace Go.Proofs.YtlldlkjngcgcjaaGreatDoor
set_option linter.unusedVariables false
open Go.ChangeShapes Go.WideShapes Go.ChangeAt Go.RowKit
section
variable {H : Type} {enc : TypeId × Value → H} {P : Program} {W : World} {sp : Nat → Bool} {held : Bool}
theorem choose_list {α : Type} {Q : Nat → α → Prop} : ∀ n, (∀ i, i < n → ∃ c, Q i c) → ∃ x : List α, x.length = n ∧ ∀ i c, x[i]? = some c → Q i c
  | 0, _ => ⟨[], rfl, fun i c h => by simp at h⟩
  | n + 1, h => by
    obtain ⟨x, hl, hx⟩ := choose_list n fun i hi => h i (by omega)
    obtain ⟨c, hc⟩ := h n (by omega)
    refine ⟨x ++ [c], by simp [hl], fun i d hi => ?_⟩
    rcases Nat.lt_or_ge i x.length with h1 | h1
    · rw [List.getElem?_append_left h1] at hi
      exact hx i d hi
    · rw [List.getElem?_append_right h1] at hi
      have h2 : i - x.length = 0 := by
        rcases Nat.eq_zero_or_pos (i - x.length) with h3 | h3
        · exact h3
        · rw [List.getElem?_eq_none (by simp; omega)] at hi; cases hi
      rw [h2] at hi
      simp only [List.getElem?_cons_zero, Option.some.injEq] at hi
      subst hi
      rw [show i = n by omega]
      exact hc
/-- an array of ints that is read -/
theorem open_arr {n : Nat} {t e : TypeId} (ht : P.underlying t = some (.array n e)) (he : P.underlying e = some (.int .i64)) (ce : P.cellsOf e = 1) (ct : P.cellsOf t = n) {fuel : Nat} {cs : List Value} {y : DataW H × List MemPlace}
    (h : DataW.trod enc P W 0 sp held fuel t cs = some y) : ∃ zs : List Int, cs = zs.map (Value.int .i64) ∧ zs.length = n ∧ ∀ z ∈ zs, (Lit.int .i64 z).wf = true := by
  obtain ⟨xs, m, _, _, hl, hxl, hel⟩ := DataW.trod_array ht h
  rw [ct] at hl
  obtain ⟨zs, hz, hzz⟩ := choose_list (Q := fun i z => cs[i]? = some (Value.int .i64 z) ∧ (Lit.int .i64 z).wf = true) n fun i hi => by
    have h1 := hel i hi
    rw [ce, Nat.mul_one, List.getElem?_eq_getElem (by omega)] at h1
    obtain ⟨z, e1, _, e3⟩ := DataW.trod_int he h1
    refine ⟨z, ?_, e3⟩
    have h0 : ((cs.drop i).take 1)[0]? = some (Value.int .i64 z) := by rw [e1]; rfl
    simpa using h0
  refine ⟨zs, ?_, hz, fun z hm => ?_⟩
  · apply List.ext_getElem?
    intro i
    rw [List.getElem?_map]
    cases hi : zs[i]? with
    | none =>
      rw [List.getElem?_eq_none_iff] at hi
      rw [List.getElem?_eq_none (by omega)]; rfl
    | some z => exact (hzz i z hi).1
  · obtain ⟨i, hi⟩ := List.mem_iff_getElem?.1 hm
    exact (hzz i z hi).2
/-- a slice that is read, of elements of plain data -/
theorem open_at {α : Type} {t e : TypeId} (size : Nat) (f : α → List Value) (Q : α → Prop) (ht : P.underlying t = some (.slice e)) (hce : P.cellsOf e = size) (hpos : 0 < size) (hsz : ∀ c, (f c).length = size)
    (hel : ∀ n cs y, DataW.trod enc P W 0 sp held n e cs = some y → ∃ c, cs = f c ∧ Q c) {r : Reach} {b0 : Nat} {v : Value} {d : DataW H} {ps : List MemPlace} (hval : Value.okWide P W r b0 t v) (hd : DataW.Trod enc P W 0 sp held t v d ps) :
    ∃ (A : Option Addr) (x : List α) (cap : Nat), v = .slice A x.length cap ∧ At size f W W.heap.size A x ∧ x.length ≤ cap ∧ cap ≤ maxLen ∧ ∀ c ∈ x, Q c := by
  obtain ⟨a0, len, cap, rfl⟩ := okWide_slice ht hval
  obtain ⟨fuel, hf⟩ := hd
  rcases Go.Deep.open_slice ht hf with ⟨hcs, _⟩ | ⟨a, len', cap', m, n, D, Pl, hcs, hb, hl, hm, hmm, hx, hel2⟩
  · simp [Value.cells] at hcs
    obtain ⟨rfl, rfl, rfl⟩ := hcs
    exact ⟨none, [], 0, rfl, At.nil, Nat.le_refl _, Nat.zero_le _, fun c h => by cases h⟩
  · simp [Value.cells] at hcs
    obtain ⟨rfl, rfl, rfl⟩ := hcs
    have hlm : len ≤ m := by rw [hmm]; split <;> omega
    obtain ⟨x, hxl, hxx⟩ := choose_list (Q := fun i c => W.cells? 0 (a.add (i * size)) size = some (f c) ∧ Q c) len fun i hi => by
      obtain ⟨cs', h1, h2⟩ := hel2 i (by omega)
      obtain ⟨c, rfl, hq⟩ := hel _ _ _ h2
      rw [hce] at h1
      exact ⟨c, h1, hq⟩
    refine ⟨some a, x, cap, by rw [hxl], fun h0 => ?_, by omega, hm, fun c hc => ?_⟩
    · have hcell : ∀ i c, x[i]? = some c → ∀ j u, (f c)[j]? = some u → W.cell? ((a.add (i * size)).add j) = some u := fun i c hi j u hj => by
        obtain ⟨_, _, hc⟩ := World.cells?_some (hxx i c hi).1
        have hjl : j < size := by rw [← hsz c]; exact (List.getElem?_eq_some_iff.1 hj).1
        rw [hc j hjl]; exact hj
      have h00 : 0 < (f x[0]).length := by rw [hsz]; exact hpos
      have h1 := hcell 0 x[0] (List.getElem?_eq_getElem h0) 0 _ (List.getElem?_eq_getElem h00)
      have hs : a.spot = none := by
        cases hsp : a.spot with
        | none => rfl
        | some k =>
          unfold World.cell? at h1
          split at h1
          · simp [Addr.add, hsp] at h1
          · cases h1
      obtain ⟨b, off, spt⟩ := a
      simp only at hs
      subst hs
      have ha : ∀ o n : Nat, (⟨b, o, none⟩ : Addr).add n = ⟨b, o + n, none⟩ := by
        intro o n
        unfold Addr.add
        split
        · next h => subst h; rfl
        · rfl
      refine ⟨b, off, rfl, ?_, fun i c hi j u hj => ?_⟩
      · have h2 := World.block_lt_of_cell? _ _ h1
        rwa [ha, ha] at h2
      · have := hcell i c hi j u hj
        rwa [ha, ha] at this
    · obtain ⟨i, hi⟩ := List.mem_iff_getElem?.1 hc
      exact (hxx i c hi).2
/-- an array of ints, given -/
theorem open_agg {n : Nat} {t e : TypeId} (ht : P.underlying t = some (.array n e)) (he : P.underlying e = some (.int .i64)) (ce : P.cellsOf e = 1) (ct : P.cellsOf t = n) {r : Reach} {b0 : Nat} {v : Value} {d : DataW H} {ps : List MemPlace}
    (hval : Value.okWide P W r b0 t v) (hd : DataW.Trod enc P W 0 sp held t v d ps) : ∃ zs : List Int, v = .agg (zs.map (Value.int .i64)).toArray ∧ zs.length = n ∧ ∀ z ∈ zs, (Lit.int .i64 z).wf = true := by
  unfold Value.okWide at hval
  rw [ht] at hval
  obtain ⟨cs, rfl, _, _⟩ := hval
  obtain ⟨fuel, hf⟩ := hd
  obtain ⟨zs, h1, h2, h3⟩ := open_arr ht he ce ct hf
  refine ⟨zs, ?_, h2, h3⟩
  have : cs.toList = zs.map (Value.int .i64) := h1
  rw [← this]
theorem len_two {zs : List Int} (h : zs.length = 2) : ∃ a b, zs = [a, b] := by
  match zs, h with
  | [a, b], _ => exact ⟨a, b, rfl⟩
theorem len_three {zs : List Int} (h : zs.length = 3) : ∃ a b c, zs = [a, b, c] := by
  match zs, h with
  | [a, b, c], _ => exact ⟨a, b, c, rfl⟩
/-- arguments read behind the call as they did before -/
theorem trodAll_stay (hl : laidOutB P = true) {W' : World} (hb : Below W.heap.size W W') : ∀ {ts : List TypeId} {vs : List Value} {ds : List (DataW H)} {ps : List MemPlace}, (∀ t ∈ ts, P.readableRec t = true ∧ t < P.types.size) →
    DataW.TrodAll enc P W 0 (fun _ => true) true ts vs ds ps → (∀ x ∈ ps, x.block < W.heap.size) → DataW.TrodAll enc P W' 0 (fun b => decide (b < W.heap.size)) true ts vs ds ps
  | [], _, _, _, _, h, _ => by
    obtain ⟨rfl, rfl, rfl⟩ := trodAll_nil h
    rfl
  | t :: ts, vs, ds, ps, ht, h, hlt => by
    obtain ⟨v, vs', d, ds', p, q, rfl, rfl, rfl, hd, hrest⟩ := trodAll_cons h
    have h1 := ht t (by simp)
    exact ⟨p, q, Below.trod hl h1.1 h1.2 hd hb (fun x hx => hlt x (List.mem_append_left _ hx)), trodAll_stay hl hb (fun u hu => ht u (by simp [hu])) hrest (fun x hx => hlt x (List.mem_append_right _ hx)), rfl⟩
end
end Go.Proofs.YtlldlkjngcgcjaaGreatDoor

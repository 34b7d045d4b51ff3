/- Arguments that are slices of plain data, opened into lists; arguments read behind the call as before. -/
import Derived.Test.YtllnepdighhkdaaGreatDoorMK
import Derived.Deep.Slices
import Derived.ProofKit
import Derived.OpenShut
namespace Go.Proofs.YtllnepdighhkdaaGreatDoor
set_option linter.unusedVariables false
open Go.ChangeShapes Go.WideShapes Go.ChangeAt Go.RowKit
section
variable {H : Type} {enc : TypeId × Value → H} {P : Program} {W : World} {sp : Nat → Bool} {held : Bool}
theorem choose_list {α : Type} {Q : Nat → α → Prop} : ∀ n, (∀ i, i < n → ∃ c, Q i c) → ∃ x : List α, x.length = n ∧ ∀ i c, x[i]? = some c → Q i c
  | 0, _ => ⟨[], rfl, fun i c h => by simp at h⟩
  | n + 1, h => by
    obtain ⟨x, hl, hx⟩ := choose_list n fun i hi => h i (by omega)
    obtain ⟨c, hc⟩ := h n (by omega)
    refine ⟨x ++ [c], by simp [hl], fun i d hi => ?_⟩
    rcases Nat.lt_or_ge i x.length with h1 | h1
    · rw [List.getElem?_append_left h1] at hi
      exact hx i d hi
    · rw [List.getElem?_append_right h1] at hi
      have h2 : i - x.length = 0 := by
        rcases Nat.eq_zero_or_pos (i - x.length) with h3 | h3
        · exact h3
        · rw [List.getElem?_eq_none (by simp; omega)] at hi; cases hi
      rw [h2] at hi
      simp only [List.getElem?_cons_zero, Option.some.injEq] at hi
      subst hi
      rw [show i = n by omega]
      exact hc
/-- an array of ints that is read -/
theorem open_arr {n : Nat} {t e : TypeId} (ht : P.underlying t = some (.array n e)) (he : P.underlying e = some (.int .i64)) (ce : P.cellsOf e = 1) (ct : P.cellsOf t = n) {fuel : Nat} {cs : List Value} {y : DataW H × List MemPlace}
    (h : DataW.trod enc P W 0 sp held fuel t cs = some y) : ∃ zs : List Int, cs = zs.map (Value.int .i64) ∧ zs.length = n ∧ ∀ z ∈ zs, (Lit.int .i64 z).wf = true := by
  obtain ⟨xs, m, _, _, hl, hxl, hel⟩ := DataW.trod_array ht h
  rw [ct] at hl
  obtain ⟨zs, hz, hzz⟩ := choose_list (Q := fun i z => cs[i]? = some (Value.int .i64 z) ∧ (Lit.int .i64 z).wf = true) n fun i hi => by
    have h1 := hel i hi
    rw [ce, Nat.mul_one, List.getElem?_eq_getElem (by omega)] at h1
    obtain ⟨z, e1, _, e3⟩ := DataW.trod_int he h1
    refine ⟨z, ?_, e3⟩
    have h0 : ((cs.drop i).take 1)[0]? = some (Value.int .i64 z) := by rw [e1]; rfl
    simpa using h0
  refine ⟨zs, ?_, hz, fun z hm => ?_⟩
  · apply List.ext_getElem?
    intro i
    rw [List.getElem?_map]
    cases hi : zs[i]? with
    | none =>
      rw [List.getElem?_eq_none_iff] at hi
      rw [List.getElem?_eq_none (by omega)]; rfl
    | some z => exact (hzz i z hi).1
  · obtain ⟨i, hi⟩ := List.mem_iff_getElem?.1 hm
    exact (hzz i z hi).2
/-- a slice that is read, of elements of plain data -/
theorem open_at {α : Type} {t e : TypeId} (size : Nat) (f : α → List Value) (Q : α → Prop) (ht : P.underlying t = some (.slice e)) (hce : P.cellsOf e = size) (hpos : 0 < size) (hsz : ∀ c, (f c).length = size)
    (hel : ∀ n cs y, DataW.trod enc P W 0 sp held n e cs = some y → ∃ c, cs = f c ∧ Q c) {r : Reach} {b0 : Nat} {v : Value} {d : DataW H} {ps : List MemPlace} (hval : Value.okWide P W r b0 t v) (hd : DataW.Trod enc P W 0 sp held t v d ps) :
    ∃ (A : Option Addr) (x : List α) (cap : Nat), v = .slice A x.length cap ∧ At size f W W.heap.size A x ∧ x.length ≤ cap ∧ cap ≤ maxLen ∧ ∀ c ∈ x, Q c := by
  obtain ⟨a0, len, cap, rfl⟩ := okWide_slice ht hval
  obtain ⟨fuel, hf⟩ := hd
  rcases Go.Deep.open_slice ht hf with ⟨hcs, _⟩ | ⟨a, len', cap', m, n, D, Pl, hcs, hb, hl, hm, hmm, hx, hel2⟩
  · simp [Value.cells] at hcs
    obtain ⟨rfl, rfl, rfl⟩ := hcs
    exact ⟨none, [], 0, rfl, At.nil, Nat.le_refl _, Nat.zero_le _, fun c h => by cases h⟩
  · simp [Value.cells] at hcs
    obtain ⟨rfl, rfl, rfl⟩ := hcs
    have hlm : len ≤ m := by rw [hmm]; split <;> omega
    obtain ⟨x, hxl, hxx⟩ := choose_list (Q := fun i c => W.cells? 0 (a.add (i * size)) size = some (f c) ∧ Q c) len fun i hi => by
      obtain ⟨cs', h1, h2⟩ := hel2 i (by omega)
      obtain ⟨c, rfl, hq⟩ := hel _ _ _ h2
      rw [hce] at h1
      exact ⟨c, h1, hq⟩
    refine ⟨some a, x, cap, by rw [hxl], fun h0 => ?_, by omega, hm, fun c hc => ?_⟩
    · have hcell : ∀ i c, x[i]? = some c → ∀ j u, (f c)[j]? = some u → W.cell? ((a.add (i * size)).add j) = some u := fun i c hi j u hj => by
        obtain ⟨_, _, hc⟩ := World.cells?_some (hxx i c hi).1
        have hjl : j < size := by rw [← hsz c]; exact (List.getElem?_eq_some_iff.1 hj).1
        rw [hc j hjl]; exact hj
      have h00 : 0 < (f x[0]).length := by rw [hsz]; exact hpos
      have h1 := hcell 0 x[0] (List.getElem?_eq_getElem h0) 0 _ (List.getElem?_eq_getElem h00)
      have hs : a.spot = none := by
        cases hsp : a.spot with
        | none => rfl
        | some k =>
          unfold World.cell? at h1
          split at h1
          · simp [Addr.add, hsp] at h1
          · cases h1
      obtain ⟨b, off, spt⟩ := a
      simp only at hs
      subst hs
      have ha : ∀ o n : Nat, (⟨b, o, none⟩ : Addr).add n = ⟨b, o + n, none⟩ := by
        intro o n
        unfold Addr.add
        split
        · next h => subst h; rfl
        · rfl
      refine ⟨b, off, rfl, ?_, fun i c hi j u hj => ?_⟩
      · have h2 := World.block_lt_of_cell? _ _ h1
        rwa [ha, ha] at h2
      · have := hcell i c hi j u hj
        rwa [ha, ha] at this
    · obtain ⟨i, hi⟩ := List.mem_iff_getElem?.1 hc
      exact (hxx i c hi).2
/-- an array of ints, given -/
theorem open_agg {n : Nat} {t e : TypeId} (ht : P.underlying t = some (.array n e)) (he : P.underlying e = some (.int .i64)) (ce : P.cellsOf e = 1) (ct : P.cellsOf t = n) {r : Reach} {b0 : Nat} {v : Value} {d : DataW H} {ps : List MemPlace}
    (hval : Value.okWide P W r b0 t v) (hd : DataW.Trod enc P W 0 sp held t v d ps) : ∃ zs : List Int, v = .agg (zs.map (Value.int .i64)).toArray ∧ zs.length = n ∧ ∀ z ∈ zs, (Lit.int .i64 z).wf = true := by
  unfold Value.okWide at hval
  rw [ht] at hval
  obtain ⟨cs, rfl, _, _⟩ := hval
  obtain ⟨fuel, hf⟩ := hd
  obtain ⟨zs, h1, h2, h3⟩ := open_arr ht he ce ct hf
  refine ⟨zs, ?_, h2, h3⟩
  have : cs.toList = zs.map (Value.int .i64) := h1
  rw [← this]
theorem len_two {zs : List Int} (h : zs.length = 2) : ∃ a b, zs = [a, b] := by
  match zs, h with
  | [a, b], _ => exact ⟨a, b, rfl⟩
theorem len_three {zs : List Int} (h : zs.length = 3) : ∃ a b c, zs = [a, b, c] := by
  match zs, h with
  | [a, b, c], _ => exact ⟨a, b, c, rfl⟩
/-- arguments read behind the call as they did before -/
theorem trodAll_stay (hl : laidOutB P = true) {W' : World} (hb : Below W.heap.size W W') : ∀ {ts : List TypeId} {vs : List Value} {ds : List (DataW H)} {ps : List MemPlace}, (∀ t ∈ ts, P.readableRec t = true ∧ t < P.types.size) →
    DataW.TrodAll enc P W 0 (fun _ => true) true ts vs ds ps → (∀ x ∈ ps, x.block < W.heap.size) → DataW.TrodAll enc P W' 0 (fun b => decide (b < W.heap.size)) true ts vs ds ps
  | [], _, _, _, _, h, _ => by
    obtain ⟨rfl, rfl, rfl⟩ := trodAll_nil h
    rfl
  | t :: ts, vs, ds, ps, ht, h, hlt => by
    obtain ⟨v, vs', d, ds', p, q, rfl, rfl, rfl, hd, hrest⟩ := trodAll_cons h
    have h1 := ht t (by simp)
    exact ⟨p, q, Below.trod hl h1.1 h1.2 hd hb (fun x hx => hlt x (List.mem_append_left _ hx)), trodAll_stay hl hb (fun u hu => ht u (by simp [hu])) hrest (fun x hx => hlt x (List.mem_append_right _ hx)), rfl⟩
end
end Go.Proofs.YtllnepdighhkdaaGreatDoor

/- A map of strings of the call's own, as a list of keys and elements (each key once). -/
import Derived.Test.YtppdcjbnijbcdaaGreatDoorRowK
import Derived.Maps.OwnSet
import Derived.Maps.RangeWalk
namespace Go.Proofs.YtppdcjbnijbcdaaGreatDoor
set_option linter.unusedVariables false
set_option linter.unusedSimpArgs false
open Go.RowKit
open Go.Maps (Keyed)
/-- every element reads as itself -/
def RV (v : Value) : Option (DataW Value × List MemPlace) := some (.held v, [])
theorem key_string {P : Program} {k : TypeId} (hk : P.underlying k = some .string) {s : List UInt8} (hs : s.length ≤ maxLen) : keyOf P k (.string ⟨s.toArray⟩) = some (.string s) := by
  have : (ByteArray.size ⟨s.toArray⟩) ≤ maxLen := hs
  simp [keyOf, mapKey, hk, this]
section
variable {α : Type} {P : Program} {k t e : TypeId} {enc : α → Value} {es : List (List UInt8 × α)} {b : Nat} {w w' : World}
/-- block b is a map that holds just these -/
def MapIs (P : Program) (k : TypeId) (enc : α → Value) (es : List (List UInt8 × α)) (b : Nat) (w : World) : Prop :=
  ∃ D, w.ownsMap P k RV b es.length D ∧ Maps.IsMap D ∧ ∀ s : List UInt8, (∀ z, D.atKey (.string s) z = match es.lookup s with | some x => .held (enc x) | none => z) ∧ Maps.has D (.string s) = (es.lookup s).isSome
theorem MapIs.made (w : World) : MapIs P k enc [] w.heap.size (w.alloc (.map #[] 0)) :=
  ⟨_, w.ownsMap_made P k RV, Maps.isMap_empty, fun s => ⟨fun z => rfl, rfl⟩⟩
theorem MapIs.below {B : Nat} (h : MapIs P k enc es b w) (hb : Below B w w') (hB : b < B) : MapIs P k enc es b w' := by
  obtain ⟨D, ⟨ent, clock, h1, h2, h3, h4⟩, hm, hs⟩ := h
  exact ⟨D, ⟨ent, clock, (hb.block b hB).trans h1, h2, h3, h4⟩, hm, hs⟩
theorem MapIs.lt (h : MapIs P k enc es b w) : b < w.heap.size := by obtain ⟨D, h, _⟩ := h; exact h.lt
theorem below_grownBy {B : Nat} {a : World} {row : Option Nat} (h : w.grownBy w' row) (hrow : ∀ b, row = some b → B ≤ b) (hB : B ≤ w.heap.size) (hb : Below B a w) : Below B a w' :=
  hb.trans ⟨h.os, h.tape, h.output, h.size, fun k hk => h.block k (by omega) (fun hh => by have := hrow k hh.symm; omega)⟩
theorem wpList_put {ops : Array Oper} {rest : List Oper} {o : Oper} {a : Act} {Q : Exit → Act → World → Prop} (hg : o.guard = none) (m x v : Operand) (hop : o.op = Op.mapUpdate t m x v) (hk : P.underlying k = some .string) (ht : P.underlying t = some (.map k e))
    (hm : a.eval m = .map (some b)) (h : MapIs P k enc es b w) (hn : es.length < maxLen) (s : List UInt8) (y : α) (hx : a.eval x = .string ⟨s.toArray⟩) (hv : a.eval v = enc y) (hs : s.length ≤ maxLen) (hnew : es.lookup s = none)
    (hK : ∀ w', MapIs P k enc (es ++ [(s, y)]) b w' → w.grownBy w' (some b) → wpList P ops Q rest (a.put o.dst undef) w') : wpList P ops Q (o :: rest) a w := by
  obtain ⟨D, hown, hmap, hall⟩ := h
  refine wpList_mapUpdate_own w hg m x v t hop k e (Maps.string_keyed hk) ht RV b es.length D hm hown hn _ _ (.string s) hx hv (key_string hk hs) (.held (enc y)) [] rfl fun w' h1 h2 => hK w' ⟨_, by simpa using h1, hmap.put _ _, fun s' => ?_⟩ h2
  rw [List.lookup_append]
  by_cases hss : s' = s
  · subst hss
    rw [hnew]
    refine ⟨fun z => ?_, ?_⟩
    · rw [Maps.atKey_put_same hmap (show WideAt.IsKeyLit (.string s') from trivial)]; simp
    · rw [Maps.has_put_same hmap (show WideAt.IsKeyLit (.string s') from trivial)]; simp
  · have hne : Lit.string s' ≠ Lit.string s := fun h => hss (by cases h; rfl)
    have hl : List.lookup s' [(s, y)] = none := by simp [List.lookup, beq_eq_false_iff_ne.2 hss]
    rw [hl, Option.or_none]
    exact ⟨fun z => by rw [Maps.atKey_put_other hne]; exact (hall s').1 z, by rw [Maps.has_put_other hne]; exact (hall s').2⟩
theorem wpList_look {ops : Array Oper} {rest : List Oper} {o : Oper} {a : Act} {Q : Exit → Act → World → Prop} (hg : o.guard = none) (m x : Operand) (hop : o.op = Op.lookup t m x true) (hk : P.underlying k = some .string) (ht : P.underlying t = some (.map k e))
    {z : Value} (hz : (zeroValue e).run P w = .ok z w) (hm : a.eval m = .map (some b)) (h : MapIs P k enc es b w) (s : List UInt8) (hx : a.eval x = .string ⟨s.toArray⟩) (hs : s.length ≤ maxLen)
    (hK : wpList P ops Q rest (a.put o.dst (.tuple #[(match es.lookup s with | some y => enc y | none => z), .bool (es.lookup s).isSome])) w) : wpList P ops Q (o :: rest) a w := by
  obtain ⟨D, hown, hmap, hall⟩ := h
  refine wpList_lookup_own_ok w hg m x t hop k e (Maps.string_keyed hk) ht RV hz (.held z) [] rfl b es.length D hm hown _ (.string s) hx (key_string hk hs) fun v ps hv => ?_
  simp only [RV, Option.some.injEq, Prod.mk.injEq] at hv
  rw [(hall s).1] at hv
  have : v = (match es.lookup s with | some y => enc y | none => z) := by
    have := hv.1
    cases hl : es.lookup s <;> rw [hl] at this <;> cases this <;> rfl
  rw [this, (hall s).2]
  exact hK
/-- the map while it is ranged over -/
def RangeIs (P : Program) (k : TypeId) (enc : α → Value) (es : List (List UInt8 × α)) (b r : Nat) (w : World) (left : Lit → Bool) (cnt : Nat) : Prop :=
  ∃ D, w.ranges P k RV b r es.length D left cnt ∧ Maps.IsMap D ∧ (∀ s : List UInt8, (∀ z, D.atKey (.string s) z = match es.lookup s with | some x => .held (enc x) | none => z) ∧ Maps.has D (.string s) = (es.lookup s).isSome) ∧ ∀ kl, left kl = true → Maps.has D kl = true
theorem wpList_range_k {ops : Array Oper} {rest : List Oper} {o : Oper} {a : Act} {Q : Exit → Act → World → Prop} (hg : o.guard = none) (m : Operand) (hop : o.op = Op.range t m) (hk : P.underlying k = some .string) (ht : P.underlying t = some (.map k e))
    (hm : a.eval m = .map (some b)) (h : MapIs P k enc es b w)
    (hK : ∀ w' left cnt, RangeIs P k enc es b w.heap.size w' left cnt → (∀ s : List UInt8, left (.string s) = (es.lookup s).isSome) → w.grownBy w' none → w'.heap.size = w.heap.size + 1 → wpList P ops Q rest (a.put o.dst (.pointer (some ⟨w.heap.size, 0, none⟩))) w') :
    wpList P ops Q (o :: rest) a w := by
  obtain ⟨D, hown, hmap, hall⟩ := h
  exact wpList_range_own w hg m t hop k e (Maps.string_keyed hk) ht RV b es.length D hm hown fun w' h1 h2 h3 => hK w' _ _ ⟨D, h1, hmap, hall, fun kl h => h⟩ (fun s => (hall s).2) h2 h3
theorem key_inv (hk : P.underlying k = some .string) (key : Value) (kl : Lit) (h : keyOf P k key = some kl) : ∃ s : List UInt8, key = .string ⟨s.toArray⟩ ∧ kl = .string s := by
  simp only [keyOf, mapKey, hk] at h
  cases key <;> simp at h
  rename_i s
  exact ⟨s.data.toList, by rw [Lib.mk_data], h.2.symm⟩
theorem wpList_next_k {ops : Array Oper} {rest : List Oper} {o : Oper} {a : Act} {Q : Exit → Act → World → Prop} (hg : o.guard = none) (it : Operand) (hop : o.op = Op.next it false) (hk : P.underlying k = some .string) (r : Nat) (left : Lit → Bool) (cnt : Nat)
    (hit : a.eval it = .pointer (some ⟨r, 0, none⟩)) (h : RangeIs P k enc es b r w left cnt)
    (hDone : (∀ s : List UInt8, left (.string s) = false) → wpList P ops Q rest (a.put o.dst (.tuple #[.bool false])) w)
    (hMore : ∀ (s : List UInt8) (y : α) (w' : World) (cnt' : Nat), left (.string s) = true → es.lookup s = some y → RangeIs P k enc es b r w' (fun z => left z && !z.sameKey (.string s)) cnt' → cnt' < cnt → w.grownBy w' (some r) → w'.heap.size = w.heap.size →
      (Instr.entry (.pointer (some ⟨r, 0, none⟩))).run P w' = .ok (.tuple #[.string ⟨s.toArray⟩, enc y]) w' → wpList P ops Q rest (a.put o.dst (.tuple #[.bool true, .string ⟨s.toArray⟩, enc y])) w') :
    wpList P ops Q (o :: rest) a w := by
  obtain ⟨D, hr, hmap, hall, hleft⟩ := h
  refine wpList_next_ranges (α := List UInt8) (β := Value) w hg it hop k (Maps.string_keyed hk) RV (fun s => .string ⟨s.toArray⟩) id (fun key kl h => by obtain ⟨s, h1, _⟩ := key_inv hk key kl h; exact ⟨s, h1⟩) (fun v y _ => ⟨v, rfl⟩) b r es.length D left cnt hit hr
    (fun _ h0 => hDone fun s => h0 _) fun s c kl y w' cnt' hkey hl hv hat hrg hlt hgr hsz hen => ?_
  obtain ⟨s', h1, rfl⟩ := key_inv hk _ _ hkey
  obtain rfl : s' = s := by
    have h2 : (⟨s.toArray⟩ : ByteArray) = ⟨s'.toArray⟩ := by injection h1
    have h3 : s.toArray = s'.toArray := by injection h2
    simpa using h3.symm
  have hh := hleft _ hl
  rw [(hall s').2] at hh
  obtain ⟨x, hx⟩ := Option.isSome_iff_exists.1 hh
  have hc : c = enc x := by
    have h2 := hat (.held c)
    rw [(hall s').1, hx] at h2
    simp only [RV, id, Option.some.injEq] at hv
    rw [← hv] at h2
    simp only [DataW.held.injEq] at h2
    exact h2.symm
  subst hc
  exact hMore s' x w' cnt' hl hx ⟨D, hrg, hmap, hall, fun kl h => hleft kl (by simp at h; exact h.1)⟩ hlt hgr hsz hen
end
end Go.Proofs.YtppdcjbnijbcdaaGreatDoor

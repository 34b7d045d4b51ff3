/- Bent of dialtoneref37: what its region keeps that appends in place. -/
import Derived.Test.YtfebcokmnhdbmaaGreatDoorTRefA
import Derived.Test.YtfebcokmnhdbmaaGreatDoorQ17
import Derived.Test.YtfebcokmnhdbmaaGreatDoorRowF
import Derived.Test.YtfebcokmnhdbmaaGreatDoorQ07
namespace Go.Proofs.YtfebcokmnhdbmaaGreatDoor
set_option linter.unusedVariables false
set_option linter.unusedSimpArgs false
open Go.RowKit
/-- one block alone may change, from some cells to others -/
def KB (B g : Nat) (t : TypeId) (c0 c1 : Array Value) (w w' : World) : Prop :=
  Below B w w' ∧ (∀ b o, b ≠ g → w.heap[b]? = some o → w'.heap[b]? = some o) ∧ (Bx w g t c0 → Bx w' g t c0 ∨ Bx w' g t c1) ∧ (Bx w g t c1 → Bx w' g t c1)
section
variable {B g : Nat} {t : TypeId} {c0 c1 : Array Value} {w w' : World}
theorem cls_KB (B g : Nat) (t : TypeId) (c0 c1 : Array Value) : RS.Cls (KB B g t c0 c1) :=
  ⟨fun w => ⟨Below.refl _ _, fun _ _ _ h => h, .inl, id⟩,
   fun h1 h2 => ⟨h1.1.trans h2.1, fun b o hb h => h2.2.1 b o hb (h1.2.1 b o hb h), fun h => by
     rcases h1.2.2.1 h with h3 | h3
     · exact h2.2.2.1 h3
     · exact .inr (h2.2.2.2 h3), fun h => h2.2.2.2 (h1.2.2.2 h)⟩,
   fun w n => ⟨⟨rfl, rfl, rfl, Nat.le_refl _, fun _ _ => rfl⟩, fun _ _ _ h => h, .inl, id⟩⟩
theorem KB.rf (w : World) : KB B g t c0 c1 w w := (cls_KB B g t c0 c1).refl w
theorem KB.of (hB : B ≤ w.heap.size) (h : Below w.heap.size w w') : KB B g t c0 c1 w w' :=
  ⟨h.mono hB, fun b o _ hb => (h.block b (Array.getElem?_eq_some_iff.1 hb).1).trans hb, fun hb => .inl (hb.call h), fun hb => hb.call h⟩
theorem KB.bx {b : Nat} {u : TypeId} {cs : Array Value} (h : KB B g t c0 c1 w w') (hb : b ≠ g) (hx : Bx w b u cs) : Bx w' b u cs := h.2.1 b _ hb hx
/-- what the in-place append leaves -/
def ApR (g n cap : Nat) (t : TypeId) (c1 : Array Value) : RS.Rl := fun _ v w => v = .slice (some ⟨g, 0, none⟩) (n + 1) cap ∧ Bx w g t c1
theorem stab_apR (B g n cap : Nat) (t : TypeId) (c0 c1 : Array Value) : RS.Stab (KB B g t c0 c1) (ApR g n cap t c1) := fun x v w w' ⟨e, hb⟩ h => ⟨e, h.2.2.2 hb⟩
/-- a slice of one's own: the element that is appended lies in a block of its own -/
def ElR (g : Nat) (t : TypeId) (es : Array Value) (B : Nat) : RS.Rl := fun _ v w => ∃ ge, v = .slice (some ⟨ge, 0, none⟩) 1 1 ∧ ge ≠ g ∧ B ≤ ge ∧ Bx w ge t es
theorem stab_elR (B g : Nat) (t u : TypeId) (c0 c1 es : Array Value) : RS.Stab (KB B g t c0 c1) (ElR g u es B) := fun x v w w' ⟨ge, e, hne, hB, hb⟩ h => ⟨ge, e, hne, hB, h.bx hne hb⟩
end
/-- four cells set -/
def set4 (c : Array Value) (o : Nat) (x0 x1 x2 x3 : Value) : Array Value := (((c.setIfInBounds o x0).setIfInBounds (o + 1) x1).setIfInBounds (o + 2) x2).setIfInBounds (o + 3) x3
theorem set4_size (c : Array Value) (o : Nat) (x0 x1 x2 x3 : Value) : (set4 c o x0 x1 x2 x3).size = c.size := by simp [set4]
theorem set4_twice (c : Array Value) (o : Nat) (x0 x1 x2 x3 : Value) : set4 (set4 c o x0 x1 x2 x3) o x0 x1 x2 x3 = set4 c o x0 x1 x2 x3 := by
  apply Array.ext_getElem?
  intro i
  simp only [set4, Array.getElem?_setIfInBounds, Array.size_setIfInBounds]
  by_cases h3 : o + 3 = i
  · simp [h3]
  · by_cases h2 : o + 2 = i
    · simp [h3, h2]
    · by_cases h1 : o + 1 = i
      · simp [h3, h2, h1]
      · by_cases h0 : o = i
        · simp [h3, h2, h1, h0]
        · simp [h3, h2, h1, h0]
theorem set4_before (c : Array Value) {o i : Nat} (hi : i < o) (x0 x1 x2 x3 : Value) : (set4 c o x0 x1 x2 x3)[i]? = c[i]? := by
  unfold set4
  rw [Array.getElem?_setIfInBounds_ne (by omega), Array.getElem?_setIfInBounds_ne (by omega), Array.getElem?_setIfInBounds_ne (by omega), Array.getElem?_setIfInBounds_ne (by omega)]
theorem Bx.set4 {w : World} {g : Nat} {t : TypeId} {c : Array Value} (h : Bx w g t c) (o : Nat) (x0 x1 x2 x3 : Value) : Bx (w.setCells g o [x0, x1, x2, x3]) g t (set4 c o x0 x1 x2 x3) :=
  (((h.set o x0).set (o + 1) x1).set (o + 2) x2).set (o + 3) x3
theorem run_append_four {P : Program} {w : World} {t ty e : TypeId} {i : TypeInfo} {g n cap ge : Nat} {c : Array Value} {x0 x1 x2 x3 : Value} (ht : P.underlying t = some (.slice e)) (hi : P.info? e = some i) (hsize : i.size = 4) (hx : Bx w g e c) (hc : c.size = cap * 4) (hn : n < cap)
    (he : Bx w ge e #[x0, x1, x2, x3]) (h1 : ∀ u ∈ [x0, x1, x2, x3], u.oneCell' = true) :
    (Builtin.append_ #[t, t] ty #[.slice (some ⟨g, 0, none⟩) n cap, .slice (some ⟨ge, 0, none⟩) 1 1]).run P w = .ok (.slice (some ⟨g, 0, none⟩) (n + 1) cap) (w.setCells g (n * 4) [x0, x1, x2, x3]) := by
  have hs : Src P i.size t (.slice (some ⟨ge, 0, none⟩) 1 1) 1 [x0, x1, x2, x3] w := by
    rw [hsize]
    exact Src.ofSlice w ht ⟨ge, 0, none⟩ 1 1 [x0, x1, x2, x3] rfl (fun j u hj => by rw [Addr.add_lit, Nat.zero_add]; exact he.cell j (by simpa using hj)) h1
  have hrun := run_append_room_src (P := P) w t t ty e i ht hi g 0 n cap (.slice (some ⟨ge, 0, none⟩) 1 1) 1 [x0, x1, x2, x3] hs (by omega) (fun j hj => by
    simp only [List.length_cons, List.length_nil] at hj
    rw [hsize, hx.cell (0 + n * 4 + j) (v := c[0 + n * 4 + j]'(by omega)) (by simp)]; rfl) (fun j _ => hx.frozen _)
  rw [hsize, Nat.zero_add] at hrun
  exact hrun
theorem KB.app {B g n cap : Nat} {e : TypeId} {c : Array Value} {x0 x1 x2 x3 : Value} {w : World} (hB : B ≤ g) (hx : Bx w g e c ∨ Bx w g e (set4 c (n * 4) x0 x1 x2 x3)) :
    KB B g e c (set4 c (n * 4) x0 x1 x2 x3) w (w.setCells g (n * 4) [x0, x1, x2, x3]) ∧ Bx (w.setCells g (n * 4) [x0, x1, x2, x3]) g e (set4 c (n * 4) x0 x1 x2 x3) := by
  have h2 : Bx (w.setCells g (n * 4) [x0, x1, x2, x3]) g e (set4 c (n * 4) x0 x1 x2 x3) := by
    rcases hx with h | h
    · exact h.set4 _ _ _ _ _
    · have := h.set4 (n * 4) x0 x1 x2 x3
      rw [set4_twice] at this
      exact this
  refine ⟨⟨?_, fun b o hb ho => (heap_setCells hb _ _ _).trans ho, fun _ => .inr h2, fun _ => h2⟩, h2⟩
  exact ((((Below.refl B w).setCell (p := ⟨g, n * 4, none⟩) hB x0).setCell (p := ⟨g, n * 4 + 1, none⟩) hB x1).setCell (p := ⟨g, n * 4 + 1 + 1, none⟩) hB x2).setCell (p := ⟨g, n * 4 + 1 + 1 + 1, none⟩) hB x3
theorem wpList_append_four {P : Program} {w : World} {ops : Array Oper} {rest : List Oper} {o : Oper} {a : Act} {Q : Exit → Act → World → Prop} (hgd : o.guard = none) (s y : Operand) (t e : TypeId) (ho : o.op = .call { callee := .builtin .append, args := #[s, y], argTypes := #[t, t] })
    {i : TypeInfo} {g n cap ge : Nat} {c : Array Value} {x0 x1 x2 x3 : Value} (ht : P.underlying t = some (.slice e)) (hi : P.info? e = some i) (hsize : i.size = 4) (hes : a.eval s = .slice (some ⟨g, 0, none⟩) n cap) (hey : a.eval y = .slice (some ⟨ge, 0, none⟩) 1 1) (hx : Bx w g e c) (hc : c.size = cap * 4) (hn : n < cap)
    (he : Bx w ge e #[x0, x1, x2, x3]) (h1 : ∀ u ∈ [x0, x1, x2, x3], u.oneCell' = true)
    (h : wpList P ops Q rest (a.put o.dst (.slice (some ⟨g, 0, none⟩) (n + 1) cap)) (w.setCells g (n * 4) [x0, x1, x2, x3])) : wpList P ops Q (o :: rest) a w := by
  have hr := run_append_four (P := P) (w := w) (ty := o.type) ht hi hsize hx hc hn he h1
  refine wpList_plain hgd fun _ hK => ?_
  unfold Oper.wp execOp
  simp only [ho, resolve, invoke, builtin, Sem.run_bind, Sem.run_pure, Result.andThen_ok, List.map_toArray, List.map_cons, List.map_nil, hes, hey, hr]
  exact hK _ _ h
end Go.Proofs.YtfebcokmnhdbmaaGreatDoor

/- Slices of the call's own that begin as nil. Appending to a slice of one's own that begins as nil: what else is kept. Appending to one of several slices of one's own: the others stay. A region that draws its order, each operation by a relation of its own, guarded operations included. A region that draws its order, for any class of changes, guards included; a relation may name the value of one operation that it waits for. One store of two cells into memory that a drawn region makes: what is used. Appending to a slice that a drawn region has made: what stays, whatever the order. Appending to an empty slice that a drawn region has made. -/
import Derived.Test.YtpifllonlchhhaaGreatDoorP04
namespace Go.Proofs.YtpifllonlchhhaaGreatDoor
set_option linter.unusedVariables false
set_option linter.unusedSimpArgs false
open Go.RowKit
/-- nil, or a slice of one's own -/
def RowZ (e : TypeId) (size B n : Nat) (flat : List Value) : Value → World → Prop := fun v w => (v = .slice none 0 0 ∧ n = 0 ∧ flat = []) ∨ ∃ cap, RowC e size B cap n flat v w ∧ cap ≤ maxLen
theorem stab_rowZ (e : TypeId) (size B n : Nat) (flat : List Value) : Stab (RowZ e size B n flat) := fun v w w' h hb => by
  rcases h with h | ⟨cap, h, hm⟩
  · exact .inl h
  · exact .inr ⟨cap, stab_rowC e size B cap n flat v w w' h hb, hm⟩
theorem append_rowZ {P : Program} (w : World) (t ty e : TypeId) (i : TypeInfo) (z : Value) (size B n m : Nat) (flat news : List Value) (v x : Value) (ht : P.underlying t = some (.slice e)) (hi : P.info? e = some i) (hz : i.zero = some z)
    (hsize : i.size = size) (hzs : z.cells.size = size) (hv : RowZ e size B n flat v w) (hB : B ≤ w.heap.size) (hs : Src P size t x m news w) (hm : 0 < m) (h63 : n + m ≤ maxLen) (hb : (n + m) * i.bytes ≤ 140737488355328) :
    ∃ v' w', (Builtin.append_ #[t, t] ty #[v, x]).run P w = .ok v' w' ∧ Below B w w' ∧ RowZ e size B (n + m) (flat ++ news) v' w' := by
  rcases hv with ⟨rfl, rfl, rfl⟩ | ⟨cap, hv, hcm⟩
  · subst hsize
    have hnl := hs.newsLen
    have hold : (Builtin.firstCells i.size 0 (.slice none 0 0)).run P w.drew = .ok ([] : List Value).toArray w.drew := by simp [Builtin.firstCells, loadCells, loadCellsFrom]
    have hrun := run_append_grow_src (P := P) w t t ty e i z ht hi hz none 0 0 [] hold x m news hs (by omega) (by simp only [maxLen] at h63; omega) (growslice_fits (by omega) hb)
    have hge := grownCap_ge w (0 + m) 0 e
    refine ⟨_, _, hrun, ((Below.refl B w).drew).alloc hB _, .inr ⟨_, ⟨w.heap.size, _, rfl, hB, hge, Bx.mk w.drew e _, ?_, ?_⟩, grownCap_le_maxLen w (0 + m) 0 e h63⟩⟩
    · rw [Array.size_append, List.size_toArray, List.length_append, List.length_nil, hnl, size_zeroCells, hzs, Nat.zero_add, ← Nat.add_mul]
      congr 1; omega
    · rw [Array.toList_append, List.take_append_of_le_length (by simp [hnl, Nat.add_mul])]
      rw [List.take_of_length_le (by simp [hnl, Nat.add_mul])]
  · obtain ⟨v', w', cap', h1, h2, h3, h4, h5⟩ := append_row (P := P) w t ty e i z size B cap n m flat news v x ht hi hz hsize hzs hv hB hs hcm h63 hb
    exact ⟨v', w', h1, h2, .inr ⟨cap', h4, h5⟩⟩
theorem wpList_append_rowZ {P : Program} {w : World} {ops : Array Oper} {rest : List Oper} {o : Oper} {a : Act} {Q : Exit → Act → World → Prop} (hgd : o.guard = none) (s y : Operand) (t e : TypeId) (ho : o.op = .call { callee := .builtin .append, args := #[s, y], argTypes := #[t, t] })
    (i : TypeInfo) (z : Value) (size B n m : Nat) (flat news : List Value) (v x : Value) (ht : P.underlying t = some (.slice e)) (hi : P.info? e = some i) (hz : i.zero = some z)
    (hsize : i.size = size) (hzs : z.cells.size = size) (hes : a.eval s = v) (hey : a.eval y = x) (hv : RowZ e size B n flat v w) (hB : B ≤ w.heap.size) (hs : Src P size t x m news w) (hm : 0 < m) (h63 : n + m ≤ maxLen) (hb : (n + m) * i.bytes ≤ 140737488355328)
    (h : ∀ v' w', Below B w w' → RowZ e size B (n + m) (flat ++ news) v' w' → wpList P ops Q rest (a.put o.dst v') w') : wpList P ops Q (o :: rest) a w := by
  obtain ⟨v', w', hr, h1, h2⟩ := append_rowZ (P := P) w t o.type e i z size B n m flat news v x ht hi hz hsize hzs hv hB hs hm h63 hb
  refine wpList_plain hgd fun _ hK => ?_
  unfold Oper.wp execOp
  simp only [ho, resolve, invoke, builtin, Sem.run_bind, Sem.run_pure, Result.andThen_ok, List.map_toArray, List.map_cons, List.map_nil, hes, hey, hr]
  exact hK _ _ (h v' w' h1 h2)
/-- what a slice of one's own is: nil, or a block -/
theorem RowZ.at {α : Type} {size : Nat} {f : α → List Value} {w : World} {e : TypeId} {B : Nat} {p : List α} {v : Value} (hf : ∀ c, (f c).length = size) (h : RowZ e size B p.length (p.flatMap f) v w) :
    ∃ A cap, v = .slice A p.length cap ∧ At size f w w.heap.size A p ∧ p.length ≤ cap ∧ cap ≤ maxLen := by
  rcases h with ⟨rfl, h0, -⟩ | ⟨cap, h, hm⟩
  · rw [h0]
    exact ⟨none, 0, rfl, fun h => by omega, by omega, Nat.zero_le _⟩
  · obtain ⟨A, h1, h2, h3⟩ := RowC.at hf h
    exact ⟨A, cap, h1, h2, h3, hm⟩
end Go.Proofs.YtpifllonlchhhaaGreatDoor
namespace Go.Proofs.YtpifllonlchhhaaGreatDoor
set_option linter.unusedVariables false
set_option linter.unusedSimpArgs false
open Go.RowKit
/-- every block but rows of the element type e is as it was -/
structure KpE (e : TypeId) (W W' : World) : Prop where
  size : W.heap.size ≤ W'.heap.size
  same : ∀ (b : Nat) (o : Obj), W.heap[b]? = some o → (∀ cs f, o ≠ .cells cs e f) → W'.heap[b]? = some o
theorem KpE.refl (e : TypeId) (W : World) : KpE e W W := ⟨Nat.le_refl _, fun _ _ h _ => h⟩
theorem KpE.trans {e : TypeId} {A B C : World} (h : KpE e A B) (k : KpE e B C) : KpE e A C := ⟨Nat.le_trans h.size k.size, fun b o h1 h2 => k.same b o (h.same b o h1 h2) h2⟩
theorem KpE.bx {e t : TypeId} {W W' : World} {g : Nat} {cs : Array Value} (h : KpE e W W') (ht : t ≠ e) (hB : Bx W g t cs) : Bx W' g t cs := h.same g _ hB (fun cs' f hh => by cases hh; exact ht rfl)
theorem KpE.call {e : TypeId} {W W' : World} (h : Below W.heap.size W W') : KpE e W W' := ⟨h.size, fun b o h1 _ => (h.block b (Array.getElem?_eq_some_iff.1 h1).1).trans h1⟩
theorem KpE.set {e : TypeId} {W : World} {g : Nat} {cs : Array Value} (hB : Bx W g e cs) (i : Nat) (u : Value) : KpE e W (W.setCell ⟨g, i, none⟩ u) :=
  ⟨((Below.refl 0 W).setCell (p := ⟨g, i, none⟩) (Nat.zero_le _) u).size, fun b o h1 h2 => by
    by_cases hb : b = g
    · subst hb
      exact absurd (Option.some.inj (h1.symm.trans hB)) (h2 _ _)
    · exact (Below.heap_setCell W ⟨g, i, none⟩ u b hb).trans h1⟩
theorem KpE.sets {e : TypeId} {g : Nat} : ∀ (vs : List Value) (o : Nat) (W : World) (cs : Array Value), Bx W g e cs → KpE e W (W.setCells g o vs)
  | [], o, W, cs, h => KpE.refl _ _
  | v :: l, o, W, cs, h => (KpE.set h o v).trans (KpE.sets l (o + 1) _ _ (h.set o v))
theorem append_rowE {P : Program} (w : World) (t ty e : TypeId) (i : TypeInfo) (z : Value) (size B n m : Nat) (flat news : List Value) (v x : Value) (ht : P.underlying t = some (.slice e)) (hi : P.info? e = some i) (hz : i.zero = some z)
    (hsize : i.size = size) (hzs : z.cells.size = size) (hv : RowZ e size B n flat v w) (hB : B ≤ w.heap.size) (hs : Src P size t x m news w) (hm : 0 < m) (h63 : n + m ≤ maxLen) (hb : (n + m) * i.bytes ≤ 140737488355328) :
    ∃ v' w', (Builtin.append_ #[t, t] ty #[v, x]).run P w = .ok v' w' ∧ Below B w w' ∧ KpE e w w' ∧ RowZ e size B (n + m) (flat ++ news) v' w' := by
  rcases hv with ⟨rfl, rfl, rfl⟩ | ⟨cap, hv, hcm⟩
  · subst hsize
    have hnl := hs.newsLen
    have hold : (Builtin.firstCells i.size 0 (.slice none 0 0)).run P w.drew = .ok ([] : List Value).toArray w.drew := by simp [Builtin.firstCells, loadCells, loadCellsFrom]
    have hrun := run_append_grow_src (P := P) w t t ty e i z ht hi hz none 0 0 [] hold x m news hs (by omega) (by simp only [maxLen] at h63; omega) (growslice_fits (by omega) hb)
    have hge := grownCap_ge w (0 + m) 0 e
    refine ⟨_, _, hrun, ((Below.refl B w).drew).alloc hB _, KpE.call (((Below.refl w.heap.size w).drew).alloc (Nat.le_refl _) _), .inr ⟨_, ⟨w.heap.size, _, rfl, hB, hge, Bx.mk w.drew e _, ?_, ?_⟩, grownCap_le_maxLen w (0 + m) 0 e h63⟩⟩
    · rw [Array.size_append, List.size_toArray, List.length_append, List.length_nil, hnl, size_zeroCells, hzs, Nat.zero_add, ← Nat.add_mul]
      congr 1; omega
    · rw [Array.toList_append, List.take_append_of_le_length (by simp [hnl, Nat.add_mul])]
      rw [List.take_of_length_le (by simp [hnl, Nat.add_mul])]
  · obtain ⟨g, cells, rfl, hg, hnc, hbx, hcs, hfl⟩ := hv
    subst hsize
    have hnl := hs.newsLen
    by_cases hroom : n + m ≤ cap
    · have hle : n * i.size + news.length ≤ cells.size := by rw [hnl, hcs, ← Nat.add_mul]; exact Nat.mul_le_mul_right _ hroom
      have hrun := run_append_room_src (P := P) w t t ty e i ht hi g 0 n cap x m news hs hroom (fun j hj => by
        rw [hbx.cell (0 + n * i.size + j) (v := cells[0 + n * i.size + j]'(by omega)) (by simp)]; rfl) (fun j _ => hbx.frozen _)
      obtain ⟨cs', h1, h2, h3⟩ := hbx.setCells news (0 + n * i.size) w cells (by omega)
      refine ⟨_, _, hrun, ?_, KpE.sets _ _ _ _ hbx, .inr ⟨cap, ⟨g, cs', rfl, hg, hroom, h1, by rw [h2, hcs], ?_⟩, hcm⟩⟩
      · clear hrun h1 h2 h3 hs
        generalize 0 + n * i.size = o
        have : ∀ (vs : List Value) (o : Nat) (w' : World), Below B w w' → Below B w (w'.setCells g o vs) := by
          intro vs
          induction vs with
          | nil => intro o w' h; exact h
          | cons a l ih => intro o w' h; exact ih _ _ (h.setCell hg _)
        exact this news o w (Below.refl _ _)
      · rw [show (n + m) * i.size = 0 + n * i.size + news.length by rw [Nat.add_mul, hnl]; omega, h3, Nat.zero_add, hfl]
    · have hfl' : flat.length = n * i.size := by
        rw [← hfl, List.length_take, Array.length_toList, hcs]
        exact Nat.min_eq_left (Nat.mul_le_mul_right _ hnc)
      have hold : (Builtin.firstCells i.size n (.slice (some ⟨g, 0, none⟩) n cap)).run P w.drew = .ok flat.toArray w.drew :=
        run_firstCells_some w.drew i.size n ⟨g, 0, none⟩ n cap flat hfl' fun j u hu => by
          have hj : cells[j]? = some u := by
            rw [← hfl, List.getElem?_take] at hu
            split at hu
            · simpa using hu
            · cases hu
          rw [Addr.add_lit, Nat.zero_add]
          exact (show Bx w.drew g e cells from hbx).cell j hj
      have hrun := run_append_grow_src (P := P) w t t ty e i z ht hi hz (some ⟨g, 0, none⟩) n cap flat hold x m news hs (by omega) (by simp only [maxLen] at h63; omega) (growslice_fits (by omega) hb)
      have hge := grownCap_ge w (n + m) cap e
      refine ⟨_, _, hrun, ((Below.refl B w).drew).alloc hB _, KpE.call (((Below.refl w.heap.size w).drew).alloc (Nat.le_refl _) _), .inr ⟨_, ⟨w.heap.size, _, rfl, hB, hge, Bx.mk w.drew e _, ?_, ?_⟩, grownCap_le_maxLen w (n + m) cap e h63⟩⟩
      · rw [Array.size_append, List.size_toArray, List.length_append, hfl', hnl, size_zeroCells, hzs, ← Nat.add_mul, ← Nat.add_mul]
        congr 1; omega
      · rw [Array.toList_append, List.take_append_of_le_length (by simp [hfl', hnl, Nat.add_mul])]
        rw [List.take_of_length_le (by simp [hfl', hnl, Nat.add_mul])]
theorem wpList_append_rowE {P : Program} {w : World} {ops : Array Oper} {rest : List Oper} {o : Oper} {a : Act} {Q : Exit → Act → World → Prop} (hgd : o.guard = none) (s y : Operand) (t e : TypeId) (ho : o.op = .call { callee := .builtin .append, args := #[s, y], argTypes := #[t, t] })
    (i : TypeInfo) (z : Value) (size B n m : Nat) (flat news : List Value) (v x : Value) (ht : P.underlying t = some (.slice e)) (hi : P.info? e = some i) (hz : i.zero = some z)
    (hsize : i.size = size) (hzs : z.cells.size = size) (hes : a.eval s = v) (hey : a.eval y = x) (hv : RowZ e size B n flat v w) (hB : B ≤ w.heap.size) (hs : Src P size t x m news w) (hm : 0 < m) (h63 : n + m ≤ maxLen) (hb : (n + m) * i.bytes ≤ 140737488355328)
    (h : ∀ v' w', Below B w w' → KpE e w w' → RowZ e size B (n + m) (flat ++ news) v' w' → wpList P ops Q rest (a.put o.dst v') w') : wpList P ops Q (o :: rest) a w := by
  obtain ⟨v', w', hr, h1, h2, h3⟩ := append_rowE (P := P) w t o.type e i z size B n m flat news v x ht hi hz hsize hzs hv hB hs hm h63 hb
  refine wpList_plain hgd fun _ hK => ?_
  unfold Oper.wp execOp
  simp only [ho, resolve, invoke, builtin, Sem.run_bind, Sem.run_pure, Result.andThen_ok, List.map_toArray, List.map_cons, List.map_nil, hes, hey, hr]
  exact hK _ _ (h v' w' h1 h2 h3)
/-- one cell of a slice of one's own is set -/
theorem RowC.setAt {e : TypeId} {size B cap n : Nat} {flat : List Value} {g : Nat} {w : World} (h : RowC e size B cap n flat (.slice (some ⟨g, 0, none⟩) n cap) w) (i : Nat) (u : Value) :
    RowC e size B cap n (flat.set i u) (.slice (some ⟨g, 0, none⟩) n cap) (w.setCell ⟨g, i, none⟩ u) := by
  obtain ⟨g', cells, hv, hg, hnc, hbx, hcs, hfl⟩ := h
  cases hv
  exact ⟨g, _, rfl, hg, hnc, hbx.set i u, by simp [hcs], by rw [← hfl]; simp [List.take_set]⟩
end Go.Proofs.YtpifllonlchhhaaGreatDoor
namespace Go.Proofs.YtpifllonlchhhaaGreatDoor
set_option linter.unusedVariables false
set_option linter.unusedSimpArgs false
open Go.RowKit
/-- every block but that of the slice is as it was; the new slice lies in the same block, or in a new one -/
structure KpV (v v' : Value) (W W' : World) : Prop where
  size : W.heap.size ≤ W'.heap.size
  same : ∀ (b : Nat) (o : Obj), W.heap[b]? = some o → (∀ n c, v ≠ .slice (some ⟨b, 0, none⟩) n c) → W'.heap[b]? = some o
  at_ : ∃ g n c, v' = .slice (some ⟨g, 0, none⟩) n c ∧ (W.heap.size ≤ g ∨ ∃ n c, v = .slice (some ⟨g, 0, none⟩) n c)
theorem KpV.bx {v v' : Value} {t : TypeId} {W W' : World} {g : Nat} {cs : Array Value} (h : KpV v v' W W') (hB : Bx W g t cs) (hne : ∀ n c, v ≠ .slice (some ⟨g, 0, none⟩) n c) : Bx W' g t cs := h.same g _ hB hne
theorem KpV.grow {v v' : Value} {W W' : World} (hv : ∃ g n c, v' = .slice (some ⟨g, 0, none⟩) n c ∧ W.heap.size ≤ g) (h : Below W.heap.size W W') : KpV v v' W W' := by
  obtain ⟨g, n, c, e, hg⟩ := hv
  exact ⟨h.size, fun b o h1 _ => (h.block b (Array.getElem?_eq_some_iff.1 h1).1).trans h1, g, n, c, e, .inl hg⟩
theorem heap_setCells {g b : Nat} (hb : b ≠ g) : ∀ (vs : List Value) (o : Nat) (W : World), (W.setCells g o vs).heap[b]? = W.heap[b]?
  | [], o, W => rfl
  | v :: l, o, W => (heap_setCells hb l (o + 1) _).trans (Below.heap_setCell W ⟨g, o, none⟩ v b hb)
theorem size_setCells {g : Nat} : ∀ (vs : List Value) (o : Nat) (W : World), W.heap.size ≤ (W.setCells g o vs).heap.size
  | [], o, W => Nat.le_refl _
  | v :: l, o, W => Nat.le_trans ((Below.refl 0 W).setCell (p := ⟨g, o, none⟩) (Nat.zero_le _) v).size (size_setCells l (o + 1) _)
theorem KpV.sets {g n c n' c' : Nat} (vs : List Value) (o : Nat) (W : World) : KpV (.slice (some ⟨g, 0, none⟩) n c) (.slice (some ⟨g, 0, none⟩) n' c') W (W.setCells g o vs) :=
  ⟨size_setCells vs o W, fun b ob h1 h2 => (heap_setCells (fun e => h2 n c (by rw [e])) vs o W).trans h1, g, n', c', rfl, .inr ⟨n, c, rfl⟩⟩
theorem append_rowF {P : Program} (w : World) (t ty e : TypeId) (i : TypeInfo) (z : Value) (size B n m : Nat) (flat news : List Value) (v x : Value) (ht : P.underlying t = some (.slice e)) (hi : P.info? e = some i) (hz : i.zero = some z)
    (hsize : i.size = size) (hzs : z.cells.size = size) (hv : RowZ e size B n flat v w) (hB : B ≤ w.heap.size) (hs : Src P size t x m news w) (hm : 0 < m) (h63 : n + m ≤ maxLen) (hb : (n + m) * i.bytes ≤ 140737488355328) :
    ∃ v' w', (Builtin.append_ #[t, t] ty #[v, x]).run P w = .ok v' w' ∧ Below B w w' ∧ KpV v v' w w' ∧ RowZ e size B (n + m) (flat ++ news) v' w' := by
  rcases hv with ⟨rfl, rfl, rfl⟩ | ⟨cap, hv, hcm⟩
  · subst hsize
    have hnl := hs.newsLen
    have hold : (Builtin.firstCells i.size 0 (.slice none 0 0)).run P w.drew = .ok ([] : List Value).toArray w.drew := by simp [Builtin.firstCells, loadCells, loadCellsFrom]
    have hrun := run_append_grow_src (P := P) w t t ty e i z ht hi hz none 0 0 [] hold x m news hs (by omega) (by simp only [maxLen] at h63; omega) (growslice_fits (by omega) hb)
    have hge := grownCap_ge w (0 + m) 0 e
    refine ⟨_, _, hrun, ((Below.refl B w).drew).alloc hB _, KpV.grow ⟨_, _, _, rfl, Nat.le_refl _⟩ (((Below.refl w.heap.size w).drew).alloc (Nat.le_refl _) _), .inr ⟨_, ⟨w.heap.size, _, rfl, hB, hge, Bx.mk w.drew e _, ?_, ?_⟩, grownCap_le_maxLen w (0 + m) 0 e h63⟩⟩
    · rw [Array.size_append, List.size_toArray, List.length_append, List.length_nil, hnl, size_zeroCells, hzs, Nat.zero_add, ← Nat.add_mul]
      congr 1; omega
    · rw [Array.toList_append, List.take_append_of_le_length (by simp [hnl, Nat.add_mul])]
      rw [List.take_of_length_le (by simp [hnl, Nat.add_mul])]
  · obtain ⟨g, cells, rfl, hg, hnc, hbx, hcs, hfl⟩ := hv
    subst hsize
    have hnl := hs.newsLen
    by_cases hroom : n + m ≤ cap
    · have hle : n * i.size + news.length ≤ cells.size := by rw [hnl, hcs, ← Nat.add_mul]; exact Nat.mul_le_mul_right _ hroom
      have hrun := run_append_room_src (P := P) w t t ty e i ht hi g 0 n cap x m news hs hroom (fun j hj => by
        rw [hbx.cell (0 + n * i.size + j) (v := cells[0 + n * i.size + j]'(by omega)) (by simp)]; rfl) (fun j _ => hbx.frozen _)
      obtain ⟨cs', h1, h2, h3⟩ := hbx.setCells news (0 + n * i.size) w cells (by omega)
      refine ⟨_, _, hrun, ?_, KpV.sets _ _ _, .inr ⟨cap, ⟨g, cs', rfl, hg, hroom, h1, by rw [h2, hcs], ?_⟩, hcm⟩⟩
      · clear hrun h1 h2 h3 hs
        generalize 0 + n * i.size = o
        have : ∀ (vs : List Value) (o : Nat) (w' : World), Below B w w' → Below B w (w'.setCells g o vs) := by
          intro vs
          induction vs with
          | nil => intro o w' h; exact h
          | cons a l ih => intro o w' h; exact ih _ _ (h.setCell hg _)
        exact this news o w (Below.refl _ _)
      · rw [show (n + m) * i.size = 0 + n * i.size + news.length by rw [Nat.add_mul, hnl]; omega, h3, Nat.zero_add, hfl]
    · have hfl' : flat.length = n * i.size := by
        rw [← hfl, List.length_take, Array.length_toList, hcs]
        exact Nat.min_eq_left (Nat.mul_le_mul_right _ hnc)
      have hold : (Builtin.firstCells i.size n (.slice (some ⟨g, 0, none⟩) n cap)).run P w.drew = .ok flat.toArray w.drew :=
        run_firstCells_some w.drew i.size n ⟨g, 0, none⟩ n cap flat hfl' fun j u hu => by
          have hj : cells[j]? = some u := by
            rw [← hfl, List.getElem?_take] at hu
            split at hu
            · simpa using hu
            · cases hu
          rw [Addr.add_lit, Nat.zero_add]
          exact (show Bx w.drew g e cells from hbx).cell j hj
      have hrun := run_append_grow_src (P := P) w t t ty e i z ht hi hz (some ⟨g, 0, none⟩) n cap flat hold x m news hs (by omega) (by simp only [maxLen] at h63; omega) (growslice_fits (by omega) hb)
      have hge := grownCap_ge w (n + m) cap e
      refine ⟨_, _, hrun, ((Below.refl B w).drew).alloc hB _, KpV.grow ⟨_, _, _, rfl, Nat.le_refl _⟩ (((Below.refl w.heap.size w).drew).alloc (Nat.le_refl _) _), .inr ⟨_, ⟨w.heap.size, _, rfl, hB, hge, Bx.mk w.drew e _, ?_, ?_⟩, grownCap_le_maxLen w (n + m) cap e h63⟩⟩
      · rw [Array.size_append, List.size_toArray, List.length_append, hfl', hnl, size_zeroCells, hzs, ← Nat.add_mul, ← Nat.add_mul]
        congr 1; omega
      · rw [Array.toList_append, List.take_append_of_le_length (by simp [hfl', hnl, Nat.add_mul])]
        rw [List.take_of_length_le (by simp [hfl', hnl, Nat.add_mul])]
theorem wpList_append_rowF {P : Program} {w : World} {ops : Array Oper} {rest : List Oper} {o : Oper} {a : Act} {Q : Exit → Act → World → Prop} (hgd : o.guard = none) (s y : Operand) (t e : TypeId) (ho : o.op = .call { callee := .builtin .append, args := #[s, y], argTypes := #[t, t] })
    (i : TypeInfo) (z : Value) (size B n m : Nat) (flat news : List Value) (v x : Value) (ht : P.underlying t = some (.slice e)) (hi : P.info? e = some i) (hz : i.zero = some z)
    (hsize : i.size = size) (hzs : z.cells.size = size) (hes : a.eval s = v) (hey : a.eval y = x) (hv : RowZ e size B n flat v w) (hB : B ≤ w.heap.size) (hs : Src P size t x m news w) (hm : 0 < m) (h63 : n + m ≤ maxLen) (hb : (n + m) * i.bytes ≤ 140737488355328)
    (h : ∀ v' w', Below B w w' → KpV v v' w w' → RowZ e size B (n + m) (flat ++ news) v' w' → wpList P ops Q rest (a.put o.dst v') w') : wpList P ops Q (o :: rest) a w := by
  obtain ⟨v', w', hr, h1, h2, h3⟩ := append_rowF (P := P) w t o.type e i z size B n m flat news v x ht hi hz hsize hzs hv hB hs hm h63 hb
  refine wpList_plain hgd fun _ hK => ?_
  unfold Oper.wp execOp
  simp only [ho, resolve, invoke, builtin, Sem.run_bind, Sem.run_pure, Result.andThen_ok, List.map_toArray, List.map_cons, List.map_nil, hes, hey, hr]
  exact hK _ _ (h v' w' h1 h2 h3)
end Go.Proofs.YtpifllonlchhhaaGreatDoor
namespace Go.Proofs.YtpifllonlchhhaaGreatDoor
set_option linter.unusedVariables false
open Go.RowKit
/-- what is shown of each operation of the head -/
def UsersG (P : Program) (ops : Array Oper) (ps : List (Value → World → Prop)) (w0 : World) (a0 : Act) : List (Option Tmp) → List Oper → List (Value → World → Prop) → Prop
  | pre, o :: l, q :: qs => (∀ (vs : Nat → Value) (w : World), Below w0.heap.size w0 w → (∀ j, depB o j = true → rel ps j (vs j) w) →
      wpList P ops (fun e a' w' => e = .normal ∧ a'.defers = a0.defers ∧ Below w.heap.size w w' ∧ q (dstV o a') w') [o] (putD vs 0 pre a0) w) ∧ UsersG P ops ps w0 a0 (pre ++ [o.dst]) l qs
  | _, _, _ => True
theorem UsersG.rg {P : Program} {ps : List (Value → World → Prop)} {w0 : World} {a0 : Act} {L : List Oper} {n : Nat} (hnp : n ≤ ps.length) : ∀ (l : List Oper) (k : Nat), (∀ j, l[j]? = (L.take n)[k + j]?) → UsersG P L.toArray ps w0 a0 ((L.take k).map (·.dst)) l (ps.drop k) → RS.UsersRG (fun w w' => Below w.heap.size w w') (fun _ => none) P L.toArray (fun i _ v w => rel ps i v w) w0 a0 k l
  | [], _, _, _ => trivial
  | o :: l, k, hl, h => by
    have h0 : (L.take n)[k]? = some o := by simpa using (hl 0).symm
    obtain ⟨hkn, hLo⟩ := take_get' h0
    have hkp : k < ps.length := by omega
    rw [List.drop_eq_getElem_cons hkp] at h
    refine ⟨fun vs w hb hE => ?_, UsersG.rg hnp l (k + 1) (fun j => by have := hl (j + 1); simpa [Nat.add_assoc, Nat.add_comm 1 j] using this) ?_⟩
    · have hu := h.1 vs w hb fun j hj => by
        obtain ⟨e, he, hej⟩ := List.any_eq_true.1 hj
        simp only [Bool.and_eq_true, beq_iff_eq] at hej
        have := RS.AllE_get _ hE e he hej.1
        rwa [hej.2] at this
      have hfr : seen L.toArray vs k a0 = putD vs 0 ((L.take k).map (·.dst)) a0 := putAll_D vs _ 0 a0
      rw [hfr]
      have hq : ps[k] = ps.getD k Anyv := by simp [List.getD_eq_getElem?_getD, hkp]
      rw [hq] at hu
      exact hu
    · have h2 := h.2
      have e1 : (L.take k).map (·.dst) ++ [o.dst] = (L.take (k + 1)).map (·.dst) := by
        rw [List.take_add_one, hLo]; simp
      rw [e1] at h2
      exact h2
theorem any_region_rglG {P : Program} {l : List Oper} {Q : Exit → Act → World → Prop} {a0 : Act} {w0 : World} (ps : List (Value → World → Prop)) (n sz : Nat) (hnp : ps.length = n) (hsz : a0.tmps.size = sz)
    (hB : (okRG l.toArray sz && looksG l.toArray n && (decide (l.length ≤ n) || (Region.sinkB .any l.toArray n && Region.chainB .any l.toArray n)) && decide (n ≤ l.length) && Region.seqB .any l.toArray (l.length - n) n ((List.range l.length).map fun i => decide (i < n)).toArray) = true)
    (hst : AllS ps) (hsteps : UsersG P l.toArray ps w0 a0 [] (l.take n) ps)
    (hfin : ∀ vs w', Below w0.heap.size w0 w' → AllR vs w' 0 ps → wpList P l.toArray Q (l.drop n) (putD vs 0 ((l.take n).map (·.dst)) a0) w') : wpAny P .any l.toArray Q l.toArray.size (Array.replicate l.toArray.size false) a0 { w0 with drawn := w0.drawn + 1 } := by
  subst hnp hsz
  refine RS.any_region_rg cls_Bl (fun _ => none) ps.length (fun i _ v w => rel ps i v w) hB (fun _ _ _ _ h => by cases h) (fun i _ v w w' h hb => AllS.get ps i hst v w w' h hb) (UsersG.rg (Nat.le_refl _) (l.take ps.length) 0 (fun j => by simp) hsteps) fun vs w' hb hR => by rw [putAll_D]; exact hfin vs w' hb (AllR_of ps 0 fun i hi => by rw [Nat.zero_add]; exact hR i hi)
theorem wp_region_rglG {P : Program} {id : Nat} {l : List Oper} {Q : Exit → Act → World → Prop} {a0 : Act} {w0 : World} (ps : List (Value → World → Prop)) (n sz : Nat) (hm : P.follows .mixedOrders = true) (hnp : ps.length = n) (hsz : a0.tmps.size = sz)
    (hB : (okRG l.toArray sz && looksG l.toArray n && (decide (l.length ≤ n) || (Region.sinkB .any l.toArray n && Region.chainB .any l.toArray n)) && decide (n ≤ l.length) && Region.seqB .any l.toArray (l.length - n) n ((List.range l.length).map fun i => decide (i < n)).toArray) = true)
    (hst : AllS ps) (hsteps : UsersG P l.toArray ps w0 a0 [] (l.take n) ps)
    (hfin : ∀ vs w', Below w0.heap.size w0 w' → AllR vs w' 0 ps → wpList P l.toArray Q (l.drop n) (putD vs 0 ((l.take n).map (·.dst)) a0) w') : (Code.region id l.toArray true).wp P Q a0 w0 :=
  wp_region_any hm (any_region_rglG ps n sz hnp hsz hB hst hsteps hfin)
end Go.Proofs.YtpifllonlchhhaaGreatDoor
namespace Go.Proofs.YtpifllonlchhhaaGreatDoor.RS
set_option linter.unusedVariables false
open Go.RowKit
abbrev Rl := Value → Value → World → Prop
def Stab (K : World → World → Prop) (p : Rl) : Prop := ∀ x v w w', p x v w → K w w' → p x v w'
def Eqv (u : Value) : Rl := fun _ v _ => v = u
def Anyv : Rl := fun _ _ _ => True
theorem stab_eqv {K : World → World → Prop} (u : Value) : Stab K (Eqv u) := fun _ _ _ _ h _ => h
theorem stab_any {K : World → World → Prop} : Stab K Anyv := fun _ _ _ _ _ _ => trivial
def rel (ps : List Rl) (i : Nat) : Rl := ps.getD i Anyv
def AllS (K : World → World → Prop) : List Rl → Prop
  | [] => True
  | p :: l => Stab K p ∧ AllS K l
def AllR (ks : Nat → Option Nat) (vs : Nat → Value) (w : World) : Nat → List Rl → Prop
  | _, [] => True
  | k, p :: l => p (argV ks vs k) (vs k) w ∧ AllR ks vs w (k + 1) l
theorem AllS.get {K : World → World → Prop} : ∀ (ps : List Rl) (i : Nat), AllS K ps → Stab K (ps.getD i Anyv)
  | [], i, _ => by simpa using stab_any
  | p :: l, 0, h => by simpa using h.1
  | p :: l, i + 1, h => by simpa using AllS.get l i h.2
theorem AllR_of {ks : Nat → Option Nat} {vs : Nat → Value} {w : World} : ∀ (ps : List Rl) (k : Nat), (∀ i, i < ps.length → (ps.getD i Anyv) (argV ks vs (k + i)) (vs (k + i)) w) → AllR ks vs w k ps
  | [], _, _ => trivial
  | p :: l, k, h => ⟨by simpa using h 0 (by simp), AllR_of l (k + 1) fun i hi => by
      have := h (i + 1) (by simp; omega)
      rw [show k + 1 + i = k + (i + 1) by omega]; simpa using this⟩
def depB (o : Oper) (j : Nat) : Bool := o.after.toList.any fun e => Region.binds .any e && e.on == j
def putD (vs : Nat → Value) : Nat → List (Option Tmp) → Act → Act
  | _, [], a => a
  | k, d :: rest, a => putD vs (k + 1) rest (a.put d (vs k))
theorem putAll_D (vs : Nat → Value) : ∀ (l : List Oper) (k : Nat) (a : Act), putAll vs k l a = putD vs k (l.map (·.dst)) a
  | [], _, _ => rfl
  | o :: l, k, a => putAll_D vs l (k + 1) _
/-- what is shown of each operation of the head -/
def UsersG (K : World → World → Prop) (ks : Nat → Option Nat) (P : Program) (ops : Array Oper) (ps : List Rl) (w0 : World) (a0 : Act) : Nat → List (Option Tmp) → List Oper → List Rl → Prop
  | k, pre, o :: l, q :: qs => (∀ (vs : Nat → Value) (w : World), K w0 w → (∀ j, depB o j = true → rel ps j (argV ks vs j) (vs j) w) →
      wpList P ops (fun e a' w' => e = .normal ∧ a'.defers = a0.defers ∧ K w w' ∧ q (argV ks vs k) (dstV o a') w') [o] (putD vs 0 pre a0) w) ∧ UsersG K ks P ops ps w0 a0 (k + 1) (pre ++ [o.dst]) l qs
  | _, _, _, _ => True
theorem UsersG.rg {K : World → World → Prop} {ks : Nat → Option Nat} {P : Program} {ps : List Rl} {w0 : World} {a0 : Act} {L : List Oper} {n : Nat} (hnp : n ≤ ps.length) : ∀ (l : List Oper) (k : Nat), (∀ j, l[j]? = (L.take n)[k + j]?) → UsersG K ks P L.toArray ps w0 a0 k ((L.take k).map (·.dst)) l (ps.drop k) → UsersRG K ks P L.toArray (rel ps) w0 a0 k l
  | [], _, _, _ => trivial
  | o :: l, k, hl, h => by
    have h0 : (L.take n)[k]? = some o := by simpa using (hl 0).symm
    obtain ⟨hkn, hLo⟩ := take_get' h0
    have hkp : k < ps.length := by omega
    rw [List.drop_eq_getElem_cons hkp] at h
    refine ⟨fun vs w hb hE => ?_, UsersG.rg hnp l (k + 1) (fun j => by have := hl (j + 1); simpa [Nat.add_assoc, Nat.add_comm 1 j] using this) ?_⟩
    · have hu := h.1 vs w hb fun j hj => by
        obtain ⟨e, he, hej⟩ := List.any_eq_true.1 hj
        simp only [Bool.and_eq_true, beq_iff_eq] at hej
        have := AllE_get _ hE e he hej.1
        rwa [hej.2] at this
      have hfr : seen L.toArray vs k a0 = putD vs 0 ((L.take k).map (·.dst)) a0 := putAll_D vs _ 0 a0
      rw [hfr]
      have hq : ps[k] = rel ps k := by simp [rel, List.getD_eq_getElem?_getD, hkp]
      rw [hq] at hu
      exact hu
    · have h2 := h.2
      have e1 : (L.take k).map (·.dst) ++ [o.dst] = (L.take (k + 1)).map (·.dst) := by
        rw [List.take_add_one, hLo]; simp
      rw [e1] at h2
      exact h2
/-- which operation's value a relation names -/
def ksOf (l : List (Nat × Nat)) (i : Nat) : Option Nat := (l.find? (·.1 == i)).map (·.2)
def ksB (L : List Oper) (l : List (Nat × Nat)) : Bool := l.all fun p => match L[p.1]? with | some o => depB o p.2 | none => true
theorem ksB_spec {L : List Oper} {l : List (Nat × Nat)} (h : ksB L l = true) (i : Nat) (o : Oper) (k : Nat) (ho : L.toArray[i]? = some o) (hk : ksOf l i = some k) : ∃ e ∈ o.after, Region.binds .any e = true ∧ e.on = k := by
  unfold ksOf at hk
  cases hf : l.find? (·.1 == i) with
  | none => rw [hf] at hk; cases hk
  | some p =>
    rw [hf] at hk
    have hp := List.find?_some hf
    have hm := List.mem_of_find?_eq_some hf
    have h1 := List.all_eq_true.1 h p hm
    have e1 : p.1 = i := by simpa using hp
    have e2 : p.2 = k := by simpa using hk
    have ho' : L[i]? = some o := by simpa using ho
    rw [e1, ho'] at h1
    simp only [e2] at h1
    obtain ⟨e, he, hej⟩ := List.any_eq_true.1 h1
    simp only [Bool.and_eq_true, beq_iff_eq] at hej
    exact ⟨e, by simpa using he, hej.1, hej.2⟩
theorem any_region_rgl {K : World → World → Prop} (hK : Cls K) (kl : List (Nat × Nat)) {P : Program} {l : List Oper} {Q : Exit → Act → World → Prop} {a0 : Act} {w0 : World} (ps : List Rl) (n sz : Nat) (hnp : ps.length = n) (hsz : a0.tmps.size = sz)
    (hB : (okRG l.toArray sz && looksG l.toArray n && (decide (l.length ≤ n) || (Region.sinkB .any l.toArray n && Region.chainB .any l.toArray n)) && decide (n ≤ l.length) && Region.seqB .any l.toArray (l.length - n) n ((List.range l.length).map fun i => decide (i < n)).toArray) = true)
    (hkl : ksB l kl = true) (hst : AllS K ps) (hsteps : UsersG K (ksOf kl) P l.toArray ps w0 a0 0 [] (l.take n) ps)
    (hfin : ∀ vs w', K w0 w' → AllR (ksOf kl) vs w' 0 ps → wpList P l.toArray Q (l.drop n) (putD vs 0 ((l.take n).map (·.dst)) a0) w') : wpAny P .any l.toArray Q l.toArray.size (Array.replicate l.toArray.size false) a0 { w0 with drawn := w0.drawn + 1 } := by
  subst hnp hsz
  refine any_region_rg hK (ksOf kl) ps.length (rel ps) hB (ksB_spec hkl) (fun i x v w w' h hb => AllS.get ps i hst x v w w' h hb) (UsersG.rg (Nat.le_refl _) (l.take ps.length) 0 (fun j => by simp) hsteps) fun vs w' hb hR => by rw [putAll_D]; exact hfin vs w' hb (AllR_of ps 0 fun i hi => by rw [Nat.zero_add]; exact hR i hi)
theorem wp_region_rgl {K : World → World → Prop} (hK : Cls K) (kl : List (Nat × Nat)) {P : Program} {id : Nat} {l : List Oper} {Q : Exit → Act → World → Prop} {a0 : Act} {w0 : World} (ps : List Rl) (n sz : Nat) (hm : P.follows .mixedOrders = true) (hnp : ps.length = n) (hsz : a0.tmps.size = sz)
    (hB : (okRG l.toArray sz && looksG l.toArray n && (decide (l.length ≤ n) || (Region.sinkB .any l.toArray n && Region.chainB .any l.toArray n)) && decide (n ≤ l.length) && Region.seqB .any l.toArray (l.length - n) n ((List.range l.length).map fun i => decide (i < n)).toArray) = true)
    (hkl : ksB l kl = true) (hst : AllS K ps) (hsteps : UsersG K (ksOf kl) P l.toArray ps w0 a0 0 [] (l.take n) ps)
    (hfin : ∀ vs w', K w0 w' → AllR (ksOf kl) vs w' 0 ps → wpList P l.toArray Q (l.drop n) (putD vs 0 ((l.take n).map (·.dst)) a0) w') : (Code.region id l.toArray true).wp P Q a0 w0 :=
  wp_region_any hm (any_region_rgl hK kl ps n sz hnp hsz hB hkl hst hsteps hfin)
/-! ### one store into memory that the region makes -/
/-- below B nothing changes; a block from B on that is there stays, or holds at last what is stored -/
def KF (B : Nat) (t : TypeId) (cs : Array Value) (w w' : World) : Prop := Below B w w' ∧ w.heap.size ≤ w'.heap.size ∧ ∀ g c, B ≤ g → Bx w g t c → c.size = cs.size → Bx w' g t c ∨ Bx w' g t cs
theorem KF.of {B : Nat} {t : TypeId} {cs : Array Value} {w w' : World} (hB : B ≤ w.heap.size) (h : Below w.heap.size w w') : KF B t cs w w' := ⟨h.mono hB, h.size, fun g c _ hb _ => .inl (hb.call h)⟩
theorem cls_KF (B : Nat) (t : TypeId) (cs : Array Value) : Cls (KF B t cs) :=
  ⟨fun w => ⟨Below.refl _ _, Nat.le_refl _, fun g c _ h _ => .inl h⟩,
   fun h1 h2 => ⟨h1.1.trans h2.1, Nat.le_trans h1.2.1 h2.2.1, fun g c hg h hc => by
     rcases h1.2.2 g c hg h hc with h3 | h3
     · exact h2.2.2 g c hg h3 hc
     · rcases h2.2.2 g cs hg h3 rfl with h4 | h4 <;> exact .inr h4⟩,
   fun w n => ⟨⟨rfl, rfl, rfl, Nat.le_refl _, fun _ _ => rfl⟩, Nat.le_refl _, fun g c _ h _ => .inl h⟩⟩
/-- a pointer to a block of one's own -/
def PtrR (B : Nat) (t : TypeId) (cs : Array Value) : Rl := fun _ v w => ∃ g c, v = .pointer (some ⟨g, 0, none⟩) ∧ B ≤ g ∧ c.size = cs.size ∧ Bx w g t c
/-- what is stored lies where the named pointer points -/
def StoR (B : Nat) (t : TypeId) (cs : Array Value) : Rl := fun x _ w => ∃ g, x = .pointer (some ⟨g, 0, none⟩) ∧ B ≤ g ∧ Bx w g t cs
theorem stab_ptr (B : Nat) (t : TypeId) (cs : Array Value) : Stab (KF B t cs) (PtrR B t cs) := fun x v w w' ⟨g, c, e, hg, hc, hb⟩ h => by
  rcases h.2.2 g c hg hb hc with h1 | h1
  · exact ⟨g, c, e, hg, hc, h1⟩
  · exact ⟨g, cs, e, hg, rfl, h1⟩
theorem stab_sto (B : Nat) (t : TypeId) (cs : Array Value) : Stab (KF B t cs) (StoR B t cs) := fun x v w w' ⟨g, e, hg, hb⟩ h => by
  rcases h.2.2 g cs hg hb rfl with h1 | h1 <;> exact ⟨g, e, hg, h1⟩
end Go.Proofs.YtpifllonlchhhaaGreatDoor.RS
namespace Go.Proofs.YtpifllonlchhhaaGreatDoor.RS
set_option linter.unusedVariables false
open Go.RowKit
variable {B : Nat} {t : TypeId} {cs : Array Value} {W w w' : World}
theorem KF.rf (B : Nat) (t : TypeId) (cs : Array Value) (w : World) : KF B t cs w w := (cls_KF B t cs).refl w
theorem KF.call (h : KF B t cs W w) (hB : B ≤ W.heap.size) (hb : Below w.heap.size w w') : KF B t cs w w' := KF.of (Nat.le_trans hB h.2.1) hb
theorem KF.new (h : KF B t cs W w) (hB : B ≤ W.heap.size) (z : Array Value) (hz : z.size = cs.size) (x : Value) : KF B t cs w (w.alloc (.cells z t)) ∧ PtrR B t cs x (.pointer (some ⟨w.heap.size, 0, none⟩)) (w.alloc (.cells z t)) :=
  ⟨h.call hB (bNew (Below.refl w.heap.size w) _), _, z, rfl, Nat.le_trans hB h.2.1, hz, Bx.mk w t z⟩
theorem two_cells {c : Array Value} (h : c.size = 2) : ∃ a b, c = #[a, b] := by
  refine ⟨c[0], c[1], ?_⟩
  apply Array.ext
  · simp [h]
  · intro i h1 h2
    have : i = 0 ∨ i = 1 := by omega
    rcases this with rfl | rfl <;> rfl
theorem KF.store2 {x y a b : Value} {g : Nat} (hg : B ≤ g) (hB : Bx w g t #[a, b]) (u : Value) (hu : u = .pointer (some ⟨g, 0, none⟩)) (z : Value) :
    KF B t #[x, y] w ((w.setCell ⟨g, 0, none⟩ x).setCell ⟨g, 1, none⟩ y) ∧ StoR B t #[x, y] u z ((w.setCell ⟨g, 0, none⟩ x).setCell ⟨g, 1, none⟩ y) := by
  have h2 : Bx ((w.setCell ⟨g, 0, none⟩ x).setCell ⟨g, 1, none⟩ y) g t #[x, y] := by simpa using (hB.set 0 x).set 1 y
  refine ⟨⟨((Below.refl B w).setCell (p := ⟨g, 0, none⟩) hg x).setCell (p := ⟨g, 1, none⟩) hg y, ?_, fun g' c hg' h hc => ?_⟩, g, hu, hg, h2⟩
  · have := ((Below.refl B w).setCell (p := ⟨g, 0, none⟩) hg x).setCell (p := ⟨g, 1, none⟩) hg y
    exact this.size
  · by_cases e : g' = g
    · subst e
      have ht : c.size = 2 ∧ True := ⟨hc, trivial⟩
      right
      exact h2
    · left
      exact (h.far (p := ⟨g, 0, none⟩) e x).far (p := ⟨g, 1, none⟩) e y
end Go.Proofs.YtpifllonlchhhaaGreatDoor.RS
namespace Go.Proofs.YtpifllonlchhhaaGreatDoor
set_option linter.unusedVariables false
set_option linter.unusedSimpArgs false
open Go.RowKit
/-- below B nothing changes; a block from B on keeps its cells up to pos + news.length, or holds there what is appended -/
def KH (B : Nat) (e : TypeId) (pos : Nat) (news : List Value) (w w' : World) : Prop := Below B w w' ∧ w.heap.size ≤ w'.heap.size ∧ ∀ g c, B ≤ g → Bx w g e c → ∃ c', Bx w' g e c' ∧ c'.size = c.size ∧ ∀ (i : Nat) (v : Value), i < pos + news.length → c[i]? = some v → c'[i]? = some v ∨ (pos ≤ i ∧ ∃ u, news[i - pos]? = some u ∧ c'[i]? = some u)
theorem KH.rf (B : Nat) (e : TypeId) (pos : Nat) (news : List Value) (w : World) : KH B e pos news w w := ⟨Below.refl _ _, Nat.le_refl _, fun g c _ h => ⟨c, h, rfl, fun i v _ hv => .inl hv⟩⟩
theorem cls_KH (B : Nat) (e : TypeId) (pos : Nat) (news : List Value) : RS.Cls (KH B e pos news) :=
  ⟨KH.rf B e pos news, fun h1 h2 => ⟨h1.1.trans h2.1, Nat.le_trans h1.2.1 h2.2.1, fun g c hg h => by
     obtain ⟨c1, a1, a2, a3⟩ := h1.2.2 g c hg h
     obtain ⟨c2, b1, b2, b3⟩ := h2.2.2 g c1 hg a1
     refine ⟨c2, b1, b2.trans a2, fun i v hi hv => ?_⟩
     rcases a3 i v hi hv with h3 | ⟨h3, u, h4, h5⟩
     · exact b3 i v hi h3
     · rcases b3 i u hi h5 with h6 | h6
       · exact .inr ⟨h3, u, h4, h6⟩
       · exact .inr h6⟩,
   fun w n => ⟨⟨rfl, rfl, rfl, Nat.le_refl _, fun _ _ => rfl⟩, Nat.le_refl _, fun g c _ h => ⟨c, h, rfl, fun i v _ hv => .inl hv⟩⟩⟩
theorem KH.of {B : Nat} {e : TypeId} {pos : Nat} {news : List Value} {w w' : World} (hB : B ≤ w.heap.size) (h : Below w.heap.size w w') : KH B e pos news w w' := ⟨h.mono hB, h.size, fun g c _ hb => ⟨c, hb.call h, rfl, fun i v _ hv => .inl hv⟩⟩
theorem KH.call {B : Nat} {e : TypeId} {pos : Nat} {news : List Value} {W w w' : World} (h : KH B e pos news W w) (hB : B ≤ W.heap.size) (hb : Below w.heap.size w w') : KH B e pos news w w' := KH.of (Nat.le_trans hB h.2.1) hb
/-- a slice of one's own, its first n elements known -/
def RoH (e : TypeId) (size B n : Nat) (flat : List Value) : RS.Rl := fun _ v w => RowZ e size B n flat v w
theorem flat_cells {cs : Array Value} {flat : List Value} {k : Nat} (hk : flat.length = k) (h : cs.toList.take k = flat) {i : Nat} (hi : i < k) : cs[i]? = flat[i]? := by
  rw [← h, List.getElem?_take, if_pos hi]; simp
theorem flat_of {cs : Array Value} {flat : List Value} {k : Nat} (hk : flat.length = k) (hs : k ≤ cs.size) (h : ∀ i, i < k → cs[i]? = flat[i]?) : cs.toList.take k = flat := by
  apply List.ext_getElem?
  intro i
  rw [List.getElem?_take]
  by_cases hi : i < k
  · rw [if_pos hi, ← h i hi]; simp
  · rw [if_neg hi, List.getElem?_eq_none (by omega)]
theorem stab_roH {e : TypeId} {size B n : Nat} {flat news : List Value} (hf : flat.length = n * size) : RS.Stab (KH B e (n * size) news) (RoH e size B n flat) := fun x v w w' hr hK => by
  rcases hr with h | ⟨cap, ⟨g, cells, rfl, hg, hnc, hbx, hcs, hfl⟩, hm⟩
  · exact .inl h
  · obtain ⟨c', h1, h2, h3⟩ := hK.2.2 g cells hg hbx
    refine .inr ⟨cap, ⟨g, c', rfl, hg, hnc, h1, by rw [h2, hcs], ?_⟩, hm⟩
    have hle : n * size ≤ cells.size := by rw [hcs]; exact Nat.mul_le_mul_right _ hnc
    refine flat_of hf (by rw [h2]; exact hle) fun i hi => ?_
    have hci : cells[i]? = some (cells[i]'(by omega)) := Array.getElem?_eq_getElem (by omega)
    rw [← flat_cells hf hfl hi, hci]
    rcases h3 i _ (by omega) hci with h4 | ⟨h4, -⟩
    · exact h4
    · omega
theorem stab_roH2 {e : TypeId} {size B n m : Nat} {flat news : List Value} (hf : flat.length = n * size) (hn : news.length = m * size) : RS.Stab (KH B e (n * size) news) (RoH e size B (n + m) (flat ++ news)) := fun x v w w' hr hK => by
  rcases hr with h | ⟨cap, ⟨g, cells, rfl, hg, hnc, hbx, hcs, hfl⟩, hm⟩
  · exact .inl h
  · obtain ⟨c', h1, h2, h3⟩ := hK.2.2 g cells hg hbx
    refine .inr ⟨cap, ⟨g, c', rfl, hg, hnc, h1, by rw [h2, hcs], ?_⟩, hm⟩
    have hl : (flat ++ news).length = (n + m) * size := by rw [List.length_append, hf, hn, Nat.add_mul]
    have hle : (n + m) * size ≤ cells.size := by rw [hcs]; exact Nat.mul_le_mul_right _ hnc
    refine flat_of hl (by rw [h2]; exact hle) fun i hi => ?_
    have hci : cells[i]? = some (cells[i]'(by omega)) := Array.getElem?_eq_getElem (by omega)
    have hfi := flat_cells hl hfl hi
    rw [Nat.add_mul, ← hn] at hi
    rcases h3 i _ hi hci with h4 | ⟨h4, u, h5, h6⟩
    · rw [← hfi, hci, h4]
    · rw [List.getElem?_append_right (by omega), hf, h5, h6]
/-- the slice of what is appended -/
def SlN (B : Nat) (e : TypeId) (m : Nat) (news : List Value) : RS.Rl := fun _ v w => ∃ g, v = .slice (some ⟨g, 0, none⟩) m m ∧ B ≤ g ∧ Bx w g e news.toArray
theorem stab_slN {B : Nat} {e : TypeId} {pos m : Nat} {news : List Value} (h : pos = 0 ∨ news.length ≤ pos) : RS.Stab (KH B e pos news) (SlN B e m news) := fun x v w w' ⟨g, e1, hg, hB⟩ hK => by
  obtain ⟨c', h1, h2, h3⟩ := hK.2.2 g _ hg hB
  refine ⟨g, e1, hg, ?_⟩
  have : c' = news.toArray := by
    apply Array.ext_getElem?
    intro i
    by_cases hi : i < news.length
    · have hci : news.toArray[i]? = some news[i] := by simp [hi]
      rw [hci]
      rcases h3 i _ (by omega) hci with h4 | ⟨h4, u, h5, h6⟩
      · exact h4
      · obtain rfl : pos = 0 := by omega
        rw [Nat.sub_zero, List.getElem?_eq_getElem hi] at h5
        rw [h6, ← h5]
    · rw [Array.getElem?_eq_none (by rw [h2]; simpa using hi), Array.getElem?_eq_none (by simpa using hi)]
  rw [← this]; exact h1
theorem append_KH {P : Program} (w : World) (t ty e : TypeId) (i : TypeInfo) (z : Value) (size B n m : Nat) (flat news : List Value) (v x : Value) (ht : P.underlying t = some (.slice e)) (hi : P.info? e = some i) (hz : i.zero = some z)
    (hsize : i.size = size) (hzs : z.cells.size = size) (hv : RowZ e size B n flat v w) (hB : B ≤ w.heap.size) (hs : Src P size t x m news w) (hm : 0 < m) (h63 : n + m ≤ maxLen) (hb : (n + m) * i.bytes ≤ 140737488355328) :
    ∃ v' w', (Builtin.append_ #[t, t] ty #[v, x]).run P w = .ok v' w' ∧ KH B e (n * size) news w w' ∧ RowZ e size B (n + m) (flat ++ news) v' w' := by
  rcases hv with ⟨rfl, rfl, rfl⟩ | ⟨cap, hv, hcm⟩
  · subst hsize
    have hnl := hs.newsLen
    have hold : (Builtin.firstCells i.size 0 (.slice none 0 0)).run P w.drew = .ok ([] : List Value).toArray w.drew := by simp [Builtin.firstCells, loadCells, loadCellsFrom]
    have hrun := run_append_grow_src (P := P) w t t ty e i z ht hi hz none 0 0 [] hold x m news hs (by omega) (by simp only [maxLen] at h63; omega) (growslice_fits (by omega) hb)
    have hge := grownCap_ge w (0 + m) 0 e
    refine ⟨_, _, hrun, KH.of hB (((Below.refl w.heap.size w).drew).alloc (Nat.le_refl _) _), .inr ⟨_, ⟨w.heap.size, _, rfl, hB, hge, Bx.mk w.drew e _, ?_, ?_⟩, grownCap_le_maxLen w (0 + m) 0 e h63⟩⟩
    · rw [Array.size_append, List.size_toArray, List.length_append, List.length_nil, hnl, size_zeroCells, hzs, Nat.zero_add, ← Nat.add_mul]
      congr 1; omega
    · rw [Array.toList_append, List.take_append_of_le_length (by simp [hnl, Nat.add_mul])]
      rw [List.take_of_length_le (by simp [hnl, Nat.add_mul])]
  · obtain ⟨g, cells, rfl, hg, hnc, hbx, hcs, hfl⟩ := hv
    subst hsize
    have hnl := hs.newsLen
    by_cases hroom : n + m ≤ cap
    · have hle : n * i.size + news.length ≤ cells.size := by rw [hnl, hcs, ← Nat.add_mul]; exact Nat.mul_le_mul_right _ hroom
      have hrun := run_append_room_src (P := P) w t t ty e i ht hi g 0 n cap x m news hs hroom (fun j hj => by
        rw [hbx.cell (0 + n * i.size + j) (v := cells[0 + n * i.size + j]'(by omega)) (by simp)]; rfl) (fun j _ => hbx.frozen _)
      obtain ⟨cs', h1, h2, h3⟩ := hbx.setCells news (0 + n * i.size) w cells (by omega)
      have h3' : cs'.toList.take (n * i.size + news.length) = flat ++ news := by rw [Nat.zero_add] at h3; rw [h3, hfl]
      have hbl : Below B w (w.setCells g (0 + n * i.size) news) := by
        clear hrun h1 h2 h3 hs
        generalize 0 + n * i.size = o
        have : ∀ (vs : List Value) (o : Nat) (w' : World), Below B w w' → Below B w (w'.setCells g o vs) := by
          intro vs
          induction vs with
          | nil => intro o w' h; exact h
          | cons a l ih => intro o w' h; exact ih _ _ (h.setCell hg _)
        exact this news o w (Below.refl _ _)
      refine ⟨_, _, hrun, ⟨hbl, size_setCells _ _ _, fun b c hb' hc => ?_⟩, .inr ⟨cap, ⟨g, cs', rfl, hg, hroom, h1, by rw [h2, hcs], ?_⟩, hcm⟩⟩
      · by_cases hbg : b = g
        · subst hbg
          have hcc : c = cells := by
            have := (show w.heap[b]? = _ from hc).symm.trans hbx
            simpa using this
          subst hcc
          refine ⟨cs', h1, h2, fun j u hj hu => ?_⟩
          have hflen : flat.length = n * i.size := by rw [← hfl, List.length_take, Array.length_toList]; omega
          have hc' : cs'[j]? = (flat ++ news)[j]? := flat_cells (by rw [List.length_append, hflen]) h3' hj
          by_cases hjp : j < n * i.size
          · left
            rw [hc', List.getElem?_append_left (by omega), ← flat_cells hflen hfl hjp, hu]
          · right
            refine ⟨by omega, ?_⟩
            rw [hc', List.getElem?_append_right (by omega), hflen]
            exact ⟨_, List.getElem?_eq_getElem (by omega), List.getElem?_eq_getElem (by omega)⟩
        · exact ⟨c, (heap_setCells hbg _ _ _).trans hc, rfl, fun j u _ hu => .inl hu⟩
      · rw [Nat.add_mul, ← hnl]; exact h3'
    · have hfl' : flat.length = n * i.size := by
        rw [← hfl, List.length_take, Array.length_toList, hcs]
        exact Nat.min_eq_left (Nat.mul_le_mul_right _ hnc)
      have hold : (Builtin.firstCells i.size n (.slice (some ⟨g, 0, none⟩) n cap)).run P w.drew = .ok flat.toArray w.drew :=
        run_firstCells_some w.drew i.size n ⟨g, 0, none⟩ n cap flat hfl' fun j u hu => by
          have hj : cells[j]? = some u := by
            rw [← hfl, List.getElem?_take] at hu
            split at hu
            · simpa using hu
            · cases hu
          rw [Addr.add_lit, Nat.zero_add]
          exact (show Bx w.drew g e cells from hbx).cell j hj
      have hrun := run_append_grow_src (P := P) w t t ty e i z ht hi hz (some ⟨g, 0, none⟩) n cap flat hold x m news hs (by omega) (by simp only [maxLen] at h63; omega) (growslice_fits (by omega) hb)
      have hge := grownCap_ge w (n + m) cap e
      refine ⟨_, _, hrun, KH.of hB (((Below.refl w.heap.size w).drew).alloc (Nat.le_refl _) _), .inr ⟨_, ⟨w.heap.size, _, rfl, hB, hge, Bx.mk w.drew e _, ?_, ?_⟩, grownCap_le_maxLen w (n + m) cap e h63⟩⟩
      · rw [Array.size_append, List.size_toArray, List.length_append, hfl', hnl, size_zeroCells, hzs, ← Nat.add_mul, ← Nat.add_mul]
        congr 1; omega
      · rw [Array.toList_append, List.take_append_of_le_length (by simp [hfl', hnl, Nat.add_mul])]
        rw [List.take_of_length_le (by simp [hfl', hnl, Nat.add_mul])]
/-- at the list of a region's operations -/
theorem wpList_append_KH {P : Program} {w : World} {ops : Array Oper} {rest : List Oper} {o : Oper} {a : Act} {Q : Exit → Act → World → Prop} (hgd : o.guard = none) (s y : Operand) (t e : TypeId) (ho : o.op = .call { callee := .builtin .append, args := #[s, y], argTypes := #[t, t] })
    (i : TypeInfo) (z : Value) (size B n m : Nat) (flat news : List Value) (v x : Value) (ht : P.underlying t = some (.slice e)) (hi : P.info? e = some i) (hz : i.zero = some z)
    (hsize : i.size = size) (hzs : z.cells.size = size) (hes : a.eval s = v) (hey : a.eval y = x) (hv : RowZ e size B n flat v w) (hB : B ≤ w.heap.size) (hs : Src P size t x m news w) (hm : 0 < m) (h63 : n + m ≤ maxLen) (hb : (n + m) * i.bytes ≤ 140737488355328)
    (h : ∀ v' w', KH B e (n * size) news w w' → RowZ e size B (n + m) (flat ++ news) v' w' → wpList P ops Q rest (a.put o.dst v') w') : wpList P ops Q (o :: rest) a w := by
  obtain ⟨v', w', hr, h1, h2⟩ := append_KH (P := P) w t o.type e i z size B n m flat news v x ht hi hz hsize hzs hv hB hs hm h63 hb
  refine wpList_plain hgd fun _ hK => ?_
  unfold Oper.wp execOp
  simp only [ho, resolve, invoke, builtin, Sem.run_bind, Sem.run_pure, Result.andThen_ok, List.map_toArray, List.map_cons, List.map_nil, hes, hey, hr]
  exact hK _ _ (h v' w' h1 h2)
end Go.Proofs.YtpifllonlchhhaaGreatDoor
namespace Go.Proofs.YtpifllonlchhhaaGreatDoor
set_option linter.unusedVariables false
set_option linter.unusedSimpArgs false
open Go.RowKit
/-- an empty slice with a block of its own -/
def RoE (B : Nat) (e : TypeId) : RS.Rl := fun _ v w => ∃ g, v = .slice (some ⟨g, 0, none⟩) 0 0 ∧ B ≤ g ∧ Bx w g e #[]
theorem stab_roE {B : Nat} {e : TypeId} {pos : Nat} {news : List Value} : RS.Stab (KH B e pos news) (RoE B e) := fun x v w w' ⟨g, e1, hg, hB⟩ hK => by
  obtain ⟨c', h1, h2, -⟩ := hK.2.2 g _ hg hB
  have : c' = #[] := Array.eq_empty_of_size_eq_zero h2
  rw [this] at h1
  exact ⟨g, e1, hg, h1⟩
theorem roE_new {B : Nat} {e : TypeId} (w : World) (hB : B ≤ w.heap.size) (x : Value) : RoE B e x (.slice (some ⟨w.heap.size, 0, none⟩) 0 0) (w.alloc (.cells #[] e)) := ⟨_, rfl, hB, Bx.mk w e #[]⟩
theorem wpList_append_E {P : Program} {w : World} {ops : Array Oper} {rest : List Oper} {o : Oper} {a : Act} {Q : Exit → Act → World → Prop} (hgd : o.guard = none) (s y : Operand) (t e : TypeId) (ho : o.op = .call { callee := .builtin .append, args := #[s, y], argTypes := #[t, t] })
    (i : TypeInfo) (z : Value) (size B m : Nat) (news : List Value) (v x q : Value) (ht : P.underlying t = some (.slice e)) (hi : P.info? e = some i) (hz : i.zero = some z)
    (hsize : i.size = size) (hzs : z.cells.size = size) (hes : a.eval s = v) (hey : a.eval y = x) (hv : RoE B e q v w) (hB : B ≤ w.heap.size) (hs : Src P size t x m news w) (h63 : m ≤ maxLen) (hb : m * i.bytes ≤ 140737488355328)
    (h : ∀ v' w', Below w.heap.size w w' → RowZ e size B m news v' w' → wpList P ops Q rest (a.put o.dst v') w') : wpList P ops Q (o :: rest) a w := by
  obtain ⟨g, rfl, hg, hbx⟩ := hv
  obtain ⟨v', w', cap', hr, h1, h2, h3, h4⟩ := append_row (P := P) w t o.type e i z size B 0 0 m [] news (.slice (some ⟨g, 0, none⟩) 0 0) x ht hi hz hsize hzs ⟨g, #[], rfl, hg, Nat.le_refl _, hbx, by simp, by simp⟩ hB hs (Nat.zero_le _) (by omega) (by rw [Nat.zero_add]; exact hb)
  rw [Nat.zero_add, List.nil_append] at h3
  refine wpList_plain hgd fun _ hK => ?_
  unfold Oper.wp execOp
  simp only [ho, resolve, invoke, builtin, Sem.run_bind, Sem.run_pure, Result.andThen_ok, List.map_toArray, List.map_cons, List.map_nil, hes, hey, hr]
  exact hK _ _ (h v' w' (h2 rfl) (.inr ⟨cap', h3, h4⟩))
end Go.Proofs.YtpifllonlchhhaaGreatDoor

/- Appending to a slice of one's own that begins as nil: what else is kept. Appending to one of several slices of one's own: the others stay. Two slices of the call's own, apart: what is appended to one leaves the other. Plain mathematics of chapter 35: how a further time is put among times; times that are moved. -/
import Derived.Test.YtklelhkcbdajpaaGreatDoorQ16
import Derived.Test.YtklelhkcbdajpaaGreatDoorQ09
namespace Go.Proofs.YtklelhkcbdajpaaGreatDoor
set_option linter.unusedVariables false
set_option linter.unusedSimpArgs false
open Go.RowKit
/-- every block but rows of the element type e is as it was -/
structure KpE (e : TypeId) (W W' : World) : Prop where
  size : W.heap.size ≤ W'.heap.size
  same : ∀ (b : Nat) (o : Obj), W.heap[b]? = some o → (∀ cs f, o ≠ .cells cs e f) → W'.heap[b]? = some o
theorem KpE.refl (e : TypeId) (W : World) : KpE e W W := ⟨Nat.le_refl _, fun _ _ h _ => h⟩
theorem KpE.trans {e : TypeId} {A B C : World} (h : KpE e A B) (k : KpE e B C) : KpE e A C := ⟨Nat.le_trans h.size k.size, fun b o h1 h2 => k.same b o (h.same b o h1 h2) h2⟩
theorem KpE.bx {e t : TypeId} {W W' : World} {g : Nat} {cs : Array Value} (h : KpE e W W') (ht : t ≠ e) (hB : Bx W g t cs) : Bx W' g t cs := h.same g _ hB (fun cs' f hh => by cases hh; exact ht rfl)
theorem KpE.call {e : TypeId} {W W' : World} (h : Below W.heap.size W W') : KpE e W W' := ⟨h.size, fun b o h1 _ => (h.block b (Array.getElem?_eq_some_iff.1 h1).1).trans h1⟩
theorem KpE.set {e : TypeId} {W : World} {g : Nat} {cs : Array Value} (hB : Bx W g e cs) (i : Nat) (u : Value) : KpE e W (W.setCell ⟨g, i, none⟩ u) :=
  ⟨((Below.refl 0 W).setCell (p := ⟨g, i, none⟩) (Nat.zero_le _) u).size, fun b o h1 h2 => by
    by_cases hb : b = g
    · subst hb
      exact absurd (Option.some.inj (h1.symm.trans hB)) (h2 _ _)
    · exact (Below.heap_setCell W ⟨g, i, none⟩ u b hb).trans h1⟩
theorem KpE.sets {e : TypeId} {g : Nat} : ∀ (vs : List Value) (o : Nat) (W : World) (cs : Array Value), Bx W g e cs → KpE e W (W.setCells g o vs)
  | [], o, W, cs, h => KpE.refl _ _
  | v :: l, o, W, cs, h => (KpE.set h o v).trans (KpE.sets l (o + 1) _ _ (h.set o v))
theorem append_rowE {P : Program} (w : World) (t ty e : TypeId) (i : TypeInfo) (z : Value) (size B n m : Nat) (flat news : List Value) (v x : Value) (ht : P.underlying t = some (.slice e)) (hi : P.info? e = some i) (hz : i.zero = some z)
    (hsize : i.size = size) (hzs : z.cells.size = size) (hv : RowZ e size B n flat v w) (hB : B ≤ w.heap.size) (hs : Src P size t x m news w) (hm : 0 < m) (h63 : n + m ≤ maxLen) (hb : (n + m) * i.bytes ≤ 140737488355328) :
    ∃ v' w', (Builtin.append_ #[t, t] ty #[v, x]).run P w = .ok v' w' ∧ Below B w w' ∧ KpE e w w' ∧ RowZ e size B (n + m) (flat ++ news) v' w' := by
  rcases hv with ⟨rfl, rfl, rfl⟩ | ⟨cap, hv, hcm⟩
  · subst hsize
    have hnl := hs.newsLen
    have hold : (Builtin.firstCells i.size 0 (.slice none 0 0)).run P w.drew = .ok ([] : List Value).toArray w.drew := by simp [Builtin.firstCells, loadCells, loadCellsFrom]
    have hrun := run_append_grow_src (P := P) w t t ty e i z ht hi hz none 0 0 [] hold x m news hs (by omega) (by simp only [maxLen] at h63; omega) (growslice_fits (by omega) hb)
    have hge := grownCap_ge w (0 + m) 0 e
    refine ⟨_, _, hrun, ((Below.refl B w).drew).alloc hB _, KpE.call (((Below.refl w.heap.size w).drew).alloc (Nat.le_refl _) _), .inr ⟨_, ⟨w.heap.size, _, rfl, hB, hge, Bx.mk w.drew e _, ?_, ?_⟩, grownCap_le_maxLen w (0 + m) 0 e h63⟩⟩
    · rw [Array.size_append, List.size_toArray, List.length_append, List.length_nil, hnl, size_zeroCells, hzs, Nat.zero_add, ← Nat.add_mul]
      congr 1; omega
    · rw [Array.toList_append, List.take_append_of_le_length (by simp [hnl, Nat.add_mul])]
      rw [List.take_of_length_le (by simp [hnl, Nat.add_mul])]
  · obtain ⟨g, cells, rfl, hg, hnc, hbx, hcs, hfl⟩ := hv
    subst hsize
    have hnl := hs.newsLen
    by_cases hroom : n + m ≤ cap
    · have hle : n * i.size + news.length ≤ cells.size := by rw [hnl, hcs, ← Nat.add_mul]; exact Nat.mul_le_mul_right _ hroom
      have hrun := run_append_room_src (P := P) w t t ty e i ht hi g 0 n cap x m news hs hroom (fun j hj => by
        rw [hbx.cell (0 + n * i.size + j) (v := cells[0 + n * i.size + j]'(by omega)) (by simp)]; rfl) (fun j _ => hbx.frozen _)
      obtain ⟨cs', h1, h2, h3⟩ := hbx.setCells news (0 + n * i.size) w cells (by omega)
      refine ⟨_, _, hrun, ?_, KpE.sets _ _ _ _ hbx, .inr ⟨cap, ⟨g, cs', rfl, hg, hroom, h1, by rw [h2, hcs], ?_⟩, hcm⟩⟩
      · clear hrun h1 h2 h3 hs
        generalize 0 + n * i.size = o
        have : ∀ (vs : List Value) (o : Nat) (w' : World), Below B w w' → Below B w (w'.setCells g o vs) := by
          intro vs
          induction vs with
          | nil => intro o w' h; exact h
          | cons a l ih => intro o w' h; exact ih _ _ (h.setCell hg _)
        exact this news o w (Below.refl _ _)
      · rw [show (n + m) * i.size = 0 + n * i.size + news.length by rw [Nat.add_mul, hnl]; omega, h3, Nat.zero_add, hfl]
    · have hfl' : flat.length = n * i.size := by
        rw [← hfl, List.length_take, Array.length_toList, hcs]
        exact Nat.min_eq_left (Nat.mul_le_mul_right _ hnc)
      have hold : (Builtin.firstCells i.size n (.slice (some ⟨g, 0, none⟩) n cap)).run P w.drew = .ok flat.toArray w.drew :=
        run_firstCells_some w.drew i.size n ⟨g, 0, none⟩ n cap flat hfl' fun j u hu => by
          have hj : cells[j]? = some u := by
            rw [← hfl, List.getElem?_take] at hu
            split at hu
            · simpa using hu
            · cases hu
          rw [Addr.add_lit, Nat.zero_add]
          exact (show Bx w.drew g e cells from hbx).cell j hj
      have hrun := run_append_grow_src (P := P) w t t ty e i z ht hi hz (some ⟨g, 0, none⟩) n cap flat hold x m news hs (by omega) (by simp only [maxLen] at h63; omega) (growslice_fits (by omega) hb)
      have hge := grownCap_ge w (n + m) cap e
      refine ⟨_, _, hrun, ((Below.refl B w).drew).alloc hB _, KpE.call (((Below.refl w.heap.size w).drew).alloc (Nat.le_refl _) _), .inr ⟨_, ⟨w.heap.size, _, rfl, hB, hge, Bx.mk w.drew e _, ?_, ?_⟩, grownCap_le_maxLen w (n + m) cap e h63⟩⟩
      · rw [Array.size_append, List.size_toArray, List.length_append, hfl', hnl, size_zeroCells, hzs, ← Nat.add_mul, ← Nat.add_mul]
        congr 1; omega
      · rw [Array.toList_append, List.take_append_of_le_length (by simp [hfl', hnl, Nat.add_mul])]
        rw [List.take_of_length_le (by simp [hfl', hnl, Nat.add_mul])]
theorem wpList_append_rowE {P : Program} {w : World} {ops : Array Oper} {rest : List Oper} {o : Oper} {a : Act} {Q : Exit → Act → World → Prop} (hgd : o.guard = none) (s y : Operand) (t e : TypeId) (ho : o.op = .call { callee := .builtin .append, args := #[s, y], argTypes := #[t, t] })
    (i : TypeInfo) (z : Value) (size B n m : Nat) (flat news : List Value) (v x : Value) (ht : P.underlying t = some (.slice e)) (hi : P.info? e = some i) (hz : i.zero = some z)
    (hsize : i.size = size) (hzs : z.cells.size = size) (hes : a.eval s = v) (hey : a.eval y = x) (hv : RowZ e size B n flat v w) (hB : B ≤ w.heap.size) (hs : Src P size t x m news w) (hm : 0 < m) (h63 : n + m ≤ maxLen) (hb : (n + m) * i.bytes ≤ 140737488355328)
    (h : ∀ v' w', Below B w w' → KpE e w w' → RowZ e size B (n + m) (flat ++ news) v' w' → wpList P ops Q rest (a.put o.dst v') w') : wpList P ops Q (o :: rest) a w := by
  obtain ⟨v', w', hr, h1, h2, h3⟩ := append_rowE (P := P) w t o.type e i z size B n m flat news v x ht hi hz hsize hzs hv hB hs hm h63 hb
  refine wpList_plain hgd fun _ hK => ?_
  unfold Oper.wp execOp
  simp only [ho, resolve, invoke, builtin, Sem.run_bind, Sem.run_pure, Result.andThen_ok, List.map_toArray, List.map_cons, List.map_nil, hes, hey, hr]
  exact hK _ _ (h v' w' h1 h2 h3)
/-- one cell of a slice of one's own is set -/
theorem RowC.setAt {e : TypeId} {size B cap n : Nat} {flat : List Value} {g : Nat} {w : World} (h : RowC e size B cap n flat (.slice (some ⟨g, 0, none⟩) n cap) w) (i : Nat) (u : Value) :
    RowC e size B cap n (flat.set i u) (.slice (some ⟨g, 0, none⟩) n cap) (w.setCell ⟨g, i, none⟩ u) := by
  obtain ⟨g', cells, hv, hg, hnc, hbx, hcs, hfl⟩ := h
  cases hv
  exact ⟨g, _, rfl, hg, hnc, hbx.set i u, by simp [hcs], by rw [← hfl]; simp [List.take_set]⟩
end Go.Proofs.YtklelhkcbdajpaaGreatDoor
namespace Go.Proofs.YtklelhkcbdajpaaGreatDoor
set_option linter.unusedVariables false
set_option linter.unusedSimpArgs false
open Go.RowKit
/-- every block but that of the slice is as it was; the new slice lies in the same block, or in a new one -/
structure KpV (v v' : Value) (W W' : World) : Prop where
  size : W.heap.size ≤ W'.heap.size
  same : ∀ (b : Nat) (o : Obj), W.heap[b]? = some o → (∀ n c, v ≠ .slice (some ⟨b, 0, none⟩) n c) → W'.heap[b]? = some o
  at_ : ∃ g n c, v' = .slice (some ⟨g, 0, none⟩) n c ∧ (W.heap.size ≤ g ∨ ∃ n c, v = .slice (some ⟨g, 0, none⟩) n c)
theorem KpV.bx {v v' : Value} {t : TypeId} {W W' : World} {g : Nat} {cs : Array Value} (h : KpV v v' W W') (hB : Bx W g t cs) (hne : ∀ n c, v ≠ .slice (some ⟨g, 0, none⟩) n c) : Bx W' g t cs := h.same g _ hB hne
theorem KpV.grow {v v' : Value} {W W' : World} (hv : ∃ g n c, v' = .slice (some ⟨g, 0, none⟩) n c ∧ W.heap.size ≤ g) (h : Below W.heap.size W W') : KpV v v' W W' := by
  obtain ⟨g, n, c, e, hg⟩ := hv
  exact ⟨h.size, fun b o h1 _ => (h.block b (Array.getElem?_eq_some_iff.1 h1).1).trans h1, g, n, c, e, .inl hg⟩
theorem heap_setCells {g b : Nat} (hb : b ≠ g) : ∀ (vs : List Value) (o : Nat) (W : World), (W.setCells g o vs).heap[b]? = W.heap[b]?
  | [], o, W => rfl
  | v :: l, o, W => (heap_setCells hb l (o + 1) _).trans (Below.heap_setCell W ⟨g, o, none⟩ v b hb)
theorem size_setCells {g : Nat} : ∀ (vs : List Value) (o : Nat) (W : World), W.heap.size ≤ (W.setCells g o vs).heap.size
  | [], o, W => Nat.le_refl _
  | v :: l, o, W => Nat.le_trans ((Below.refl 0 W).setCell (p := ⟨g, o, none⟩) (Nat.zero_le _) v).size (size_setCells l (o + 1) _)
theorem KpV.sets {g n c n' c' : Nat} (vs : List Value) (o : Nat) (W : World) : KpV (.slice (some ⟨g, 0, none⟩) n c) (.slice (some ⟨g, 0, none⟩) n' c') W (W.setCells g o vs) :=
  ⟨size_setCells vs o W, fun b ob h1 h2 => (heap_setCells (fun e => h2 n c (by rw [e])) vs o W).trans h1, g, n', c', rfl, .inr ⟨n, c, rfl⟩⟩
theorem append_rowF {P : Program} (w : World) (t ty e : TypeId) (i : TypeInfo) (z : Value) (size B n m : Nat) (flat news : List Value) (v x : Value) (ht : P.underlying t = some (.slice e)) (hi : P.info? e = some i) (hz : i.zero = some z)
    (hsize : i.size = size) (hzs : z.cells.size = size) (hv : RowZ e size B n flat v w) (hB : B ≤ w.heap.size) (hs : Src P size t x m news w) (hm : 0 < m) (h63 : n + m ≤ maxLen) (hb : (n + m) * i.bytes ≤ 140737488355328) :
    ∃ v' w', (Builtin.append_ #[t, t] ty #[v, x]).run P w = .ok v' w' ∧ Below B w w' ∧ KpV v v' w w' ∧ RowZ e size B (n + m) (flat ++ news) v' w' := by
  rcases hv with ⟨rfl, rfl, rfl⟩ | ⟨cap, hv, hcm⟩
  · subst hsize
    have hnl := hs.newsLen
    have hold : (Builtin.firstCells i.size 0 (.slice none 0 0)).run P w.drew = .ok ([] : List Value).toArray w.drew := by simp [Builtin.firstCells, loadCells, loadCellsFrom]
    have hrun := run_append_grow_src (P := P) w t t ty e i z ht hi hz none 0 0 [] hold x m news hs (by omega) (by simp only [maxLen] at h63; omega) (growslice_fits (by omega) hb)
    have hge := grownCap_ge w (0 + m) 0 e
    refine ⟨_, _, hrun, ((Below.refl B w).drew).alloc hB _, KpV.grow ⟨_, _, _, rfl, Nat.le_refl _⟩ (((Below.refl w.heap.size w).drew).alloc (Nat.le_refl _) _), .inr ⟨_, ⟨w.heap.size, _, rfl, hB, hge, Bx.mk w.drew e _, ?_, ?_⟩, grownCap_le_maxLen w (0 + m) 0 e h63⟩⟩
    · rw [Array.size_append, List.size_toArray, List.length_append, List.length_nil, hnl, size_zeroCells, hzs, Nat.zero_add, ← Nat.add_mul]
      congr 1; omega
    · rw [Array.toList_append, List.take_append_of_le_length (by simp [hnl, Nat.add_mul])]
      rw [List.take_of_length_le (by simp [hnl, Nat.add_mul])]
  · obtain ⟨g, cells, rfl, hg, hnc, hbx, hcs, hfl⟩ := hv
    subst hsize
    have hnl := hs.newsLen
    by_cases hroom : n + m ≤ cap
    · have hle : n * i.size + news.length ≤ cells.size := by rw [hnl, hcs, ← Nat.add_mul]; exact Nat.mul_le_mul_right _ hroom
      have hrun := run_append_room_src (P := P) w t t ty e i ht hi g 0 n cap x m news hs hroom (fun j hj => by
        rw [hbx.cell (0 + n * i.size + j) (v := cells[0 + n * i.size + j]'(by omega)) (by simp)]; rfl) (fun j _ => hbx.frozen _)
      obtain ⟨cs', h1, h2, h3⟩ := hbx.setCells news (0 + n * i.size) w cells (by omega)
      refine ⟨_, _, hrun, ?_, KpV.sets _ _ _, .inr ⟨cap, ⟨g, cs', rfl, hg, hroom, h1, by rw [h2, hcs], ?_⟩, hcm⟩⟩
      · clear hrun h1 h2 h3 hs
        generalize 0 + n * i.size = o
        have : ∀ (vs : List Value) (o : Nat) (w' : World), Below B w w' → Below B w (w'.setCells g o vs) := by
          intro vs
          induction vs with
          | nil => intro o w' h; exact h
          | cons a l ih => intro o w' h; exact ih _ _ (h.setCell hg _)
        exact this news o w (Below.refl _ _)
      · rw [show (n + m) * i.size = 0 + n * i.size + news.length by rw [Nat.add_mul, hnl]; omega, h3, Nat.zero_add, hfl]
    · have hfl' : flat.length = n * i.size := by
        rw [← hfl, List.length_take, Array.length_toList, hcs]
        exact Nat.min_eq_left (Nat.mul_le_mul_right _ hnc)
      have hold : (Builtin.firstCells i.size n (.slice (some ⟨g, 0, none⟩) n cap)).run P w.drew = .ok flat.toArray w.drew :=
        run_firstCells_some w.drew i.size n ⟨g, 0, none⟩ n cap flat hfl' fun j u hu => by
          have hj : cells[j]? = some u := by
            rw [← hfl, List.getElem?_take] at hu
            split at hu
            · simpa using hu
            · cases hu
          rw [Addr.add_lit, Nat.zero_add]
          exact (show Bx w.drew g e cells from hbx).cell j hj
      have hrun := run_append_grow_src (P := P) w t t ty e i z ht hi hz (some ⟨g, 0, none⟩) n cap flat hold x m news hs (by omega) (by simp only [maxLen] at h63; omega) (growslice_fits (by omega) hb)
      have hge := grownCap_ge w (n + m) cap e
      refine ⟨_, _, hrun, ((Below.refl B w).drew).alloc hB _, KpV.grow ⟨_, _, _, rfl, Nat.le_refl _⟩ (((Below.refl w.heap.size w).drew).alloc (Nat.le_refl _) _), .inr ⟨_, ⟨w.heap.size, _, rfl, hB, hge, Bx.mk w.drew e _, ?_, ?_⟩, grownCap_le_maxLen w (n + m) cap e h63⟩⟩
      · rw [Array.size_append, List.size_toArray, List.length_append, hfl', hnl, size_zeroCells, hzs, ← Nat.add_mul, ← Nat.add_mul]
        congr 1; omega
      · rw [Array.toList_append, List.take_append_of_le_length (by simp [hfl', hnl, Nat.add_mul])]
        rw [List.take_of_length_le (by simp [hfl', hnl, Nat.add_mul])]
theorem wpList_append_rowF {P : Program} {w : World} {ops : Array Oper} {rest : List Oper} {o : Oper} {a : Act} {Q : Exit → Act → World → Prop} (hgd : o.guard = none) (s y : Operand) (t e : TypeId) (ho : o.op = .call { callee := .builtin .append, args := #[s, y], argTypes := #[t, t] })
    (i : TypeInfo) (z : Value) (size B n m : Nat) (flat news : List Value) (v x : Value) (ht : P.underlying t = some (.slice e)) (hi : P.info? e = some i) (hz : i.zero = some z)
    (hsize : i.size = size) (hzs : z.cells.size = size) (hes : a.eval s = v) (hey : a.eval y = x) (hv : RowZ e size B n flat v w) (hB : B ≤ w.heap.size) (hs : Src P size t x m news w) (hm : 0 < m) (h63 : n + m ≤ maxLen) (hb : (n + m) * i.bytes ≤ 140737488355328)
    (h : ∀ v' w', Below B w w' → KpV v v' w w' → RowZ e size B (n + m) (flat ++ news) v' w' → wpList P ops Q rest (a.put o.dst v') w') : wpList P ops Q (o :: rest) a w := by
  obtain ⟨v', w', hr, h1, h2, h3⟩ := append_rowF (P := P) w t o.type e i z size B n m flat news v x ht hi hz hsize hzs hv hB hs hm h63 hb
  refine wpList_plain hgd fun _ hK => ?_
  unfold Oper.wp execOp
  simp only [ho, resolve, invoke, builtin, Sem.run_bind, Sem.run_pure, Result.andThen_ok, List.map_toArray, List.map_cons, List.map_nil, hes, hey, hr]
  exact hK _ _ (h v' w' h1 h2 h3)
end Go.Proofs.YtklelhkcbdajpaaGreatDoor
namespace Go.Proofs.YtklelhkcbdajpaaGreatDoor
set_option linter.unusedVariables false
open Go.RowKit
/-- no block is both slices' -/
def ApV (v1 v2 : Value) : Prop := ∀ g n c n' c', v1 = .slice (some ⟨g, 0, none⟩) n c → v2 ≠ .slice (some ⟨g, 0, none⟩) n' c'
theorem ApV.symm {v1 v2 : Value} (h : ApV v1 v2) : ApV v2 v1 := fun g n c n' c' h1 h2 => h g n' c' n c h2 h1
theorem ApV.nil (v : Value) : ApV (.slice none 0 0) v := fun g n c n' c' h1 _ => by cases h1
section
variable {e : TypeId} {size B n : Nat} {fl : List Value} {v1 v1' v2 : Value} {W W' : World}
theorem RowZ.kept (hk : KpV v1 v1' W W') (h : RowZ e size B n fl v2 W) (hne : ApV v1 v2) : RowZ e size B n fl v2 W' := by
  rcases h with h | ⟨cap, ⟨g, cells, e1, hg, hn, hB, hs, hf⟩, hm⟩
  · exact .inl h
  · exact .inr ⟨cap, ⟨g, cells, e1, hg, hn, hk.bx hB (fun n c hv => hne g n c _ _ hv e1), hs, hf⟩, hm⟩
theorem RowZ.apart (hk : KpV v1 v1' W W') (h : RowZ e size B n fl v2 W) (hne : ApV v1 v2) : ApV v1' v2 := fun g n c n' c' h1 h2 => by
  obtain ⟨g0, n0, c0, e0, hor⟩ := hk.at_
  rw [h1] at e0
  simp only [Value.slice.injEq, Option.some.injEq, Addr.mk.injEq, and_true] at e0
  obtain ⟨rfl, -, -⟩ := e0
  rcases hor with hor | ⟨n9, c9, h9⟩
  · rcases h with ⟨h, -, -⟩ | ⟨cap, ⟨g', cells, e1, hg, hn, hB, hs, hf⟩, hm⟩
    · rw [h] at h2; cases h2
    · rw [e1] at h2
      simp only [Value.slice.injEq, Option.some.injEq, Addr.mk.injEq, and_true] at h2
      obtain ⟨rfl, -, -⟩ := h2
      have := hB.lt
      omega
  · exact hne g n9 c9 n' c' h9 h2
end
/-- the address of a slice of one's own -/
theorem RowZ.shp {e : TypeId} {size B n : Nat} {fl : List Value} {v : Value} {w : World} (h : RowZ e size B n fl v w) : ∃ A c, v = .slice A n c := by
  rcases h with ⟨h, rfl, -⟩ | ⟨cap, ⟨g, cells, e1, _⟩, _⟩
  · exact ⟨none, 0, h⟩
  · exact ⟨_, _, e1⟩
end Go.Proofs.YtklelhkcbdajpaaGreatDoor
namespace Tb
set_option linter.unusedVariables false
theorem ins_end {t : Int} : ∀ {l : List Int}, (∀ z ∈ l, z ≤ t) → ins t l = l ++ [t]
  | [], _ => rfl
  | y :: l, h => by
    have hy := h y (by simp)
    unfold ins
    rw [if_neg (by omega), ins_end (fun z hz => h z (by simp [hz]))]; rfl
theorem ins_in {t y : Int} : ∀ {l : List Int}, (∃ z ∈ l, t < z) → ins t (l ++ [y]) = ins t l ++ [y]
  | [], ⟨z, hz, _⟩ => by cases hz
  | x :: l, ⟨z, hz, hlt⟩ => by
    show ins t (x :: (l ++ [y])) = _
    unfold ins
    by_cases h : t < x
    · rw [if_pos h, if_pos h]; rfl
    · rw [if_neg h, if_neg h, ins_in (by
        rcases List.mem_cons.1 hz with rfl | hz
        · exact absurd hlt h
        · exact ⟨z, hz, hlt⟩)]; rfl
theorem ins_put {t y : Int} : ∀ {l : List Int}, (∀ z ∈ l, z ≤ t) → t < y → ins t (l ++ [y]) = l ++ [t] ++ [y]
  | [], _, hy => by show (if t < y then _ else _) = _; rw [if_pos hy]; rfl
  | x :: l, h, hy => by
    have hx := h x (by simp)
    show ins t (x :: (l ++ [y])) = _
    unfold ins
    rw [if_neg (by omega), ins_put (fun z hz => h z (by simp [hz])) hy]; rfl
/-- the loop that puts a further time in: k have been taken -/
structure InR (l : List Int) (t : Int) (k : Nat) (done : Bool) (M : List Int) : Prop where
  no : done = false → M = l.take k ∧ ∀ z ∈ l.take k, z ≤ t
  yes : done = true → M = ins t (l.take k) ∧ ∃ z ∈ l.take k, t < z
section
variable {l : List Int} {t : Int} {k : Nat} {M : List Int} (hk : k < l.length)
theorem InR.start (l : List Int) (t : Int) : InR l t 0 false [] := ⟨fun _ => ⟨rfl, fun z hz => by cases hz⟩, fun h => by cases h⟩
theorem take_snoc {α : Type} {l : List α} {k : Nat} (hk : k < l.length) : l.take (k + 1) = l.take k ++ [l[k]] := by
  rw [List.take_add_one, List.getElem?_eq_getElem hk]; rfl
theorem InR.keep (h : InR l t k false M) (hle : l[k] ≤ t) : InR l t (k + 1) false (M ++ [l[k]]) := by
  obtain ⟨rfl, h2⟩ := h.no rfl
  refine ⟨fun _ => ⟨(take_snoc hk).symm, fun z hz => ?_⟩, fun h => by cases h⟩
  rw [take_snoc hk] at hz
  rcases List.mem_append.1 hz with hz | hz
  · exact h2 z hz
  · simp only [List.mem_singleton] at hz; subst hz; exact hle
theorem InR.put (h : InR l t k false M) (hlt : t < l[k]) : InR l t (k + 1) true (M ++ [t] ++ [l[k]]) := by
  obtain ⟨rfl, h2⟩ := h.no rfl
  refine ⟨fun h => (by cases h), fun _ => ⟨?_, l[k], ?_, hlt⟩⟩
  · rw [take_snoc hk, ins_put h2 hlt]
  · rw [take_snoc hk]; exact List.mem_append_right _ (List.mem_singleton.2 rfl)
theorem InR.more (h : InR l t k true M) : InR l t (k + 1) true (M ++ [l[k]]) := by
  obtain ⟨rfl, z, h2, h3⟩ := h.yes rfl
  refine ⟨fun h => (by cases h), fun _ => ⟨?_, z, ?_, h3⟩⟩
  · rw [take_snoc hk, ins_in ⟨z, h2, h3⟩]
  · rw [take_snoc hk]; exact List.mem_append_left _ h2
theorem InR.end_no (h : InR l t l.length false M) : M ++ [t] = ins t l := by
  obtain ⟨rfl, h2⟩ := h.no rfl
  rw [List.take_length] at h2 ⊢
  exact (ins_end h2).symm
theorem InR.end_yes (h : InR l t l.length true M) : M = ins t l := by
  obtain ⟨rfl, -⟩ := h.yes rfl
  rw [List.take_length]
theorem InR.len {done : Bool} (h : InR l t k done M) : M.length ≤ k + 1 := by
  cases done with
  | false => rw [(h.no rfl).1, List.length_take]; omega
  | true => rw [(h.yes rfl).1, ins_len, List.length_take]; omega
end
theorem map_snoc (l : List Int) (b : Int) {k : Nat} (hk : k < l.length) : (l.take (k + 1)).map (· + b) = (l.take k).map (· + b) ++ [l[k] + b] := by
  rw [take_snoc hk, List.map_append]; rfl
theorem ins_tms {l : List Int} {t : Int} (hs : So l) (hl : l.length ≤ 59) (h : ∀ y ∈ l, 0 ≤ y ∧ y ≤ 100000) (ht : 0 ≤ t ∧ t ≤ 100000) : (ins t l).length ≤ 60 ∧ So (ins t l) ∧ ∀ y ∈ ins t l, 0 ≤ y ∧ y ≤ 10000000 := by
  refine ⟨by rw [ins_len]; omega, ins_so hs, fun y hy => ?_⟩
  rcases ins_mem hy with rfl | hy
  · omega
  · have := h y hy; omega
theorem map_tms {l : List Int} {b : Int} (hs : So l) (hl : l.length ≤ 59) (h : ∀ y ∈ l, 0 ≤ y ∧ y ≤ 100000) (hb : 0 ≤ b ∧ b ≤ 1000) : (l.map (· + b)).length ≤ 60 ∧ So (l.map (· + b)) ∧ ∀ y ∈ l.map (· + b), 0 ≤ y ∧ y ≤ 10000000 := by
  refine ⟨by rw [List.length_map]; omega, hs.shift b, fun y hy => ?_⟩
  obtain ⟨z, hz, rfl⟩ := List.mem_map.1 hy
  have := h z hz
  show 0 ≤ z + b ∧ z + b ≤ 10000000; omega
theorem madeT_len (x : List Int) : (madeT x).length = min x.length 60 := by unfold madeT; rw [tks_len]
end Tb

/- Slices of the call's own: append, known whole. -/
import Derived.Test.YtdjnkaeggnkgeaaGreatDoorRg
import Derived.Deep.AppendSrc
import Derived.Laws.AppendOwn
namespace Go.Proofs.YtdjnkaeggnkgeaaGreatDoor
set_option linter.unusedVariables false
set_option linter.unusedSimpArgs false
open Go.RowKit
/-- a slice at the beginning of a block of one's own: n elements of 'size' cells, these cells; 'cap' elements of room -/
def RowC (e : TypeId) (size B cap n : Nat) (flat : List Value) : Value → World → Prop := fun v w =>
  ∃ g cells, v = .slice (some ⟨g, 0, none⟩) n cap ∧ B ≤ g ∧ n ≤ cap ∧ Bx w g e cells ∧ cells.size = cap * size ∧ cells.toList.take (n * size) = flat
theorem stab_rowC (e : TypeId) (size B cap n : Nat) (flat : List Value) : Stab (RowC e size B cap n flat) := fun v w w' ⟨g, cells, h1, h2, h3, h4, h5, h6⟩ h => ⟨g, cells, h1, h2, h3, h4.call h, h5, h6⟩
/-- the same, the room not named -/
def RowN (e : TypeId) (size B n : Nat) (flat : List Value) : Value → World → Prop := fun v w => ∃ cap, RowC e size B cap n flat v w ∧ cap ≤ maxLen
theorem stab_rowN (e : TypeId) (size B n : Nat) (flat : List Value) : Stab (RowN e size B n flat) := fun v w w' ⟨cap, h, hm⟩ hb => ⟨cap, stab_rowC e size B cap n flat v w w' h hb, hm⟩
theorem Bx.setCells {g : Nat} {t : TypeId} : ∀ (vs : List Value) (k : Nat) (w : World) (cs : Array Value), Bx w g t cs → k + vs.length ≤ cs.size →
    ∃ cs', Bx (w.setCells g k vs) g t cs' ∧ cs'.size = cs.size ∧ cs'.toList.take (k + vs.length) = cs.toList.take k ++ vs
  | [], k, w, cs, h, _ => ⟨cs, h, rfl, by simp⟩
  | v :: r, k, w, cs, h, hk => by
    simp only [List.length_cons] at hk
    obtain ⟨cs', h1, h2, h3⟩ := Bx.setCells r (k + 1) _ _ (h.set k v) (by simp; omega)
    refine ⟨cs', h1, by simpa using h2, ?_⟩
    rw [List.length_cons, show k + (r.length + 1) = k + 1 + r.length by omega, h3]
    have : (cs.setIfInBounds k v).toList.take (k + 1) = cs.toList.take k ++ [v] := by
      rw [Array.toList_setIfInBounds, List.take_add_one, List.take_set_of_le (Nat.le_refl _)]
      simp [show k < cs.size by omega]
    rw [this]; simp
theorem append_row {P : Program} (w : World) (t ty e : TypeId) (i : TypeInfo) (z : Value) (size B cap n m : Nat) (flat news : List Value) (v x : Value) (ht : P.underlying t = some (.slice e)) (hi : P.info? e = some i) (hz : i.zero = some z)
    (hsize : i.size = size) (hzs : z.cells.size = size) (hv : RowC e size B cap n flat v w) (hB : B ≤ w.heap.size) (hs : Src P size t x m news w) (hcm : cap ≤ maxLen) (h63 : n + m ≤ maxLen) (hb : (n + m) * i.bytes ≤ 140737488355328) :
    ∃ v' w' cap', (Builtin.append_ #[t, t] ty #[v, x]).run P w = .ok v' w' ∧ Below B w w' ∧ (n = cap → Below w.heap.size w w') ∧ RowC e size B cap' (n + m) (flat ++ news) v' w' ∧ cap' ≤ maxLen := by
  obtain ⟨g, cells, rfl, hg, hnc, hbx, hcs, hfl⟩ := hv
  subst hsize
  have hnl := hs.newsLen
  by_cases hroom : n + m ≤ cap
  · have hle : n * i.size + news.length ≤ cells.size := by rw [hnl, hcs, ← Nat.add_mul]; exact Nat.mul_le_mul_right _ hroom
    have hrun := run_append_room_src (P := P) w t t ty e i ht hi g 0 n cap x m news hs hroom (fun j hj => by
      rw [hbx.cell (0 + n * i.size + j) (v := cells[0 + n * i.size + j]'(by omega)) (by simp)]; rfl) (fun j _ => hbx.frozen _)
    obtain ⟨cs', h1, h2, h3⟩ := hbx.setCells news (0 + n * i.size) w cells (by omega)
    refine ⟨_, _, cap, hrun, ?_, fun h => ?_, ⟨g, cs', rfl, hg, hroom, h1, by rw [h2, hcs], ?_⟩, hcm⟩
    · clear hrun h1 h2 h3 hs
      generalize 0 + n * i.size = o
      have : ∀ (vs : List Value) (o : Nat) (w' : World), Below B w w' → Below B w (w'.setCells g o vs) := by
        intro vs
        induction vs with
        | nil => intro o w' h; exact h
        | cons a l ih => intro o w' h; exact ih _ _ (h.setCell hg _)
      exact this news o w (Below.refl _ _)
    · obtain rfl : m = 0 := by omega
      obtain rfl : news = [] := List.eq_nil_of_length_eq_zero (by simpa using hnl)
      exact Below.refl _ _
    · rw [show (n + m) * i.size = 0 + n * i.size + news.length by rw [Nat.add_mul, hnl]; omega, h3, Nat.zero_add, hfl]
  · have hfl' : flat.length = n * i.size := by
      rw [← hfl, List.length_take, Array.length_toList, hcs]
      exact Nat.min_eq_left (Nat.mul_le_mul_right _ hnc)
    have hold : (Builtin.firstCells i.size n (.slice (some ⟨g, 0, none⟩) n cap)).run P w.drew = .ok flat.toArray w.drew :=
      run_firstCells_some w.drew i.size n ⟨g, 0, none⟩ n cap flat hfl' fun j u hu => by
        have hj : cells[j]? = some u := by
          rw [← hfl, List.getElem?_take] at hu
          split at hu
          · simpa using hu
          · cases hu
        rw [Addr.add_lit, Nat.zero_add]
        exact (show Bx w.drew g e cells from hbx).cell j hj
    have hrun := run_append_grow_src (P := P) w t t ty e i z ht hi hz (some ⟨g, 0, none⟩) n cap flat hold x m news hs (by omega) (by simp only [maxLen] at h63; omega) (growslice_fits (by omega) hb)
    have hge := grownCap_ge w (n + m) cap e
    refine ⟨_, _, _, hrun, ?_, fun _ => ?_, ⟨w.heap.size, _, rfl, hB, hge, Bx.mk w.drew e _, ?_, ?_⟩, grownCap_le_maxLen w (n + m) cap e h63⟩
    · exact ((Below.refl B w).drew).alloc hB _
    · exact ((Below.refl w.heap.size w).drew).alloc (Nat.le_refl _) _
    · rw [Array.size_append, List.size_toArray, List.length_append, hfl', hnl, size_zeroCells, hzs, ← Nat.add_mul, ← Nat.add_mul]
      congr 1; omega
    · rw [Array.toList_append, List.take_append_of_le_length (by simp [hfl', hnl, Nat.add_mul])]
      rw [List.take_of_length_le (by simp [hfl', hnl, Nat.add_mul])]
/-- at the list of a region's operations -/
theorem wpList_append_row {P : Program} {w : World} {ops : Array Oper} {rest : List Oper} {o : Oper} {a : Act} {Q : Exit → Act → World → Prop} (hgd : o.guard = none) (s y : Operand) (t e : TypeId) (ho : o.op = .call { callee := .builtin .append, args := #[s, y], argTypes := #[t, t] })
    (i : TypeInfo) (z : Value) (size B cap n m : Nat) (flat news : List Value) (v x : Value) (ht : P.underlying t = some (.slice e)) (hi : P.info? e = some i) (hz : i.zero = some z)
    (hsize : i.size = size) (hzs : z.cells.size = size) (hes : a.eval s = v) (hey : a.eval y = x) (hv : RowC e size B cap n flat v w) (hB : B ≤ w.heap.size) (hs : Src P size t x m news w) (hcm : cap ≤ maxLen) (h63 : n + m ≤ maxLen) (hb : (n + m) * i.bytes ≤ 140737488355328)
    (h : ∀ v' w' cap', Below B w w' → (n = cap → Below w.heap.size w w') → RowC e size B cap' (n + m) (flat ++ news) v' w' → cap' ≤ maxLen → wpList P ops Q rest (a.put o.dst v') w') : wpList P ops Q (o :: rest) a w := by
  obtain ⟨v', w', cap', hr, h1, h2, h3, h4⟩ := append_row (P := P) w t o.type e i z size B cap n m flat news v x ht hi hz hsize hzs hv hB hs hcm h63 hb
  refine wpList_plain hgd fun _ hK => ?_
  unfold Oper.wp execOp
  simp only [ho, resolve, invoke, builtin, Sem.run_bind, Sem.run_pure, Result.andThen_ok, List.map_toArray, List.map_cons, List.map_nil, hes, hey, hr]
  exact hK _ _ (h v' w' cap' h1 h2 h3 h4)
section
variable {α : Type} {size : Nat} {f : α → List Value}
theorem flat_len (hf : ∀ c, (f c).length = size) : ∀ (p : List α), (p.flatMap f).length = p.length * size
  | [] => by simp
  | c :: p => by rw [List.flatMap_cons, List.length_append, hf, flat_len hf p, List.length_cons, Nat.succ_mul]; omega
theorem flat_get (hf : ∀ c, (f c).length = size) : ∀ (p : List α) (i j : Nat) (c : α), p[i]? = some c → j < size → (p.flatMap f)[i * size + j]? = (f c)[j]?
  | [], _, _, _, h, _ => by simp at h
  | x :: p, 0, j, c, h, hj => by
    obtain rfl : x = c := by simpa using h
    rw [List.flatMap_cons, Nat.zero_mul, Nat.zero_add, List.getElem?_append_left (by rw [hf]; exact hj)]
  | x :: p, i + 1, j, c, h, hj => by
    rw [List.flatMap_cons, List.getElem?_append_right (by rw [hf, Nat.succ_mul]; omega), hf, show (i + 1) * size + j - size = i * size + j by rw [Nat.succ_mul]; omega]
    exact flat_get hf p i j c (by simpa using h) hj
theorem flat_inv (hf : ∀ c, (f c).length = size) : ∀ (p : List α) (k : Nat) (u : Value), (p.flatMap f)[k]? = some u → ∃ i c j, p[i]? = some c ∧ (f c)[j]? = some u ∧ k = i * size + j
  | [], _, _, h => by simp at h
  | x :: p, k, u, h => by
    rw [List.flatMap_cons] at h
    by_cases hk : k < size
    · rw [List.getElem?_append_left (by rw [hf]; exact hk)] at h
      exact ⟨0, x, k, rfl, h, by simp⟩
    · rw [List.getElem?_append_right (by rw [hf]; omega), hf] at h
      obtain ⟨i, c, j, h1, h2, h3⟩ := flat_inv hf p _ u h
      exact ⟨i + 1, c, j, by simpa using h1, h2, by rw [Nat.succ_mul]; omega⟩
/-- what a slice that is read yields to an append -/
theorem At.src {P : Program} {w : World} {B : Nat} {A : Option Addr} {p : List α} {t e : TypeId} (hf : ∀ c, (f c).length = size) (h1 : ∀ c, ∀ u ∈ f c, u.oneCell' = true) (ht : P.underlying t = some (.slice e)) (h : At size f w B A p) (cap : Nat) : Src P size t (.slice A p.length cap) p.length (p.flatMap f) w := by
  cases p with
  | nil =>
    cases A with
    | none => exact Src.ofNil w ht cap
    | some a => exact Src.ofSlice w ht a 0 cap [] (by simp) (fun j u hu => by simp at hu) (fun u hu => by cases hu)
  | cons c p =>
    obtain ⟨b, off, rfl, hb, hc⟩ := h (by simp)
    refine Src.ofSlice w ht ⟨b, off, none⟩ _ cap _ (flat_len hf _) (fun k u hu => ?_) fun u hu => ?_
    · obtain ⟨i, d, j, h2, h3, rfl⟩ := flat_inv hf _ k u hu
      rw [Addr.add_lit, ← Nat.add_assoc]
      exact hc i d h2 j u h3
    · obtain ⟨d, _, h3⟩ := List.mem_flatMap.1 hu
      exact h1 d u h3
theorem RowC.src {P : Program} {w : World} {e t : TypeId} {B cap n : Nat} {flat : List Value} {v : Value} (h1 : ∀ u ∈ flat, u.oneCell' = true) (ht : P.underlying t = some (.slice e)) (h : RowC e size B cap n flat v w) : Src P size t v n flat w := by
  obtain ⟨g, cells, rfl, hg, hnc, hbx, hcs, hfl⟩ := h
  refine Src.ofSlice w ht ⟨g, 0, none⟩ n cap flat ?_ (fun j u hu => ?_) h1
  · rw [← hfl, List.length_take, Array.length_toList, hcs]
    exact Nat.min_eq_left (Nat.mul_le_mul_right _ hnc)
  · have hj : cells[j]? = some u := by
      rw [← hfl, List.getElem?_take] at hu
      split at hu
      · simpa using hu
      · cases hu
    rw [Addr.add_lit, Nat.zero_add]
    exact hbx.cell j hj
/-- an own slice, read -/
theorem RowC.at {w : World} {e : TypeId} {B cap : Nat} {p : List α} {v : Value} (hf : ∀ c, (f c).length = size) (h : RowC e size B cap p.length (p.flatMap f) v w) :
    ∃ A, v = .slice A p.length cap ∧ At size f w w.heap.size A p ∧ p.length ≤ cap := by
  obtain ⟨g, cells, rfl, hg, hnc, hbx, hcs, hfl⟩ := h
  refine ⟨_, rfl, fun _ => ⟨g, 0, rfl, hbx.lt, fun i c hi j u hj => ?_⟩, hnc⟩
  have hjs : j < size := by have := (List.getElem?_eq_some_iff.1 hj).1; rwa [hf] at this
  have h2 := flat_get hf p i j c hi hjs
  rw [hj, ← hfl, List.getElem?_take] at h2
  split at h2
  · rw [Nat.zero_add]; exact hbx.cell _ (by simpa using h2)
  · cases h2
end
end Go.Proofs.YtdjnkaeggnkgeaaGreatDoor

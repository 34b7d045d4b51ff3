/- Two slices of the call's own to which a drawn region appends one element each (elements of one cell), with a block that stays apart. Package forward: what a range over the settings that follow each other keeps (Resolve). Package forward: Resolve. slices.Grow of nil, slices.Concat of two lists of ints. A region of a round that draws its order and only reads. -/
import Derived.Test.YtlldlkjngcgcjaaGreatDoorQ03
import Derived.Test.YtlldlkjngcgcjaaGreatDoorQ02
import Derived.Shelf.Abstract
import Derived.Lib.AppendZerosOnto
import Derived.Lib.QuietBelow
import Derived.BigQuiet
namespace Go.Proofs.YtlldlkjngcgcjaaGreatDoor
set_option linter.unusedVariables false
set_option linter.unusedSimpArgs false
open Go.RowKit
/-- the slice begins at block b -/
def Blk (v : Value) (b : Nat) : Prop := ∃ n c, v = .slice (some ⟨b, 0, none⟩) n c
theorem Blk.one {v : Value} {b b' : Nat} (h : Blk v b) (h' : Blk v b') : b = b' := by
  obtain ⟨n, c, rfl⟩ := h
  obtain ⟨n', c', h2⟩ := h'
  simp only [Value.slice.injEq, Option.some.injEq, Addr.mk.injEq, and_true] at h2
  exact h2.1
theorem Blk.mk (g n c : Nat) : Blk (.slice (some ⟨g, 0, none⟩) n c) g := ⟨n, c, rfl⟩
theorem append_one {P : Program} (w : World) (t ty e : TypeId) (i : TypeInfo) (z : Value) (B n : Nat) (flat : List Value) (a v x : Value) (ht : P.underlying t = some (.slice e)) (hi : P.info? e = some i) (hz : i.zero = some z)
    (hsize : i.size = 1) (hzs : z.cells.size = 1) (hv : RowZ e 1 B n flat v w) (hB : B ≤ w.heap.size) (hs : Src P 1 t x 1 [a] w) (h63 : n + 1 ≤ maxLen) (hb : (n + 1) * i.bytes ≤ 140737488355328) :
    ∃ v' w', (Builtin.append_ #[t, t] ty #[v, x]).run P w = .ok v' w' ∧
      ((∃ g cap cells, v = .slice (some ⟨g, 0, none⟩) n cap ∧ v' = .slice (some ⟨g, 0, none⟩) (n + 1) cap ∧ B ≤ g ∧ n + 1 ≤ cap ∧ cap ≤ maxLen ∧ Bx w g e cells ∧ cells.size = cap ∧ cells.toList.take n = flat ∧ w' = w.setCell ⟨g, n, none⟩ a) ∨
       (Below w.heap.size w w' ∧ ∃ cap, RowC e 1 w.heap.size cap (n + 1) (flat ++ [a]) v' w' ∧ cap ≤ maxLen)) := by
  have hs' : Src P i.size t x 1 [a] w := by rw [hsize]; exact hs
  rcases hv with ⟨rfl, rfl, rfl⟩ | ⟨cap, ⟨g, cells, rfl, hg, hnc, hbx, hcs, hfl⟩, hcm⟩
  · have hold : (Builtin.firstCells i.size 0 (.slice none 0 0)).run P w.drew = .ok ([] : List Value).toArray w.drew := by simp [Builtin.firstCells, loadCells, loadCellsFrom]
    have hrun := run_append_grow_src (P := P) w t t ty e i z ht hi hz none 0 0 [] hold x 1 [a] hs' (by omega) (by simp only [maxLen] at h63; omega) (growslice_fits (by omega) hb)
    have hge := grownCap_ge w (0 + 1) 0 e
    refine ⟨_, _, hrun, .inr ⟨((Below.refl w.heap.size w).drew).alloc (Nat.le_refl _) _, _, ⟨w.heap.size, _, rfl, Nat.le_refl _, hge, Bx.mk w.drew e _, ?_, ?_⟩, grownCap_le_maxLen w (0 + 1) 0 e h63⟩⟩
    · rw [Array.size_append, List.size_toArray, size_zeroCells, hzs]
      simp only [List.nil_append, List.length_cons, List.length_nil]
      omega
    · rw [Array.toList_append, List.take_append_of_le_length (by simp)]
      rw [List.take_of_length_le (by simp)]
  · rw [Nat.mul_one] at hcs hfl
    by_cases hroom : n + 1 ≤ cap
    · have hrun := run_append_room_src (P := P) w t t ty e i ht hi g 0 n cap x 1 [a] hs' hroom (fun j hj => by
        simp only [List.length_cons, List.length_nil] at hj
        obtain rfl : j = 0 := by omega
        rw [hsize, Nat.mul_one, hbx.cell (0 + n + 0) (v := cells[0 + n + 0]'(by omega)) (by simp)]; rfl) (fun j _ => hbx.frozen _)
      refine ⟨_, _, hrun, .inl ⟨g, cap, cells, rfl, rfl, hg, hroom, hcm, hbx, hcs, hfl, ?_⟩⟩
      simp [World.setCells, hsize]
    · have hfl' : flat.length = n := by
        rw [← hfl, List.length_take, Array.length_toList, hcs]
        exact Nat.min_eq_left hnc
      have hold : (Builtin.firstCells i.size n (.slice (some ⟨g, 0, none⟩) n cap)).run P w.drew = .ok flat.toArray w.drew :=
        run_firstCells_some w.drew i.size n ⟨g, 0, none⟩ n cap flat (by rw [hsize, Nat.mul_one]; exact hfl') fun j u hu => by
          have hj : cells[j]? = some u := by
            rw [← hfl, List.getElem?_take] at hu
            split at hu
            · simpa using hu
            · cases hu
          rw [Addr.add_lit, Nat.zero_add]
          exact (show Bx w.drew g e cells from hbx).cell j hj
      have hrun := run_append_grow_src (P := P) w t t ty e i z ht hi hz (some ⟨g, 0, none⟩) n cap flat hold x 1 [a] hs' (by omega) (by simp only [maxLen] at h63; omega) (growslice_fits (by omega) hb)
      have hge := grownCap_ge w (n + 1) cap e
      refine ⟨_, _, hrun, .inr ⟨((Below.refl w.heap.size w).drew).alloc (Nat.le_refl _) _, _, ⟨w.heap.size, _, rfl, Nat.le_refl _, hge, Bx.mk w.drew e _, ?_, ?_⟩, grownCap_le_maxLen w (n + 1) cap e h63⟩⟩
      · rw [Array.size_append, List.size_toArray, List.length_append, hfl', size_zeroCells, hzs, Nat.mul_one, Nat.mul_one]
        simp only [List.length_cons, List.length_nil]
        omega
      · rw [Array.toList_append, List.take_append_of_le_length (by simp [hfl'])]
        rw [List.take_of_length_le (by simp [hfl'])]
/-- what a block of one of the slices may come to hold: its first n cells stay, the next one may become a -/
def Gro (e : TypeId) (v : Value) (n : Nat) (a : Value) (w w' : World) : Prop := ∀ b cs, Blk v b → Bx w b e cs → ∃ cs', Bx w' b e cs' ∧ cs'.size = cs.size ∧ ∀ (i : Nat) (u : Value), i ≤ n → cs[i]? = some u → cs'[i]? = some u ∨ (i = n ∧ cs'[i]? = some a)
theorem Gro.rf (e : TypeId) (v : Value) (n : Nat) (a : Value) (w : World) : Gro e v n a w w := fun b cs _ h => ⟨cs, h, rfl, fun i u _ h => .inl h⟩
theorem Gro.tr {e : TypeId} {v : Value} {n : Nat} {a : Value} {w w1 w2 : World} (h : Gro e v n a w w1) (k : Gro e v n a w1 w2) : Gro e v n a w w2 := fun b cs hb hB => by
  obtain ⟨c1, a1, a2, a3⟩ := h b cs hb hB
  obtain ⟨c2, b1, b2, b3⟩ := k b c1 hb a1
  refine ⟨c2, b1, b2.trans a2, fun i u hi hu => ?_⟩
  rcases a3 i u hi hu with h3 | ⟨h3, h4⟩
  · exact b3 i u hi h3
  · rcases b3 i a hi h4 with h5 | h5
    · exact .inr ⟨h3, h5⟩
    · exact .inr h5
structure K2 (B : Nat) (e : TypeId) (vp vu : Value) (np nu : Nat) (a b : Value) (w w' : World) : Prop where
  bl : Below B w w'
  size : w.heap.size ≤ w'.heap.size
  oth : ∀ (k : Nat) (o : Obj), w.heap[k]? = some o → ¬ Blk vp k → ¬ Blk vu k → w'.heap[k]? = some o
  pth : Gro e vp np a w w'
  usd : Gro e vu nu b w w'
section
variable {B : Nat} {e : TypeId} {vp vu : Value} {np nu : Nat} {a b : Value} {W w w' : World}
theorem cls_K2 (B : Nat) (e : TypeId) (vp vu : Value) (np nu : Nat) (a b : Value) : RS.Cls (K2 B e vp vu np nu a b) :=
  ⟨fun w => ⟨Below.refl _ _, Nat.le_refl _, fun k o h _ _ => h, Gro.rf _ _ _ _ _, Gro.rf _ _ _ _ _⟩,
   fun h1 h2 => ⟨h1.bl.trans h2.bl, Nat.le_trans h1.size h2.size, fun k o h hp hu => h2.oth k o (h1.oth k o h hp hu) hp hu, h1.pth.tr h2.pth, h1.usd.tr h2.usd⟩,
   fun w n => ⟨⟨rfl, rfl, rfl, Nat.le_refl _, fun _ _ => rfl⟩, Nat.le_refl _, fun k o h _ _ => h, Gro.rf _ _ _ _ _, Gro.rf _ _ _ _ _⟩⟩
theorem Gro.of {v : Value} {n : Nat} {c : Value} (h : Below w.heap.size w w') : Gro e v n c w w' := fun k cs _ hB => ⟨cs, hB.call h, rfl, fun i u _ h => .inl h⟩
theorem K2.of (hB : B ≤ w.heap.size) (h : Below w.heap.size w w') : K2 B e vp vu np nu a b w w' := ⟨h.mono hB, h.size, fun k o ho _ _ => (h.block k (Array.getElem?_eq_some_iff.1 ho).1).trans ho, Gro.of h, Gro.of h⟩
theorem Gro.put {v : Value} {n : Nat} {c : Value} {g : Nat} {cells : Array Value} (hg : Blk v g) (hB : Bx w g e cells) (hn : n < cells.size) : Gro e v n c w (w.setCell ⟨g, n, none⟩ c) := fun k cs hk hcs => by
  obtain rfl := hg.one hk
  have hcc : cs = cells := by
    have := (show w.heap[g]? = _ from hcs).symm.trans hB
    simpa using this
  subst hcc
  refine ⟨_, hcs.set n c, by simp, fun i u hi hu => ?_⟩
  by_cases e1 : i = n
  · subst e1
    exact .inr ⟨rfl, by simp [hn]⟩
  · exact .inl (by rw [Array.getElem?_setIfInBounds_ne (Ne.symm e1)]; exact hu)
theorem Gro.far {v : Value} {n : Nat} {c : Value} {p : Addr} {u0 : Value} (hg : ¬ Blk v p.block) : Gro e v n c w (w.setCell p u0) := fun k cs hk hcs => ⟨cs, hcs.far (by rintro rfl; exact hg hk) _, rfl, fun i u _ h => .inl h⟩
theorem K2.path {g : Nat} {cells : Array Value} (hBg : B ≤ g) (hg : Blk vp g) (hu : ¬ Blk vu g) (hB : Bx w g e cells) (hn : np < cells.size) : K2 B e vp vu np nu a b w (w.setCell ⟨g, np, none⟩ a) :=
  ⟨(Below.refl B w).setCell hBg _, by rw [World.size_setCell]; exact Nat.le_refl _, fun k o ho hp _ => (Below.heap_setCell w ⟨g, np, none⟩ a k (by rintro rfl; exact hp hg)).trans ho, Gro.put hg hB hn, Gro.far hu⟩
theorem K2.used {g : Nat} {cells : Array Value} (hBg : B ≤ g) (hg : Blk vu g) (hu : ¬ Blk vp g) (hB : Bx w g e cells) (hn : nu < cells.size) : K2 B e vp vu np nu a b w (w.setCell ⟨g, nu, none⟩ b) :=
  ⟨(Below.refl B w).setCell hBg _, by rw [World.size_setCell]; exact Nat.le_refl _, fun k o ho _ hp => (Below.heap_setCell w ⟨g, nu, none⟩ b k (by rintro rfl; exact hp hg)).trans ho, Gro.far hu, Gro.put hg hB hn⟩
theorem take_grow {cs cs' : Array Value} {n : Nat} {c : Value} {fl : List Value} (hs : cs'.size = cs.size) (hn : n ≤ cs.size) (hf : cs.toList.take n = fl) (h : ∀ (i : Nat) (u : Value), i ≤ n → cs[i]? = some u → cs'[i]? = some u ∨ (i = n ∧ cs'[i]? = some c)) : cs'.toList.take n = fl := by
  rw [← hf]
  apply List.ext_getElem?
  intro i
  rw [List.getElem?_take, List.getElem?_take]
  by_cases hi : i < n
  · rw [if_pos hi, if_pos hi]
    have hci : cs[i]? = some (cs[i]'(by omega)) := Array.getElem?_eq_getElem (by omega)
    rcases h i _ (by omega) hci with h1 | ⟨h1, -⟩
    · simp only [Array.getElem?_toList]; rw [h1, hci]
    · omega
  · rw [if_neg hi, if_neg hi]
theorem take_grow1 {cs cs' : Array Value} {n : Nat} {c : Value} {fl : List Value} (hs : cs'.size = cs.size) (hn : n + 1 ≤ cs.size) (hf : cs.toList.take (n + 1) = fl ++ [c]) (hl : fl.length = n) (h : ∀ (i : Nat) (u : Value), i ≤ n → cs[i]? = some u → cs'[i]? = some u ∨ (i = n ∧ cs'[i]? = some c)) : cs'.toList.take (n + 1) = fl ++ [c] := by
  rw [← hf]
  apply List.ext_getElem?
  intro i
  rw [List.getElem?_take, List.getElem?_take]
  by_cases hi : i < n + 1
  · rw [if_pos hi, if_pos hi]
    have hci : cs[i]? = some (cs[i]'(by omega)) := Array.getElem?_eq_getElem (by omega)
    rcases h i _ (by omega) hci with h1 | ⟨h1, h2⟩
    · simp only [Array.getElem?_toList]; rw [h1, hci]
    · subst h1
      have : (fl ++ [c])[i]? = some c := by rw [List.getElem?_append_right (by omega), hl]; simp
      rw [← hf, List.getElem?_take, if_pos (by omega)] at this
      simp only [Array.getElem?_toList] at this ⊢
      rw [h2, this]
  · rw [if_neg hi, if_neg hi]
/-- a slice of the call's own, not begun at the block x -/
def RowX (e : TypeId) (B n x : Nat) (fl : List Value) (v : Value) (w : World) : Prop := RowZ e 1 B n fl v w ∧ ¬ Blk v x ∧ fl.length = n
/-- what the path has become, and what has been used: each not at the other's old block -/
def RP (e : TypeId) (B n x : Nat) (fl : List Value) (vu : Value) : RS.Rl := fun _ v w => ∃ g cells cap, v = .slice (some ⟨g, 0, none⟩) n cap ∧ B ≤ g ∧ n ≤ cap ∧ cap ≤ maxLen ∧ Bx w g e cells ∧ cells.size = cap ∧ cells.toList.take n = fl ∧ ¬ Blk vu g ∧ g ≠ x
def RU (e : TypeId) (B n x : Nat) (fl : List Value) (vp : Value) : RS.Rl := fun q v w => RP e B n x fl vp q v w ∧ ∀ g, Blk v g → ¬ Blk q g
theorem stab_RP {x : Nat} {fl : List Value} (hl : fl.length = np) : RS.Stab (K2 B e vp vu np nu a b) (RP e B (np + 1) x (fl ++ [a]) vu) := fun q v w w' ⟨g, cells, cap, h1, h2, h3, h4, h5, h6, h7, h8, h9⟩ hK => by
  by_cases hp : Blk vp g
  · obtain ⟨cs', a1, a2, a3⟩ := hK.pth g cells hp h5
    exact ⟨g, cs', cap, h1, h2, h3, h4, a1, by rw [a2, h6], take_grow1 a2 (by omega) h7 hl a3, h8, h9⟩
  · exact ⟨g, cells, cap, h1, h2, h3, h4, hK.oth g _ h5 hp h8, h6, h7, h8, h9⟩
theorem stab_RU {x : Nat} {fl : List Value} (hl : fl.length = nu) : RS.Stab (K2 B e vp vu np nu a b) (RU e B (nu + 1) x (fl ++ [b]) vp) := fun q v w w' ⟨⟨g, cells, cap, h1, h2, h3, h4, h5, h6, h7, h8, h9⟩, h10⟩ hK => by
  refine ⟨?_, h10⟩
  by_cases hp : Blk vu g
  · obtain ⟨cs', a1, a2, a3⟩ := hK.usd g cells hp h5
    exact ⟨g, cs', cap, h1, h2, h3, h4, a1, by rw [a2, h6], take_grow1 a2 (by omega) h7 hl a3, h8, h9⟩
  · exact ⟨g, cells, cap, h1, h2, h3, h4, hK.oth g _ h5 h8 hp, h6, h7, h8, h9⟩
/-- the slice of one element that is appended -/
def SlO (B : Nat) (e : TypeId) (y vp vu : Value) : RS.Rl := fun _ v w => ∃ g, v = .slice (some ⟨g, 0, none⟩) 1 1 ∧ B ≤ g ∧ Bx w g e #[y] ∧ ¬ Blk vp g ∧ ¬ Blk vu g
theorem stab_SlO {y : Value} : RS.Stab (K2 B e vp vu np nu a b) (SlO B e y vp vu) := fun q v w w' ⟨g, h1, h2, h3, h4, h5⟩ hK => ⟨g, h1, h2, hK.oth g _ h3 h4 h5, h4, h5⟩
/-- a slice that is there lies below the heap's end -/
theorem RowZ.blk {n : Nat} {fl : List Value} {v : Value} (h : RowZ e 1 B n fl v w) {g : Nat} (hg : Blk v g) : g < w.heap.size := by
  rcases h with ⟨rfl, -, -⟩ | ⟨cap, ⟨g', cells, rfl, -, -, hB, -⟩, -⟩
  · obtain ⟨n, c, h⟩ := hg; cases h
  · rw [← hg.one (Blk.mk g' _ _)] at hB; exact hB.lt
/-- behind part of the region the old slices still read as they did -/
theorem K2.rowP {fl : List Value} (hK : K2 B e vp vu np nu a b W w) (h : RowZ e 1 B np fl vp W) : RowZ e 1 B np fl vp w := by
  rcases h with h | ⟨cap, ⟨g, cells, h1, h2, h3, h4, h5, h6⟩, h7⟩
  · exact .inl h
  · obtain ⟨cs', a1, a2, a3⟩ := hK.pth g cells ⟨_, _, h1⟩ h4
    rw [Nat.mul_one] at h5 h6
    exact .inr ⟨cap, ⟨g, cs', h1, h2, h3, a1, by rw [a2, h5, Nat.mul_one], by rw [Nat.mul_one]; exact take_grow a2 (by omega) h6 a3⟩, h7⟩
theorem K2.rowU {fl : List Value} (hK : K2 B e vp vu np nu a b W w) (h : RowZ e 1 B nu fl vu W) : RowZ e 1 B nu fl vu w := by
  rcases h with h | ⟨cap, ⟨g, cells, h1, h2, h3, h4, h5, h6⟩, h7⟩
  · exact .inl h
  · obtain ⟨cs', a1, a2, a3⟩ := hK.usd g cells ⟨_, _, h1⟩ h4
    rw [Nat.mul_one] at h5 h6
    exact .inr ⟨cap, ⟨g, cs', h1, h2, h3, a1, by rw [a2, h5, Nat.mul_one], by rw [Nat.mul_one]; exact take_grow a2 (by omega) h6 a3⟩, h7⟩
theorem SlO.src {P : Program} {t : TypeId} {y v q : Value} (h1 : y.oneCell' = true) (ht : P.underlying t = some (.slice e)) (h : SlO B e y vp vu q v w) : Src P 1 t v 1 [y] w := by
  obtain ⟨g, e1, hg, hB, -, -⟩ := h
  exact RowC.src (P := P) (B := B) (cap := 1) (e := e) (size := 1) (t := t) (flat := [y]) (fun u hu => by rw [List.mem_singleton.1 hu]; exact h1) ht ⟨g, _, e1, hg, Nat.le_refl _, hB, rfl, rfl⟩
theorem K2.slice {y q : Value} (hK : K2 B e vp vu np nu a b W w) (hBW : B ≤ W.heap.size) (hp : ∀ g, Blk vp g → g < W.heap.size) (hu : ∀ g, Blk vu g → g < W.heap.size) : K2 B e vp vu np nu a b w (w.alloc (.cells #[y] e)) ∧ SlO B e y vp vu q (.slice (some ⟨w.heap.size, 0, none⟩) 1 1) (w.alloc (.cells #[y] e)) :=
  ⟨K2.of (Nat.le_trans hBW hK.size) ((Below.refl w.heap.size w).alloc (Nat.le_refl _) _), _, rfl, Nat.le_trans hBW hK.size, Bx.mk w e #[y], fun h => by have := hp _ h; have := hK.size; omega, fun h => by have := hu _ h; have := hK.size; omega⟩
/-- the path's append -/
theorem K2.appP {P : Program} {t ty : TypeId} {i : TypeInfo} {z x0 q : Value} {x : Nat} {fl : List Value} (ht : P.underlying t = some (.slice e)) (hi : P.info? e = some i) (hz : i.zero = some z) (hsize : i.size = 1) (hzs : z.cells.size = 1) (hby : i.bytes = 8)
    (hK : K2 B e vp vu np nu a b W w) (hBW : B ≤ W.heap.size) (h : RowX e B np x fl vp W) (hap : ∀ g, Blk vp g → ¬ Blk vu g) (hu : ∀ g, Blk vu g → g < W.heap.size) (hx : x < W.heap.size) (hs : Src P 1 t x0 1 [a] w) (hn : np ≤ 1000) :
    ∃ v' w', (Builtin.append_ #[t, t] ty #[vp, x0]).run P w = .ok v' w' ∧ K2 B e vp vu np nu a b w w' ∧ RP e B (np + 1) x (fl ++ [a]) vu q v' w' := by
  have hsz := hK.size
  obtain ⟨v', w', hr, h1⟩ := append_one (P := P) w t ty e i z B np fl a vp x0 ht hi hz hsize hzs (hK.rowP h.1) (by omega) hs (by unfold maxLen; omega) (by rw [hby]; omega)
  refine ⟨v', w', hr, ?_⟩
  rcases h1 with ⟨g, cap, cells, e1, e2, e3, e4, e5, e6, e7, e8, e9⟩ | ⟨hb, cap, ⟨g, cells, e1, e2, e3, e4, e5, e6⟩, hm⟩
  · have hgp : Blk vp g := ⟨_, _, e1⟩
    subst e9
    refine ⟨K2.path e3 hgp (hap g hgp) e6 (by omega), g, _, cap, e2, e3, e4, e5, e6.set np a, by simp [e7], ?_, hap g hgp, fun hh => h.2.1 (hh ▸ hgp)⟩
    have hlen := h.2.2
    rw [Array.toList_setIfInBounds, List.take_add_one, List.take_set_of_le (Nat.le_refl _), e8]
    have h9 : np < cells.toList.length := by simp; omega
    simp [show np < cells.size by omega]
  · rw [Nat.mul_one] at e5 e6
    exact ⟨K2.of (by omega) hb, g, cells, cap, e1, by omega, e3, hm, e4, e5, e6, fun hh => by have := hu g hh; omega, by omega⟩
/-- the append to what has been used -/
theorem K2.appU {P : Program} {t ty : TypeId} {i : TypeInfo} {z x0 v4 : Value} {x : Nat} {fl fp : List Value} (ht : P.underlying t = some (.slice e)) (hi : P.info? e = some i) (hz : i.zero = some z) (hsize : i.size = 1) (hzs : z.cells.size = 1) (hby : i.bytes = 8)
    (hK : K2 B e vp vu np nu a b W w) (hBW : B ≤ W.heap.size) (h : RowX e B nu x fl vu W) (hap : ∀ g, Blk vp g → ¬ Blk vu g) (hp : ∀ g, Blk vp g → g < W.heap.size) (hx : x < W.heap.size) (h4 : RP e B (np + 1) x fp vu undef v4 w) (hs : Src P 1 t x0 1 [b] w) (hn : nu ≤ 1000) :
    ∃ v' w', (Builtin.append_ #[t, t] ty #[vu, x0]).run P w = .ok v' w' ∧ K2 B e vp vu np nu a b w w' ∧ RU e B (nu + 1) x (fl ++ [b]) vp v4 v' w' := by
  have hsz := hK.size
  obtain ⟨v', w', hr, h1⟩ := append_one (P := P) w t ty e i z B nu fl b vu x0 ht hi hz hsize hzs (hK.rowU h.1) (by omega) hs (by unfold maxLen; omega) (by rw [hby]; omega)
  refine ⟨v', w', hr, ?_⟩
  obtain ⟨g4, cells4, cap4, f1, f2, f3, f4, f5, f6, f7, f8, f9⟩ := h4
  rcases h1 with ⟨g, cap, cells, e1, e2, e3, e4, e5, e6, e7, e8, e9⟩ | ⟨hb, cap, ⟨g, cells, e1, e2, e3, e4, e5, e6⟩, hm⟩
  · have hgu : Blk vu g := ⟨_, _, e1⟩
    have hgp : ¬ Blk vp g := fun hh => hap g hh hgu
    subst e9
    refine ⟨K2.used e3 hgu hgp e6 (by omega), ⟨g, _, cap, e2, e3, e4, e5, e6.set nu b, by simp [e7], ?_, hgp, fun hh => h.2.1 (hh ▸ hgu)⟩, fun g9 h9 h10 => ?_⟩
    · rw [Array.toList_setIfInBounds, List.take_add_one, List.take_set_of_le (Nat.le_refl _), e8]
      simp [show nu < cells.size by omega]
    · obtain rfl := h9.one ⟨_, _, e2⟩
      exact f8 (h10.one ⟨_, _, f1⟩ ▸ hgu)
  · rw [Nat.mul_one] at e5 e6
    refine ⟨K2.of (by omega) hb, ⟨g, cells, cap, e1, by omega, e3, hm, e4, e5, e6, fun hh => by have := hp g hh; omega, by omega⟩, fun g9 h9 h10 => ?_⟩
    have := h9.one ⟨_, _, e1⟩
    have := h10.one ⟨_, _, f1⟩
    have := f5.lt
    omega
end
/-- a record that is no cells stays -/
theorem K2.recd {B : Nat} {e : TypeId} {vp vu : Value} {np nu : Nat} {a b : Value} {W w : World} {fl fu : List Value} (hK : K2 B e vp vu np nu a b W w) (hp : RowZ e 1 B np fl vp W) (hu : RowZ e 1 B nu fu vu W) (k : Nat) (o : Obj) (ho : W.heap[k]? = some o) (hc : o.isCells = false) : w.heap[k]? = some o := by
  have no : ∀ {v : Value} {n : Nat} {f : List Value}, RowZ e 1 B n f v W → ¬ Blk v k := fun {v n f} h hb => by
    rcases h with ⟨rfl, -, -⟩ | ⟨cap, ⟨g', cells, rfl, -, -, hB', -⟩, -⟩
    · obtain ⟨n, c, h⟩ := hb; cases h
    · obtain rfl := hb.one (Blk.mk g' _ _)
      rw [show W.heap[k]? = _ from hB'] at ho
      cases ho; cases hc
  exact hK.oth k o ho (no hp) (no hu)
theorem RP.row {e : TypeId} {B n x : Nat} {fl : List Value} {vu q v : Value} {w : World} (h : RP e B n x fl vu q v w) : RowZ e 1 B n fl v w := by
  obtain ⟨g, cells, cap, h1, h2, h3, h4, h5, h6, h7, -, -⟩ := h
  exact .inr ⟨cap, ⟨g, cells, h1, h2, h3, h5, by rw [h6, Nat.mul_one], by rw [Nat.mul_one]; exact h7⟩, h4⟩
theorem RP.shp {e : TypeId} {B n x : Nat} {fl : List Value} {vu q v : Value} {w : World} (h : RP e B n x fl vu q v w) : ∃ g cap, v = .slice (some ⟨g, 0, none⟩) n cap ∧ g ≠ x := by
  obtain ⟨g, cells, cap, h1, h2, h3, h4, h5, h6, h7, h8, h9⟩ := h
  exact ⟨g, cap, h1, h9⟩
theorem wpList_ap {P : Program} {w w' : World} {ops : Array Oper} {rest : List Oper} {o : Oper} {a : Act} {Q : Exit → Act → World → Prop} (hgd : o.guard = none) (s y : Operand) (t : TypeId) (ho : o.op = .call { callee := .builtin .append, args := #[s, y], argTypes := #[t, t] })
    (v x v' : Value) (hes : a.eval s = v) (hey : a.eval y = x) (hr : (Builtin.append_ #[t, t] o.type #[v, x]).run P w = .ok v' w') (h : wpList P ops Q rest (a.put o.dst v') w') : wpList P ops Q (o :: rest) a w := by
  refine wpList_plain hgd fun _ hK => ?_
  unfold Oper.wp execOp
  simp only [ho, resolve, invoke, builtin, Sem.run_bind, Sem.run_pure, Result.andThen_ok, List.map_toArray, List.map_cons, List.map_nil, hes, hey, hr]
  exact hK _ _ h
/-- a block of another type is not the slice's -/
theorem RowZ.notBlk {e t : TypeId} {B n : Nat} {fl : List Value} {v : Value} {w : World} {g : Nat} {cs : Array Value} (h : RowZ e 1 B n fl v w) (hB : Bx w g t cs) (hne : e ≠ t) : ¬ Blk v g := fun hg => by
  rcases h with ⟨rfl, -, -⟩ | ⟨cap, ⟨g', cells, rfl, -, -, hB', -⟩, -⟩
  · obtain ⟨n, c, h⟩ := hg; cases h
  · obtain rfl := hg.one (Blk.mk g' _ _)
    have := (show w.heap[g]? = _ from hB').symm.trans hB
    simp only [Option.some.injEq, Obj.cells.injEq] at this
    exact hne this.2.1
/-- a region of a round that draws its order, its head by relations for any class of changes -/
theorem wpIn_region_rs {P : Program} {K : World → World → Prop} (hK : RS.Cls K) (kl : List (Nat × Nat)) {id l m : Nat} {os : List Oper} {Q : Exit → Act → World → Prop} {a0 : Act} {w0 : World} (ps : List RS.Rl) (n sz : Nat) (hm : P.follows .mixedOrders = true) (hd : noDefer os.toArray = true) (hnp : ps.length = n) (hsz : a0.tmps.size = sz)
    (hB : (okRG os.toArray sz && looksG os.toArray n && (decide (os.length ≤ n) || (Region.sinkB .any os.toArray n && Region.chainB .any os.toArray n)) && decide (n ≤ os.length) && Region.seqB .any os.toArray (os.length - n) n ((List.range os.length).map fun i => decide (i < n)).toArray) = true)
    (hkl : RS.ksB os kl = true) (hst : RS.AllS K ps) (hsteps : RS.UsersG K (RS.ksOf kl) P os.toArray ps w0 a0 0 [] (os.take n) ps)
    (hfin : ∀ vs w', K w0 w' → RS.AllR (RS.ksOf kl) vs w' 0 ps → wpList P os.toArray (fun e a'' w'' => e = .normal ∧ Q .normal a'' w'') (os.drop n) (RS.putD vs 0 ((os.take n).map (·.dst)) a0) w') : (Code.region id os.toArray true).wpIn (Fence.wide.inRound l) m P Q a0 w0 :=
  wpIn_mono (wpIn_region_any hm (wpAnyIn_of hd (by rintro ⟨_, _, h, _⟩; cases h) _ _ _ _ (RS.any_region_rgl hK kl ps n sz hnp hsz hB hkl hst hsteps hfin))) (fun e a w ⟨he, h⟩ => he ▸ h)
end Go.Proofs.YtlldlkjngcgcjaaGreatDoor
namespace Go.Proofs.YtlldlkjngcgcjaaGreatDoor
set_option linter.unusedVariables false
set_option linter.unusedSimpArgs false
open Go.RowKit
theorem fold_ones (a : Array Value) (p : Tmp) (v : Value) : (#[p].zip #[v]).foldl (fun t x => t.setIfInBounds x.1 x.2) a = a.setIfInBounds p v := by simp
theorem RowZ.put {e : TypeId} {size B n : Nat} {fl : List Value} {v : Value} {X : World} {l : Nat} {o o' : Obj} (h : RowZ e size B n fl v X) (ho : X.heap[l]? = some o) (hc : o.isCells = false) : RowZ e size B n fl v (X.putObj l o') := by
  rcases h with h | ⟨cap, ⟨g, cells, h1, h2, h3, h4, h5, h6⟩, h7⟩
  · exact .inl h
  · exact .inr ⟨cap, ⟨g, cells, h1, h2, h3, bx_put h4 ho hc, h5, h6⟩, h7⟩
theorem RowZ.far {e : TypeId} {size B n x : Nat} {fl : List Value} {v : Value} {X : World} {i : Nat} {u : Value} (h : RowZ e size B n fl v X) (hx : ¬ Blk v x) : RowZ e size B n fl v (X.setCell ⟨x, i, none⟩ u) := by
  rcases h with h | ⟨cap, ⟨g, cells, h1, h2, h3, h4, h5, h6⟩, h7⟩
  · exact .inl h
  · exact .inr ⟨cap, ⟨g, cells, h1, h2, h3, h4.far (by rintro rfl; exact hx ⟨_, _, h1⟩) u, h5, h6⟩, h7⟩
/-- a store into a block of another type -/
theorem RowZ.other {e t : TypeId} {size B n x : Nat} {fl : List Value} {v : Value} {X : World} {i : Nat} {u : Value} {cs : Array Value} (h : RowZ e size B n fl v X) (hB : Bx X x t cs) (hne : e ≠ t) : RowZ e size B n fl v (X.setCell ⟨x, i, none⟩ u) := by
  rcases h with h | ⟨cap, ⟨g, cells, h1, h2, h3, h4, h5, h6⟩, h7⟩
  · exact .inl h
  · refine .inr ⟨cap, ⟨g, cells, h1, h2, h3, h4.far ?_ u, h5, h6⟩, h7⟩
    rintro rfl
    have := (show X.heap[g]? = _ from h4).symm.trans hB
    simp only [Option.some.injEq, Obj.cells.injEq] at this
    exact hne this.2.1
def idC (i : Nat) : List Value := [.int .i64 i]
theorem inC_len (p : List Int) : (p.flatMap inC).length = p.length := by rw [flat_len (f := inC) (size := 1) (fun _ => rfl)]; omega
theorem idC_len (p : List Nat) : (p.flatMap idC).length = p.length := by rw [flat_len (f := idC) (size := 1) (fun _ => rfl)]; omega
structure RvI (l : List Tw.St) (c : List (Int × Int)) (t number : Int) (A : Option Addr) (cap b1 b2 : Nat) (W2 : World) (s : Nat) (xs : List Nat) (X : World) : Prop where
  bl : Below W2.heap.size W2 X
  bm : Bx X s 95 #[.slice A l.length cap, .map (some b1), .map (some b2)]
  bm2 : Bx X (s + 3) 95 #[.slice A l.length cap, .map (some b1), .map (some b2)]
  bn : s + 4 < X.heap.size
  row : ∃ vp vu, Bx X (s + 2) 45 #[.int .i64 0, vp, vu] ∧ RowX 3 s (xs.length + 1) (s + 4) ((Tw.pathOf l number xs).flatMap inC) vp X ∧ RowX 3 s xs.length (s + 4) (xs.flatMap idC) vu X ∧ ∀ g, Blk vp g → ¬ Blk vu g
  rt : Tw.Rt l c t number xs
section
variable {l : List Tw.St} {c : List (Int × Int)} {t number : Int} {A : Option Addr} {cap b1 b2 : Nat} {W2 : World} {s : Nat} {xs : List Nat} {X Y : World}
theorem RvI.grow : GrS (RvI l c t number A cap b1 b2 W2 s) := fun xs X Y h hb => by
  obtain ⟨h1, h2, h3, h4, ⟨vp, vu, k1, k2, k3, k4⟩, h6⟩ := h
  exact ⟨h1.trans (hb.mono h1.size), h2.call hb, h3.call hb, Nat.lt_of_lt_of_le h4 hb.size, ⟨vp, vu, k1.call hb, ⟨stab_rowZ _ _ _ _ _ _ _ _ k2.1 hb, k2.2⟩, ⟨stab_rowZ _ _ _ _ _ _ _ _ k3.1 hb, k3.2⟩, k4⟩, h6⟩
theorem RvI.put {B : Nat} (hB : W2.heap.size ≤ B) : PuS B (RvI l c t number A cap b1 b2 W2 s) := fun xs X k o o' h hk ho hc => by
  obtain ⟨h1, h2, h3, h4, ⟨vp, vu, k1, k2, k3, k4⟩, h6⟩ := h
  exact ⟨h1.trans (below_put (Nat.le_trans hB hk) ho), bx_put h2 ho hc, bx_put h3 ho hc, by simpa using h4, ⟨vp, vu, bx_put k1 ho hc, ⟨k2.1.put ho hc, k2.2⟩, ⟨k3.1.put ho hc, k3.2⟩, k4⟩, h6⟩
theorem RvI.var (hs : W2.heap.size ≤ s) : ∀ xs X u, RvI l c t number A cap b1 b2 W2 s xs X → RvI l c t number A cap b1 b2 W2 s xs (X.setCell ⟨s + 4, 0, none⟩ u) := fun xs X u h => by
  obtain ⟨h1, h2, h3, h4, ⟨vp, vu, k1, k2, k3, k4⟩, h6⟩ := h
  exact ⟨h1.setCell (p := ⟨s + 4, 0, none⟩) (by show _ ≤ s + 4; omega) _, h2.far (p := ⟨s + 4, 0, none⟩) (by show s ≠ s + 4; omega) _, h3.far (p := ⟨s + 4, 0, none⟩) (by show s + 3 ≠ s + 4; omega) _, by rw [World.size_setCell]; exact h4,
    ⟨vp, vu, k1.far (p := ⟨s + 4, 0, none⟩) (by show s + 2 ≠ s + 4; omega) _, ⟨k2.1.far k2.2.1, k2.2⟩, ⟨k3.1.far k3.2.1, k3.2⟩, k4⟩, h6⟩
end
/-- what is returned: the route in the results' places -/
structure RvX (r : Tw.Ro) (w : World) (gr ge B : Nat) (cd : Code) (xs : List Nat) (X : World) : Prop where
  code : cd = .ret
  bl : Below w.heap.size w X
  row : ∃ vp vu, Bx X gr 45 #[.int .i64 r.kind, vp, vu] ∧ Bx X ge 36 #[.int .i64 0] ∧ RowZ 3 1 B r.path.length (r.path.flatMap inC) vp X ∧ RowZ 3 1 B r.used.length (r.used.flatMap idC) vu X
theorem RvX.grow {r : Tw.Ro} {w : World} {gr ge B : Nat} (cd : Code) : GrS (RvX r w gr ge B cd) := fun xs X Y h hb => by
  obtain ⟨h0, h1, vp, vu, k1, k2, k3, k4⟩ := h
  exact ⟨h0, h1.trans (hb.mono h1.size), vp, vu, k1.call hb, k2.call hb, stab_rowZ _ _ _ _ _ _ _ _ k3 hb, stab_rowZ _ _ _ _ _ _ _ _ k4 hb⟩
theorem RvX.put {r : Tw.Ro} {w : World} {gr ge B B' : Nat} (hB : w.heap.size ≤ B') (cd : Code) : PuS B' (RvX r w gr ge B cd) := fun xs X k o o' h hk ho hc => by
  obtain ⟨h0, h1, vp, vu, k1, k2, k3, k4⟩ := h
  exact ⟨h0, h1.trans (below_put (Nat.le_trans hB hk) ho), vp, vu, bx_put k1 ho hc, bx_put k2 ho hc, k3.put ho hc, k4.put ho hc⟩
theorem RowZ.bxs {e : TypeId} {size B n : Nat} {fl : List Value} {v : Value} {X Y : World} (h : RowZ e size B n fl v X) (hB : ∀ g t cs, Bx X g t cs → Bx Y g t cs) : RowZ e size B n fl v Y := by
  rcases h with h | ⟨cap, ⟨g, cells, h1, h2, h3, h4, h5, h6⟩, h7⟩
  · exact .inl h
  · exact .inr ⟨cap, ⟨g, cells, h1, h2, h3, hB _ _ _ h4, h5, h6⟩, h7⟩
/-- a route as a value -/
def RoA (r : Tw.Ro) (v : Value) (w : World) : Prop := ∃ P pc U uc, v = .agg #[.int .i64 r.kind, .slice P r.path.length pc, .slice U r.used.length uc] ∧ At 1 inC w w.heap.size P r.path ∧ At 1 idC w w.heap.size U r.used ∧ r.path.length ≤ pc ∧ r.used.length ≤ uc ∧ pc ≤ maxLen ∧ uc ≤ maxLen
theorem RoA.of {r : Tw.Ro} {B : Nat} {vp vu : Value} {X : World} (h3 : RowZ 3 1 B r.path.length (r.path.flatMap inC) vp X) (h4 : RowZ 3 1 B r.used.length (r.used.flatMap idC) vu X) : RoA r (.agg #[.int .i64 r.kind, vp, vu]) X := by
  obtain ⟨P, pc, rfl, a1, a2, a3⟩ := RowZ.at (f := inC) (fun _ => rfl) h3
  obtain ⟨U, uc, rfl, b1, b2, b3⟩ := RowZ.at (f := idC) (fun _ => rfl) h4
  exact ⟨P, pc, U, uc, rfl, a1, b1, a2, b2, a3, b3⟩
theorem RoA.call {r : Tw.Ro} {v : Value} {X Y : World} (h : RoA r v X) (hb : Below X.heap.size X Y) : RoA r v Y := by
  obtain ⟨P, pc, U, uc, e, h1, h2, h3⟩ := h
  exact ⟨P, pc, U, uc, e, h1.callx hb, h2.callx hb, h3⟩
theorem intI : ∃ i z, Tryz.prog.info? 3 = some i ∧ i.zero = some z ∧ i.size = 1 ∧ z.cells.size = 1 ∧ i.bytes = 8 := by
  have h : (Tryz.prog.info? 3).map (fun i => (i.size, i.bytes, i.zero.map (·.cells.size))) = some (1, 8, some 1) := by kernel_rfl
  cases hi : Tryz.prog.info? 3 with
  | none => rw [hi] at h; cases h
  | some i =>
    rw [hi] at h
    simp only [Option.map_some, Option.some.injEq, Prod.mk.injEq] at h
    obtain ⟨h1, h2, h3⟩ := h
    cases hz : i.zero with
    | none => rw [hz] at h3; cases h3
    | some z =>
      rw [hz] at h3
      simp only [Option.map_some, Option.some.injEq] at h3
      exact ⟨i, z, rfl, hz, h1, h3, h2⟩
end Go.Proofs.YtlldlkjngcgcjaaGreatDoor
namespace Go.Proofs.YtlldlkjngcgcjaaGreatDoor
set_option linter.unusedVariables false
set_option linter.unusedSimpArgs false
open Go.RowKit Go.Shelf
attribute [local go_sem] Oper.semAt_some
theorem results_R2 {fn : Func} {t u : Tmp} {g h : Nat} {a b c d : Value} (hf : fn.results = #[.cell t 45, .cell u 36]) (tmps : Array Value) (w : World) (ht : tmps.getD t undef = .pointer (some ⟨g, 0, none⟩)) (hu : tmps.getD u undef = .pointer (some ⟨h, 0, none⟩)) (hB : Bx w g 45 #[a, b, c]) (hE : Bx w h 36 #[d]) :
    (results fn tmps).run Tryz.prog w = .ok (.tuple #[.agg #[a, b, c], d]) w := by
  have h0 := hB.cell 0 rfl
  have h1 := hB.cell 1 rfl
  have h2 := hB.cell 2 rfl
  have h3 := hE.cell 0 rfl
  have ht' : tmps[t]?.getD undef = .pointer (some ⟨g, 0, none⟩) := by simpa using ht
  have hu' : tmps[u]?.getD undef = .pointer (some ⟨h, 0, none⟩) := by simpa using hu
  simp only [results, hf]
  simp [go_sem, ht', hu', h0, h1, h2, h3, loadVar]
def rsB (l : List Tw.St) (c : List (Int × Int)) (n t : Int) : Prop := Tw.Va l ∧ c.length ≤ 40 ∧ Tw.Vc c ∧ (0 ≤ n ∧ n ≤ 99999999) ∧ (0 ≤ t ∧ t ≤ 10000000)
open Classical in
noncomputable def resR (l : List Tw.St) (c : List (Int × Int)) (n t : Int) : Tw.Ro := if rsB l c n t then Tw.route l c n t else ⟨0, [], []⟩
open Classical in
noncomputable def resE (l : List Tw.St) (c : List (Int × Int)) (n t : Int) : Int := if rsB l c n t then 0 else 220
theorem res_t {l : List Tw.St} {c : List (Int × Int)} {n t : Int} (h : rsB l c n t) : resR l c n t = Tw.route l c n t ∧ resE l c n t = 0 := ⟨if_pos h, if_pos h⟩
theorem res_f {l : List Tw.St} {c : List (Int × Int)} {n t : Int} (h : ¬ rsB l c n t) : resR l c n t = ⟨0, [], []⟩ ∧ resE l c n t = 220 := ⟨if_neg h, if_neg h⟩
theorem rsB_iff {l : List Tw.St} {c : List (Int × Int)} {n t : Int} : rsB l c n t ↔ valB l c = true ∧ inB n 0 99999999 = true ∧ inB t 0 10000000 = true := by
  unfold rsB inB
  rw [valB_iff]
  simp only [Bool.and_eq_true, decide_eq_true_eq]
  exact ⟨fun ⟨h1, h2, h3, h4, h5⟩ => ⟨⟨h1, h2, h3⟩, h4, h5⟩, fun ⟨⟨h1, h2, h3⟩, h4, h5⟩ => ⟨h1, h2, h3, h4, h5⟩⟩
theorem fin_R {w0 W : World} {g h : Nat} {a b c d : Value} (x y z u : Value) (hR : Bx W g 45 #[a, b, c]) (hE : Bx W h 36 #[d]) (hgh : g ≠ h) (hb : Below w0.heap.size w0 W) (hg : w0.heap.size ≤ g) (hh : w0.heap.size ≤ h) :
    Bx ((((W.setCell ⟨g, 0, none⟩ x).setCell ⟨g, 1, none⟩ y).setCell ⟨g, 2, none⟩ z).setCell ⟨h, 0, none⟩ u) g 45 #[x, y, z] ∧ Bx ((((W.setCell ⟨g, 0, none⟩ x).setCell ⟨g, 1, none⟩ y).setCell ⟨g, 2, none⟩ z).setCell ⟨h, 0, none⟩ u) h 36 #[u] ∧ Below w0.heap.size w0 ((((W.setCell ⟨g, 0, none⟩ x).setCell ⟨g, 1, none⟩ y).setCell ⟨g, 2, none⟩ z).setCell ⟨h, 0, none⟩ u) :=
  ⟨(((hR.set 0 x).set 1 y).set 2 z).far (p := ⟨h, 0, none⟩) hgh u,
   (((hE.far (p := ⟨g, 0, none⟩) (Ne.symm hgh) x).far (p := ⟨g, 1, none⟩) (Ne.symm hgh) y).far (p := ⟨g, 2, none⟩) (Ne.symm hgh) z).set 0 u,
   bSet (bSet (bSet (bSet hb (p := ⟨g, 0, none⟩) hg _) (p := ⟨g, 1, none⟩) hg _) (p := ⟨g, 2, none⟩) hg _) (p := ⟨h, 0, none⟩) hh _⟩
theorem fin_X {r : Tw.Ro} {w W : World} {g h B B' : Nat} {a b c d vp vu : Value} {xs : List Nat} (hR : Bx W g 45 #[a, b, c]) (hE : Bx W h 36 #[d]) (hgh : g ≠ h) (hb : Below w.heap.size w W) (hg : w.heap.size ≤ g) (hh : w.heap.size ≤ h)
    (h3 : RowZ 3 1 B r.path.length (r.path.flatMap inC) vp W) (h4 : RowZ 3 1 B r.used.length (r.used.flatMap idC) vu W) :
    FrN B' W ((((W.setCell ⟨g, 0, none⟩ (.int .i64 r.kind)).setCell ⟨g, 1, none⟩ vp).setCell ⟨g, 2, none⟩ vu).setCell ⟨h, 0, none⟩ (.int .i64 0)) ∧ RvX r w g h B .ret xs ((((W.setCell ⟨g, 0, none⟩ (.int .i64 r.kind)).setCell ⟨g, 1, none⟩ vp).setCell ⟨g, 2, none⟩ vu).setCell ⟨h, 0, none⟩ (.int .i64 0)) := by
  obtain ⟨R3, E3, hb3⟩ := fin_R (.int .i64 r.kind) vp vu (.int .i64 0) hR hE hgh hb hg hh
  have R0 := hR.set 0 (.int .i64 r.kind)
  have R1 := R0.set 1 vp
  have R2 := R1.set 2 vu
  have E2 := ((hE.far (p := ⟨g, 0, none⟩) (Ne.symm hgh) (.int .i64 r.kind)).far (p := ⟨g, 1, none⟩) (Ne.symm hgh) vp).far (p := ⟨g, 2, none⟩) (Ne.symm hgh) vu
  exact ⟨(((FrN.set hR).trans (FrN.set R0)).trans (FrN.set R1)).trans (FrN.set E2), rfl, hb3, vp, vu, R3, E3, (((h3.other hR (by decide)).other R0 (by decide)).other R1 (by decide)).other E2 (by decide), (((h4.other hR (by decide)).other R0 (by decide)).other R1 (by decide)).other E2 (by decide)⟩
/-- a route as a value, its slices being rows of integers of their own -/
def RoT (r : Tw.Ro) (v : Value) (w : World) : Prop := ∃ B vp vu, v = .agg #[.int .i64 r.kind, vp, vu] ∧ RowZ 3 1 B r.path.length (r.path.flatMap inC) vp w ∧ RowZ 3 1 B r.used.length (r.used.flatMap idC) vu w
theorem RoT.of {r : Tw.Ro} {B : Nat} {vp vu : Value} {X : World} (h3 : RowZ 3 1 B r.path.length (r.path.flatMap inC) vp X) (h4 : RowZ 3 1 B r.used.length (r.used.flatMap idC) vu X) : RoT r (.agg #[.int .i64 r.kind, vp, vu]) X := ⟨B, vp, vu, rfl, h3, h4⟩
theorem RoT.a {r : Tw.Ro} {v : Value} {w : World} (h : RoT r v w) : RoA r v w := by
  obtain ⟨B, vp, vu, rfl, h3, h4⟩ := h
  exact RoA.of h3 h4
theorem RoT.call {r : Tw.Ro} {v : Value} {X Y : World} (h : RoT r v X) (hb : Below X.heap.size X Y) : RoT r v Y := by
  obtain ⟨B, vp, vu, e, h3, h4⟩ := h
  exact ⟨B, vp, vu, e, stab_rowZ _ _ _ _ _ _ _ _ h3 hb, stab_rowZ _ _ _ _ _ _ _ _ h4 hb⟩
theorem rowZ_kpE {e t : TypeId} {size B n : Nat} {fl : List Value} {v : Value} {X Y : World} (ht : t ≠ e) (h : RowZ t size B n fl v X) (k : KpE e X Y) : RowZ t size B n fl v Y := by
  rcases h with h | ⟨cap, ⟨g, cells, h1, h2, h3, h4, h5, h6⟩, h7⟩
  · exact .inl h
  · exact .inr ⟨cap, ⟨g, cells, h1, h2, h3, k.bx ht h4, h5, h6⟩, h7⟩
theorem RoT.kpE {e : TypeId} {r : Tw.Ro} {v : Value} {X Y : World} (ht : 3 ≠ e) (h : RoT r v X) (k : KpE e X Y) : RoT r v Y := by
  obtain ⟨B, vp, vu, e, h3, h4⟩ := h
  exact ⟨B, vp, vu, e, rowZ_kpE ht h3 k, rowZ_kpE ht h4 k⟩
theorem roT_zero (w : World) : RoT ⟨0, [], []⟩ (.agg #[.int .i64 0, .slice none 0 0, .slice none 0 0]) w := ⟨0, _, _, rfl, .inl ⟨rfl, rfl, rfl⟩, .inl ⟨rfl, rfl, rfl⟩⟩
theorem roA_zero (w : World) : RoA ⟨0, [], []⟩ (.agg #[.int .i64 0, .slice none 0 0, .slice none 0 0]) w := ⟨none, 0, none, 0, rfl, At.nil, At.nil, Nat.zero_le _, Nat.zero_le _, Nat.zero_le _, Nat.zero_le _⟩
set_option maxRecDepth 100000 in
set_option maxHeartbeats 8000000 in
theorem resolve_t (l : List Tw.St) (A : Option Addr) (cap : Nat) (c : List (Int × Int)) (C : Option Addr) (ccap : Nat) (number t : Int) (w : World) (hA : At 5 stC w w.heap.size A l) (hn : l.length ≤ cap) (hl : l.length ≤ 9223372036854775807) (hC : At 2 cdC w w.heap.size C c) (hcn : c.length ≤ ccap) (hcl : c.length ≤ 9223372036854775807) :
    Calls Tryz.prog 12 #[.slice A l.length cap, .slice C c.length ccap, .int .i64 number, .int .i64 t] w fun e w' => ∃ v, e = .returned (.tuple #[v, .int .i64 (resE l c number t)]) ∧ Below w.heap.size w w' ∧ RoT (resR l c number t) v w' := by
  refine (callsIn_wide (n := 4)).1 ?_
  refine callsIn_of_wp_marks Tryz.func12 rfl trivial ?_ rfl
  simp only [Tryz.ntmps12, List.size_toArray, List.length_cons, List.length_nil, Nat.reduceAdd, Nat.reduceSub, Array.replicate_succ, Array.replicate_zero, List.push_toArray, List.append_toArray, List.nil_append, List.cons_append]
  obtain ⟨g, hg⟩ := exKx w.heap.size
  have hb := bNew (bNew (bNx w (.cells #[.slice A l.length cap] 41)) (.cells #[.int .i64 0, .slice none 0 0, .slice none 0 0] 45)) (.cells #[.int .i64 0] 36)
  have BL := ((Bx.mk w 41 #[.slice A l.length cap]).new (.cells #[.int .i64 0, .slice none 0 0, .slice none 0 0] 45)).new (.cells #[.int .i64 0] 36)
  have BR := (Bx.mk (w.alloc (.cells #[.slice A l.length cap] 41)) 45 #[.int .i64 0, .slice none 0 0, .slice none 0 0]).new (.cells #[.int .i64 0] 36)
  have BE := Bx.mk ((w.alloc (.cells #[.slice A l.length cap] 41)).alloc (.cells #[.int .i64 0, .slice none 0 0, .slice none 0 0] 45)) 36 #[.int .i64 0]
  simp only [World.size_alloc] at BR BE
  have hA1 := hA.callx hb
  have hC1 := hC.callx hb
  have hV := wValid_any l A cap c C ccap _ hA1 hn hl hC1 hcn hcl
  have hN := fun w0 => wNumber_any number w0
  have hT := fun w0 => wIn_any t 0 10000000 w0
  have b0 := BL.cell 0 rfl
  refine wpIn_wide.2 ?_
  have hways : (valB l c = false ∧ resR l c number t = ⟨0, [], []⟩ ∧ resE l c number t = 220) ∨ (valB l c = true ∧ inB number 0 99999999 = false ∧ resR l c number t = ⟨0, [], []⟩ ∧ resE l c number t = 220) ∨ (valB l c = true ∧ inB number 0 99999999 = true ∧ inB t 0 10000000 = false ∧ resR l c number t = ⟨0, [], []⟩ ∧ resE l c number t = 220) ∨ rsB l c number t := by
    by_cases hok : rsB l c number t
    · exact .inr (.inr (.inr hok))
    · have h1 := res_f hok
      rw [rsB_iff] at hok
      cases h2 : valB l c
      · exact .inl ⟨rfl, h1⟩
      · cases h3 : inB number 0 99999999
        · exact .inr (.inl ⟨rfl, rfl, h1⟩)
        · cases h4 : inB t 0 10000000
          · exact .inr (.inr (.inl ⟨rfl, rfl, rfl, h1⟩))
          · exact absurd ⟨h2, h3, h4⟩ hok
  rcases hways with ⟨e1, e9, e10⟩ | ⟨e1, e2, e9, e10⟩ | ⟨e1, e2, e3, e9, e10⟩ | hok
  rotate_right
  · obtain ⟨e1, e2, e3⟩ := rsB_iff.1 hok
    obtain ⟨e9, e10⟩ := res_t hok
    obtain ⟨hv, hc40, hc, hnn, htt⟩ := hok
    have hl40 := hv.len
    rw [e1] at hV
    rw [e2] at hN
    rw [e3] at hT
    rw [e9, e10]
    clear e1 e2 e3 e9 e10
    obtain ⟨r, hr⟩ := exKx (Tw.route l c number t)
    rw [hr.out]
    go_wp2_with fail
    refine hV.mono ?_
    rintro _ w1 ⟨rfl, hb1⟩
    have hA2 := hA1.callx hb1
    have hC2 := hC1.callx hb1
    replace BL := BL.call hb1
    replace BR := BR.call hb1
    replace BE := BE.call hb1
    replace hb := bCall hb hb1
    clear hb1 hV b0 hA1 hC1
    have b0 := BL.cell 0 rfl
    go_wp2_with (first | (go_at_call 44; refine (hN _).mono ?_; rintro _ w2 ⟨rfl, rfl⟩) | (go_at_call 45; refine (hT _).mono ?_; rintro _ w2 ⟨rfl, rfl⟩))
    refine (at_any l A cap c C ccap t w1 hv hc hA2 hn hC2 hcn hc40).mono ?_
    rintro _ w2 ⟨b1, b2, rfl, hb1, hM⟩
    have hA3 := hA2.callx hb1
    replace BL := BL.call hb1
    replace BR := BR.call hb1
    replace BE := BE.call hb1
    replace hb := bCall hb hb1
    clear hb1 b0 hA2 hC2 hN hT hC hA
    obtain ⟨s, hs⟩ := exKx w2.heap.size
    have hbz := bNew (bNew (bNx w2 (.cells #[.slice A l.length cap, .map (some b1), .map (some b2)] 95)) (.cells #[.int .i64 number] 3)) (.cells #[.int .i64 0, .slice (some ⟨w2.heap.size + 1, 0, none⟩) 1 1, .slice none 0 0] 45)
    have BM := ((Bx.mk w2 95 #[.slice A l.length cap, .map (some b1), .map (some b2)]).new (.cells #[.int .i64 number] 3)).new (.cells #[.int .i64 0, .slice (some ⟨w2.heap.size + 1, 0, none⟩) 1 1, .slice none 0 0] 45)
    have BP := (Bx.mk (w2.alloc (.cells #[.slice A l.length cap, .map (some b1), .map (some b2)] 95)) 3 #[.int .i64 number]).new (.cells #[.int .i64 0, .slice (some ⟨w2.heap.size + 1, 0, none⟩) 1 1, .slice none 0 0] 45)
    have BQ := Bx.mk ((w2.alloc (.cells #[.slice A l.length cap, .map (some b1), .map (some b2)] 95)).alloc (.cells #[.int .i64 number] 3)) 45 #[.int .i64 0, .slice (some ⟨w2.heap.size + 1, 0, none⟩) 1 1, .slice none 0 0]
    simp only [World.size_alloc] at BP BQ
    have b0 := (BL.call hbz).cell 0 rfl
    have m0 := BM.cell 0 rfl
    have m1 := BM.cell 1 rfl
    have m2 := BM.cell 2 rfl
    go_wp2_with fail
    refine ((callsIn_wide (n := 4)).1 (walk_any 4 A l.length cap b1 b2 number _)).mono ?_
    rintro _ _ ⟨rfl, rfl⟩
    have hs5 : (((w2.alloc (.cells #[.slice A l.length cap, .map (some b1), .map (some b2)] 95)).alloc (.cells #[.int .i64 number] 3)).alloc (.cells #[.int .i64 0, .slice (some ⟨w2.heap.size + 1, 0, none⟩) 1 1, .slice none 0 0] 45)).heap.size = w2.heap.size + 3 := by simp only [World.size_alloc]
    simp only [World.size_alloc] at BM BP BQ ⊢
    clear b0 m0 m1 m2
    generalize ((w2.alloc (.cells #[.slice A l.length cap, .map (some b1), .map (some b2)] 95)).alloc (.cells #[.int .i64 number] 3)).alloc (.cells #[.int .i64 0, .slice (some ⟨w2.heap.size + 1, 0, none⟩) 1 1, .slice none 0 0] 45) = w5 at *
    have hbw := bNew (bNx w5 (.cells #[.slice A l.length cap, .map (some b1), .map (some b2)] 95)) (.cells #[.int .i64 number] 3)
    have BM2 := (Bx.mk w5 95 #[.slice A l.length cap, .map (some b1), .map (some b2)]).new (.cells #[.int .i64 number] 3)
    have BN := Bx.mk (w5.alloc (.cells #[.slice A l.length cap, .map (some b1), .map (some b2)] 95)) 3 #[.int .i64 number]
    have hs7 : ((w5.alloc (.cells #[.slice A l.length cap, .map (some b1), .map (some b2)] 95)).alloc (.cells #[.int .i64 number] 3)).heap.size = w2.heap.size + 5 := by simp only [World.size_alloc, hs5]
    replace BM := BM.call hbw
    replace BP := BP.call hbw
    replace BQ := BQ.call hbw
    have hb7 := bCall hbz hbw
    simp only [World.size_alloc, hs5] at BM2 BN
    generalize (w5.alloc (.cells #[.slice A l.length cap, .map (some b1), .map (some b2)] 95)).alloc (.cells #[.int .i64 number] 3) = w7 at *
    clear hbw hbz hs5
    have hsw : w.heap.size + 3 ≤ w2.heap.size := by have := BE.lt; omega
    have hseq := walk_seq 3 (by decide) 5 l c t number b1 b2 (w2.heap.size + 3) (w2.heap.size + 4) A cap w2 hv hc hA3 hn hM ⟨by omega, by omega⟩ (by omega)
    have hz : RvI l c t number A cap b1 b2 w2 w2.heap.size [] w7 := by
      refine ⟨hb7, BM, BM2, by omega, ⟨_, _, BQ, ⟨.inr ⟨1, ⟨w2.heap.size + 1, #[.int .i64 number], rfl, by omega, Nat.le_refl _, BP, rfl, rfl⟩, by unfold maxLen; omega⟩, ?_, rfl⟩, ⟨.inl ⟨rfl, rfl, rfl⟩, ?_, rfl⟩, ?_⟩, Tw.Rt.nil _ _ _ _⟩
      · intro h
        have := h.one (Blk.mk _ _ _)
        omega
      · rintro ⟨n, c, h⟩; cases h
      · rintro g _ ⟨n, c, h⟩; cases h
    go_wp2_with fail
    refine (wpIn_wide (n := 4)).1 ?_
    refine wpIn_range_s (by decide) (gf := 93) (lb := #[.pointer (some ⟨w2.heap.size + 3, 0, none⟩), .pointer (some ⟨w2.heap.size + 4, 0, none⟩)]) rfl (enters_of Tryz.func93 (by kernel_rfl) rfl) hseq (by omega) (fun X hX => BN.call hX) (fun X hX => ⟨hb7.trans (hX.mono (by omega)), by omega, BM2.call hX⟩) (fun _ => rfl)
      (RvI l c t number A cap b1 b2 w2 w2.heap.size) (RvX r w (w.heap.size + 1) (w.heap.size + 2) w2.heap.size) RvI.grow (RvI.put (by omega)) (fun c => RvX.grow c) (fun c => RvX.put (by omega) c) (fun xs X h => ⟨h.bl, by omega, h.bm2⟩) (fun xs X h => h.rt.len) (RvI.var (Nat.le_refl _)) hz 12 (fun i => .int .i64 i) ?assign ?body ?done ?stop
    case assign =>
      intro lp x W K hK
      simp only [wkE, fold_ones] at hK ⊢
      gi_wp2
      simp only [List.setIfInBounds_toArray, List.set_cons_succ, List.set_cons_zero] at hK
      exact hK
    case body =>
      rintro lp pre x W hI hR
      simp only [wkE, fold_ones, List.setIfInBounds_toArray, List.set_cons_succ, List.set_cons_zero]
      obtain ⟨bl, bm, bm2, bn, ⟨vp, vu, BQ, hP, hU, hap⟩, rt⟩ := hI
      have BL' := BL.below bl BL.lt
      have BR' := BR.below bl BR.lt
      have BE' := BE.below bl BE.lt
      have hlen := rt.len
      obtain ⟨Ap, cp, rfl, hPA, hPc, hPm⟩ := RowZ.at (p := Tw.pathOf l number pre) (f := inC) (fun _ => rfl) (by rw [Tw.pathOf_len]; exact hP.1)
      obtain ⟨Au, cu, rfl, hUA, hUc, hUm⟩ := RowZ.at (p := pre) (f := idC) (fun _ => rfl) hU.1
      have hx := hR.lt
      have hP9 : RowZ 3 1 w2.heap.size (Tw.pathOf l number pre).length ((Tw.pathOf l number pre).flatMap inC) (.slice Ap (Tw.pathOf l number pre).length cp) W := by
        have := hP.1
        rwa [← Tw.pathOf_len l number pre] at this
      have hQ1 : Bx W (w2.heap.size + 1 + 1) 45 #[.int .i64 0, .slice Ap (Tw.pathOf l number pre).length cp, .slice Au pre.length cu] := BQ
      have q0 := hQ1.cell 0 rfl
      have q1 := hQ1.cell 1 rfl
      have q2 := hQ1.cell 2 rfl
      by_cases h5 : pre.length = 5
      · have t5 : ((pre.length : Int) == 5) = true := by rw [h5]; rfl
        have hrt := rt.many hR h5
        have hrK := Kp.mk (hr.out.symm.trans hrt)
        have QK := hQ1.set 0 (.int .i64 6)
        have k0 := QK.cell 0 rfl
        have k1 := QK.cell 1 rfl
        have k2 := QK.cell 2 rfl
        have qf := hQ1.frozen 0
        have RK := BR'.far (p := ⟨w2.heap.size + 1 + 1, 0, none⟩) (by show w.heap.size + 1 ≠ w2.heap.size + 1 + 1; omega) (.int .i64 6)
        have EK := BE'.far (p := ⟨w2.heap.size + 1 + 1, 0, none⟩) (by show w.heap.size + 1 + 1 ≠ w2.heap.size + 1 + 1; omega) (.int .i64 6)
        have f0 := RK.frozen 0
        have f1 := RK.frozen 1
        have f2 := RK.frozen 2
        have f3 := EK.frozen 0
        have r0 := RK.cell 0 rfl
        have r1 := RK.cell 1 rfl
        have r2 := RK.cell 2 rfl
        have r3 := EK.cell 0 rfl
        have hbk : Below w.heap.size w (W.setCell ⟨w2.heap.size + 1 + 1, 0, none⟩ (.int .i64 6)) := bSet (bCall hb bl) (p := ⟨w2.heap.size + 1 + 1, 0, none⟩) (by show _ ≤ w2.heap.size + 1 + 1; omega) _
        have hF := fin_X (r := r) (B := w2.heap.size) (B' := w7.heap.size) (xs := pre ++ [x]) RK EK (by omega) hbk (by omega) (by omega) (by rw [hrK.out]; exact hP9.other hQ1 (by decide)) (by rw [hrK.out]; exact hU.1.other hQ1 (by decide))
        have hF2 := FrN.set (B := w7.heap.size) (i := 0) (u := .int .i64 6) hQ1
        have hk6 : r.kind = 6 := by rw [hrK.out]
        rw [hk6] at hF
        clear h5 hrt hR hx hrK hP hU hPA hUA bm bm2 bn
        gi_wp2_with fail
        exact ⟨hF2.trans hF.1, hF.2⟩
      · have t5 : ((pre.length : Int) == 5) = false := beq_eq_false_iff_ne.2 (by omega)
        obtain ⟨hx1, hto⟩ := hx
        obtain ⟨b, off, rfl, hbB, hcell⟩ := hA3.run (Nat.le_refl _) hx1
        have e2 := hcell W bl 2 _ rfl
        rw [← hto] at e2
        have l0 := BL'.cell 0 rfl
        have hCn := contains_any (Tw.pathOf l number pre) Ap cp (Tw.toOf l x) W hPA hPc (by have := hPm; unfold maxLen at this; omega)
        have hmet : Kp (Tw.toOf l x ∈ Tw.pathOf l number pre → r = ⟨5, Tw.pathOf l number pre ++ [Tw.toOf l x], pre ++ [x]⟩) := ⟨fun h => hr.out.symm.trans (rt.met hR h5 h)⟩
        have hgo : Kp (Tw.toOf l x ∉ Tw.pathOf l number pre → Tw.Rt l c t number (pre ++ [x])) := ⟨fun h => rt.on hR h5 h⟩
        have hpn : Kp (Tw.pathOf l number (pre ++ [x]) = Tw.pathOf l number pre ++ [Tw.toOf l x] ∧ (pre ++ [x]).length = pre.length + 1 ∧ (Tw.pathOf l number pre).length = pre.length + 1) := ⟨Tw.pathOf_snoc _ _ _ _, by simp, Tw.pathOf_len _ _ _⟩
        have hpx : ¬ Blk (Value.slice Ap (Tw.pathOf l number pre).length cp) (w2.heap.size + 4) := hP.2.1
        have hux := hU.2.1
        have hvlt : w2.heap.size + 4 < W.heap.size := bn
        have hU1 := hU.1
        have hplen : (Tw.pathOf l number pre).length ≤ 6 := by rw [Tw.pathOf_len]; omega
        have hpl := inC_len (Tw.pathOf l number pre)
        have hul := idC_len pre
        clear hR hto hcell hP hU rt hPA hUA h5
        generalize Tw.toOf l x = to at *
        generalize Tw.pathOf l number pre = P at *
        gi_wp2_with fail
        refine ⟨trivial, ((callsIn_wide.2 hCn).inRound _).mono ?_⟩
        rintro _ W3 ⟨rfl, hb3⟩
        replace bl := bl.trans (hb3.mono bl.size)
        replace bm := bm.call hb3
        replace bm2 := bm2.call hb3
        replace bn : w2.heap.size + 4 < W3.heap.size := Nat.lt_of_lt_of_le bn hb3.size
        replace hQ1 := hQ1.call hb3
        replace BL' := BL'.call hb3
        replace BR' := BR'.call hb3
        replace BE' := BE'.call hb3
        have hF1 := FrN.below (B := w7.heap.size) hb3
        have hv1 : W3.heap[w2.heap.size + 4]? = W.heap[w2.heap.size + 4]? := hb3.block _ hvlt
        replace hP9 := stab_rowZ _ _ _ _ _ _ _ _ hP9 hb3
        replace hU1 := stab_rowZ _ _ _ _ _ _ _ _ hU1 hb3
        have hnp := hP9.notBlk hQ1 (by decide)
        have hnu := hU1.notBlk hQ1 (by decide)
        have hnp2 := hP9.notBlk bm (by decide)
        have hnu2 := hU1.notBlk bm (by decide)
        have hnp3 := hP9.notBlk bm2 (by decide)
        have hnu3 := hU1.notBlk bm2 (by decide)
        have hpB : ∀ g, Blk (.slice Ap P.length cp) g → g < W3.heap.size := fun g hg => hP9.blk hg
        have huB : ∀ g, Blk (.slice Au pre.length cu) g → g < W3.heap.size := fun g hg => hU1.blk hg
        have hXP : RowX 3 w2.heap.size P.length (w2.heap.size + 4) (P.flatMap inC) (.slice Ap P.length cp) W3 := ⟨hP9, hpx, hpl⟩
        have hXU : RowX 3 w2.heap.size pre.length (w2.heap.size + 4) (pre.flatMap idC) (.slice Au pre.length cu) W3 := ⟨hU1, hux, hul⟩
        clear hb3 hCn q0 q1 q2 l0 e2 t5 BL' hP9 hU1
        obtain ⟨met, hmt⟩ := exKx (decide (to ∈ P))
        rw [hmt.out]
        obtain ⟨ti, tz, hti, hzz, hs1, hz1, hby⟩ := intI
        have hsl : Tryz.prog.underlying 43 = some (.slice 3) := Tryz.underlying43
        have hrf : ∀ w3, (K2 w2.heap.size 3 (.slice Ap P.length cp) (.slice Au pre.length cu) P.length pre.length (.int .i64 to) (.int .i64 x)) w3 w3 := (cls_K2 _ _ _ _ _ _ _ _).1
        have hSW : w2.heap.size ≤ W3.heap.size := bl.size
        gi_wp2_with fail
        refine wpIn_region_rs (cls_K2 w2.heap.size 3 (.slice Ap P.length cp) (.slice Au pre.length cu) P.length pre.length (.int .i64 to) (.int .i64 x)) [(9, 4)] [RS.Eqv (.pointer (some ⟨w2.heap.size + 1 + 1, 1, none⟩)), RS.Eqv (.slice Ap P.length cp), RS.Eqv (.int .i64 to), SlO w2.heap.size 3 (.int .i64 to) (.slice Ap P.length cp) (.slice Au pre.length cu), RP 3 w2.heap.size (P.length + 1) (w2.heap.size + 4) (P.flatMap inC ++ [.int .i64 to]) (.slice Au pre.length cu), RS.Eqv (.pointer (some ⟨w2.heap.size + 1 + 1, 2, none⟩)), RS.Eqv (.slice Au pre.length cu), RS.Eqv (.int .i64 x), SlO w2.heap.size 3 (.int .i64 x) (.slice Ap P.length cp) (.slice Au pre.length cu), RU 3 w2.heap.size (pre.length + 1) (w2.heap.size + 4) (pre.flatMap idC ++ [.int .i64 x]) (.slice Ap P.length cp), RS.Eqv (.pointer (some ⟨w2.heap.size + 1 + 1, 1, none⟩))] 11 85 (by kernel_rfl) (by kernel_rfl) rfl rfl (by kernel_rfl) (by kernel_rfl) ?_ ?_ ?_
        · simp only [RS.AllS]
          exact ⟨RS.stab_eqv _, RS.stab_eqv _, RS.stab_eqv _, stab_SlO, stab_RP hpl, RS.stab_eqv _, RS.stab_eqv _, RS.stab_eqv _, stab_SlO, stab_RU hul, RS.stab_eqv _, trivial⟩
        · simp only [RS.UsersG, List.take, List.length]
          refine ⟨?_, ?_, ?_, ?_, ?_, ?_, ?_, ?_, ?_, ?_, ?_, trivial⟩
          all_goals (intro vs w3 hb2 hd; simp only [RS.putD, Act.put, List.nil_append, List.cons_append, List.setIfInBounds_toArray, List.set_cons_succ, List.set_cons_zero, Nat.reduceAdd])
          · clear hd hpl hul hXP hXU hpB huB hnp hnu hap hti hzz hs1 hz1 hby hsl hmet hgo hpn hmt bm bm2 BR' BE' hQ1 hnp2 hnu2 hnp3 hnu3 hpx hux
            skip
            go_wp2
            first | exact ⟨hrf w3, rfl⟩ | exact rfl | exact hrf w3 | (simp [RS.Eqv]; done)
          · have e0 := hd 0 rfl; change vs 0 = _ at e0; have q9 := (show Bx w3 (w2.heap.size + 1 + 1) _ _ from hb2.oth _ _ hQ1 hnp hnu).cell 1 rfl; clear hd hpl hul hXP hXU hpB huB hnp hnu hap hti hzz hs1 hz1 hby hsl hmet hgo hpn hmt bm bm2 BR' BE' hQ1 hnp2 hnu2 hnp3 hnu3 hpx hux
            rw [e0]
            go_wp2
            first | exact ⟨hrf w3, rfl⟩ | exact rfl | exact hrf w3 | (simp [RS.Eqv]; done)
          · clear hd hpl hul hXP hXU hpB huB hnp hnu hap hti hzz hs1 hz1 hby hsl hmet hgo hpn hmt bm bm2 BR' BE' hQ1 hnp2 hnu2 hnp3 hnu3 hpx hux
            skip
            go_wp2
            first | exact ⟨hrf w3, rfl⟩ | exact rfl | exact hrf w3 | (simp [RS.Eqv]; done)
          · have e2 := hd 2 rfl; change vs 2 = _ at e2
            have hS := K2.slice (y := (.int .i64 to)) (q := undef) hb2 hSW hpB huB
            clear hd hpl hul hXP hXU hpB huB hnp hnu hap hti hzz hs1 hz1 hby hsl hmet hgo hpn hmt bm bm2 BR' BE' hQ1 hnp2 hnu2 hnp3 hnu3 hpx hux
            rw [e2]
            go_wp2
            first | exact hS | exact ⟨hS.1, hS.2⟩ | exact hS.2
          · have e1 := hd 1 rfl; change vs 1 = _ at e1
            have hS : SlO w2.heap.size 3 (.int .i64 to) (.slice Ap P.length cp) (.slice Au pre.length cu) undef (vs 3) w3 := hd 3 rfl
            have hsrc := SlO.src (P := Tryz.prog) (t := 43) rfl hsl hS
            obtain ⟨v9, w9, hr9, f1, f2⟩ := K2.appP (P := Tryz.prog) (t := 43) (ty := 43) (q := undef) hsl hti hzz hs1 hz1 hby hb2 hSW hXP hap huB bn hsrc (by omega)
            clear hd hS hsrc hpl hul hXP hXU hpB huB hnp hnu hap hti hzz hs1 hz1 hby hsl hmet hgo hpn hmt bm bm2 BR' BE' hQ1 hnp2 hnu2 hnp3 hnu3 hpx hux
            rw [e1]
            refine wpList_ap rfl (.tmp 57) (.tmp 59) 43 rfl _ _ v9 rfl rfl hr9 ?_
            exact ⟨rfl, rfl, f1, f2⟩
          · clear hd hpl hul hXP hXU hpB huB hnp hnu hap hti hzz hs1 hz1 hby hsl hmet hgo hpn hmt bm bm2 BR' BE' hQ1 hnp2 hnu2 hnp3 hnu3 hpx hux
            skip
            go_wp2
            first | exact ⟨hrf w3, rfl⟩ | exact rfl | exact hrf w3 | (simp [RS.Eqv]; done)
          · have e5 := hd 5 rfl; change vs 5 = _ at e5; have q9 := (show Bx w3 (w2.heap.size + 1 + 1) _ _ from hb2.oth _ _ hQ1 hnp hnu).cell 2 rfl; clear hd hpl hul hXP hXU hpB huB hnp hnu hap hti hzz hs1 hz1 hby hsl hmet hgo hpn hmt bm bm2 BR' BE' hQ1 hnp2 hnu2 hnp3 hnu3 hpx hux
            rw [e5]
            go_wp2
            first | exact ⟨hrf w3, rfl⟩ | exact rfl | exact hrf w3 | (simp [RS.Eqv]; done)
          · clear hd hpl hul hXP hXU hpB huB hnp hnu hap hti hzz hs1 hz1 hby hsl hmet hgo hpn hmt bm bm2 BR' BE' hQ1 hnp2 hnu2 hnp3 hnu3 hpx hux
            skip
            go_wp2
            first | exact ⟨hrf w3, rfl⟩ | exact rfl | exact hrf w3 | (simp [RS.Eqv]; done)
          · have e7 := hd 7 rfl; change vs 7 = _ at e7
            have hS := K2.slice (y := (.int .i64 x)) (q := undef) hb2 hSW hpB huB
            clear hd hpl hul hXP hXU hpB huB hnp hnu hap hti hzz hs1 hz1 hby hsl hmet hgo hpn hmt bm bm2 BR' BE' hQ1 hnp2 hnu2 hnp3 hnu3 hpx hux
            rw [e7]
            go_wp2
            first | exact hS | exact ⟨hS.1, hS.2⟩ | exact hS.2
          · have e6 := hd 6 rfl; change vs 6 = _ at e6
            have hS : SlO w2.heap.size 3 (.int .i64 x) (.slice Ap P.length cp) (.slice Au pre.length cu) undef (vs 8) w3 := hd 8 rfl
            have h4 : RP 3 w2.heap.size (P.length + 1) (w2.heap.size + 4) (P.flatMap inC ++ [.int .i64 to]) (.slice Au pre.length cu) undef (vs 4) w3 := hd 4 rfl
            have hsrc := SlO.src (P := Tryz.prog) (t := 43) rfl hsl hS
            obtain ⟨v9, w9, hr9, f1, f2⟩ := K2.appU (P := Tryz.prog) (t := 43) (ty := 43) hsl hti hzz hs1 hz1 hby hb2 hSW hXU hap hpB bn h4 hsrc (by omega)
            clear hd hS hsrc h4 hpl hul hXP hXU hpB huB hnp hnu hap hti hzz hs1 hz1 hby hsl hmet hgo hpn hmt bm bm2 BR' BE' hQ1 hnp2 hnu2 hnp3 hnu3 hpx hux
            rw [e6]
            refine wpList_ap rfl (.tmp 62) (.tmp 64) 43 rfl _ _ v9 rfl rfl hr9 ?_
            exact ⟨rfl, rfl, f1, f2⟩
          · clear hd hpl hul hXP hXU hpB huB hnp hnu hap hti hzz hs1 hz1 hby hsl hmet hgo hpn hmt bm bm2 BR' BE' hQ1 hnp2 hnu2 hnp3 hnu3 hpx hux
            skip
            go_wp2
            first | exact ⟨hrf w3, rfl⟩ | exact rfl | exact hrf w3 | (simp [RS.Eqv]; done)
        · intro vs wa hba hR2
          simp only [RS.AllR, RS.Eqv] at hR2
          obtain ⟨e0, e1, e2, -, h4, e5, e6, e7, -, h9, e10, -⟩ := hR2
          replace h4 : RP 3 w2.heap.size (P.length + 1) (w2.heap.size + 4) (P.flatMap inC ++ [.int .i64 to]) (.slice Au pre.length cu) undef (vs 4) wa := h4
          replace h9 : RU 3 w2.heap.size (pre.length + 1) (w2.heap.size + 4) (pre.flatMap idC ++ [.int .i64 x]) (.slice Ap P.length cp) (vs 4) (vs 9) wa := h9
          simp only [List.drop, List.take, List.map, RS.putD, Act.put, List.setIfInBounds_toArray, List.set_cons_succ, List.set_cons_zero, Nat.reduceAdd]
          rw [e0, e1, e2, e5, e6, e7, e10]
          clear e0 e1 e2 e5 e6 e7 e10
          obtain ⟨g4, k4, e4, hx4⟩ := h4.shp
          obtain ⟨g9, k9, e9, hx9⟩ := h9.1.shp
          have hap9 : g9 ≠ g4 := fun hh => h9.2 g9 ⟨_, _, e9⟩ ⟨_, _, hh ▸ e4⟩
          have h4r := h4.row
          have h9r := h9.1.row
          rw [e4] at h4r ⊢
          rw [e9] at h9r ⊢
          have bla := bl.trans hba.bl
          have Q4 : Bx wa (w2.heap.size + 1 + 1) 45 #[.int .i64 0, .slice Ap P.length cp, .slice Au pre.length cu] := hba.oth _ _ hQ1 hnp hnu
          have bma : Bx wa w2.heap.size 95 _ := hba.oth _ _ bm hnp2 hnu2
          have bm2a : Bx wa (w2.heap.size + 3) 95 _ := hba.oth _ _ bm2 hnp3 hnu3
          have BRa := BR'.below hba.bl (by omega)
          have BEa := BE'.below hba.bl (by omega)
          have hva : wa.heap[w2.heap.size + 4]? = W3.heap[w2.heap.size + 4]? := by
            have ho := Array.getElem?_eq_getElem bn
            rw [ho]; exact hba.oth _ _ ho hpx hux
          have hFa : FrN w7.heap.size W3 wa := ⟨hba.size, fun k o _ ho hc => hba.recd hXP.1 hXU.1 k o ho hc⟩
          have Q5 := Q4.set 1 (.slice (some ⟨g4, 0, none⟩) (P.length + 1) k4)
          have Q6 := Q5.set 2 (.slice (some ⟨g9, 0, none⟩) (pre.length + 1) k9)
          have q0 := Q4.cell 0 rfl
          have q1 := Q4.cell 1 rfl
          have q2 := Q4.cell 2 rfl
          have f1 := Q4.frozen 1
          have f2 := Q4.frozen 2
          have h4b := (h4r.other (i := 1) (u := .slice (some ⟨g4, 0, none⟩) (P.length + 1) k4) Q4 (by decide)).other (i := 2) (u := .slice (some ⟨g9, 0, none⟩) (pre.length + 1) k9) Q5 (by decide)
          have h9b := (h9r.other (i := 1) (u := .slice (some ⟨g4, 0, none⟩) (P.length + 1) k4) Q4 (by decide)).other (i := 2) (u := .slice (some ⟨g9, 0, none⟩) (pre.length + 1) k9) Q5 (by decide)
          have hsb := (bla.setCell (p := ⟨w2.heap.size + 1 + 1, 1, none⟩) (by show _ ≤ w2.heap.size + 1 + 1; omega) (.slice (some ⟨g4, 0, none⟩) (P.length + 1) k4)).setCell (p := ⟨w2.heap.size + 1 + 1, 2, none⟩) (by show _ ≤ w2.heap.size + 1 + 1; omega) (.slice (some ⟨g9, 0, none⟩) (pre.length + 1) k9)
          have hFb := ((hF1.trans hFa).trans (FrN.set (i := 1) (u := .slice (some ⟨g4, 0, none⟩) (P.length + 1) k4) Q4)).trans (FrN.set (i := 2) (u := .slice (some ⟨g9, 0, none⟩) (pre.length + 1) k9) Q5)
          have hvb : ((wa.setCell ⟨w2.heap.size + 1 + 1, 1, none⟩ (.slice (some ⟨g4, 0, none⟩) (P.length + 1) k4)).setCell ⟨w2.heap.size + 1 + 1, 2, none⟩ (.slice (some ⟨g9, 0, none⟩) (pre.length + 1) k9)).heap[w2.heap.size + 4]? = W.heap[w2.heap.size + 4]? :=
            ((Below.heap_setCell _ ⟨w2.heap.size + 1 + 1, 2, none⟩ _ _ (by show w2.heap.size + 4 ≠ w2.heap.size + 1 + 1; omega)).trans ((Below.heap_setCell _ ⟨w2.heap.size + 1 + 1, 1, none⟩ _ _ (by show w2.heap.size + 4 ≠ w2.heap.size + 1 + 1; omega)).trans hva)).trans hv1
          have bmb := (bma.far (p := ⟨w2.heap.size + 1 + 1, 1, none⟩) (by show w2.heap.size ≠ w2.heap.size + 1 + 1; omega) (.slice (some ⟨g4, 0, none⟩) (P.length + 1) k4)).far (p := ⟨w2.heap.size + 1 + 1, 2, none⟩) (by show w2.heap.size ≠ w2.heap.size + 1 + 1; omega) (.slice (some ⟨g9, 0, none⟩) (pre.length + 1) k9)
          have bm2b := (bm2a.far (p := ⟨w2.heap.size + 1 + 1, 1, none⟩) (by show w2.heap.size + 3 ≠ w2.heap.size + 1 + 1; omega) (.slice (some ⟨g4, 0, none⟩) (P.length + 1) k4)).far (p := ⟨w2.heap.size + 1 + 1, 2, none⟩) (by show w2.heap.size + 3 ≠ w2.heap.size + 1 + 1; omega) (.slice (some ⟨g9, 0, none⟩) (pre.length + 1) k9)
          have BRb := (BRa.far (p := ⟨w2.heap.size + 1 + 1, 1, none⟩) (by show w.heap.size + 1 ≠ w2.heap.size + 1 + 1; omega) (.slice (some ⟨g4, 0, none⟩) (P.length + 1) k4)).far (p := ⟨w2.heap.size + 1 + 1, 2, none⟩) (by show w.heap.size + 1 ≠ w2.heap.size + 1 + 1; omega) (.slice (some ⟨g9, 0, none⟩) (pre.length + 1) k9)
          have BEb := (BEa.far (p := ⟨w2.heap.size + 1 + 1, 1, none⟩) (by show w.heap.size + 1 + 1 ≠ w2.heap.size + 1 + 1; omega) (.slice (some ⟨g4, 0, none⟩) (P.length + 1) k4)).far (p := ⟨w2.heap.size + 1 + 1, 2, none⟩) (by show w.heap.size + 1 + 1 ≠ w2.heap.size + 1 + 1; omega) (.slice (some ⟨g9, 0, none⟩) (pre.length + 1) k9)
          have hszb : w2.heap.size + 4 < ((wa.setCell ⟨w2.heap.size + 1 + 1, 1, none⟩ (.slice (some ⟨g4, 0, none⟩) (P.length + 1) k4)).setCell ⟨w2.heap.size + 1 + 1, 2, none⟩ (.slice (some ⟨g9, 0, none⟩) (pre.length + 1) k9)).heap.size := by
            rw [World.size_setCell, World.size_setCell]; exact Nat.lt_of_lt_of_le bn hba.size
          clear hba h4 h9 e4 e9 hQ1 Q4 Q5 bm bm2 bma bm2a BRa BEa BR' BE' hnp hnu hnp2 hnu2 hnp3 hnu3 hpx hux hXP hXU hpB huB hap hF1 hFa hva hv1 h4r h9r bla
          go_wp2_with fail
          clear q0 q1 q2 f1 f2
          generalize (wa.setCell ⟨w2.heap.size + 1 + 1, 1, none⟩ (.slice (some ⟨g4, 0, none⟩) (P.length + 1) k4)).setCell ⟨w2.heap.size + 1 + 1, 2, none⟩ (.slice (some ⟨g9, 0, none⟩) (pre.length + 1) k9) = wb at *
          have h4c : RowZ 3 1 w2.heap.size (P ++ [to]).length ((P ++ [to]).flatMap inC) (.slice (some ⟨g4, 0, none⟩) (P.length + 1) k4) wb := by
            rw [List.length_append, List.length_singleton, List.flatMap_append]; exact h4b
          have h9c : RowZ 3 1 w2.heap.size (pre ++ [x]).length ((pre ++ [x]).flatMap idC) (.slice (some ⟨g9, 0, none⟩) (pre.length + 1) k9) wb := by
            rw [List.length_append, List.length_singleton, List.flatMap_append]; exact h9b
          clear h4b h9b
          cases met
          · have hRt := hgo.out (of_decide_eq_false hmt.out)
            have hIn : Kp (RvI l c t number (some ⟨b, off, none⟩) cap b1 b2 w2 w2.heap.size (pre ++ [x]) wb) := by
              refine ⟨hsb, bmb, bm2b, hszb, ⟨_, _, Q6, ⟨?_, fun hh => hx4 (hh.one (Blk.mk _ _ _)).symm, ?_⟩, ⟨h9c, fun hh => hx9 (hh.one (Blk.mk _ _ _)).symm, idC_len _⟩, fun g hg hg2 => hap9 ?_⟩, hRt⟩
              · rw [hpn.out.1, show (pre ++ [x]).length + 1 = (P ++ [to]).length by have := hpn.out; simp; omega]; exact h4c
              · rw [hpn.out.1, inC_len]; have := hpn.out; simp; omega
              · exact (Blk.one (Blk.mk g9 _ _) hg2).trans (Blk.one hg (Blk.mk g4 _ _))
            clear hRt hgo hmet hpn h4c h9c hsb bmb bm2b hszb Q6 BRb BEb
            gi_wp2_with fail
            exact ⟨hFb, hIn.out, hvb⟩
          · have hrK := Kp.mk (hmet.out (of_decide_eq_true hmt.out))
            have QK := Q6.set 0 (.int .i64 5)
            have k0 := QK.cell 0 rfl
            have k1 := QK.cell 1 rfl
            have k2 := QK.cell 2 rfl
            have qf := Q6.frozen 0
            have q0 := Q6.cell 0 rfl
            have RK := BRb.far (p := ⟨w2.heap.size + 1 + 1, 0, none⟩) (by show w.heap.size + 1 ≠ w2.heap.size + 1 + 1; omega) (.int .i64 5)
            have EK := BEb.far (p := ⟨w2.heap.size + 1 + 1, 0, none⟩) (by show w.heap.size + 1 + 1 ≠ w2.heap.size + 1 + 1; omega) (.int .i64 5)
            have f0 := RK.frozen 0
            have f1 := RK.frozen 1
            have f2 := RK.frozen 2
            have f3 := EK.frozen 0
            have r0 := RK.cell 0 rfl
            have r1 := RK.cell 1 rfl
            have r2 := RK.cell 2 rfl
            have r3 := EK.cell 0 rfl
            have hbk : Below w.heap.size w (wb.setCell ⟨w2.heap.size + 1 + 1, 0, none⟩ (.int .i64 5)) := bSet (bCall hb hsb) (p := ⟨w2.heap.size + 1 + 1, 0, none⟩) (by show _ ≤ w2.heap.size + 1 + 1; omega) _
            have hF := fin_X (r := r) (B := w2.heap.size) (B' := w7.heap.size) (xs := pre ++ [x]) RK EK (by omega) hbk (by omega) (by omega) (by rw [hrK.out]; exact h4c.other Q6 (by decide)) (by rw [hrK.out]; exact h9c.other Q6 (by decide))
            have hF2 := FrN.set (B := w7.heap.size) (i := 0) (u := .int .i64 5) Q6
            have hk5 : r.kind = 5 := by rw [hrK.out]
            rw [hk5] at hF
            clear hrK hgo hmet hpn h4c h9c hsb bmb bm2b hszb BRb BEb hbk hvb
            gi_wp2_with fail
            exact ⟨(hFb.trans hF2).trans hF.1, hF.2⟩
    case done =>
      rintro D xs W hD hS ⟨bl, bm, bm2, bn, ⟨vp, vu, BQ, hP, hU, hap⟩, rt⟩ hk
      have hrK := Kp.mk (hr.out.symm.trans (rt.none hS))
      have BR' := BR.below bl BR.lt
      have BE' := BE.below bl BE.lt
      have hM' := hM.below bl hM.lt.1 hM.lt.2
      have hlen := rt.len
      obtain ⟨Ap, cp, rfl, hPA, hPc, hPm⟩ := RowZ.at (p := Tw.pathOf l number xs) (f := inC) (fun _ => rfl) (by rw [Tw.pathOf_len]; exact hP.1)
      obtain ⟨Au, cu, rfl, hUA, hUc, hUm⟩ := RowZ.at (p := xs) (f := idC) (fun _ => rfl) hU.1
      obtain ⟨b, off, rfl, hbB, hcell⟩ := hPA.run (Nat.le_refl _) (i := xs.length) (by rw [Tw.pathOf_len]; omega)
      have hlast := Tw.pathOf_last l number xs
      have hge : (Tw.pathOf l number xs)[xs.length]'(by rw [Tw.pathOf_len]; omega) = Tw.cur l number xs := (List.getElem?_eq_some_iff.1 hlast).2
      have hcur6 : I6 (Tw.cur l number xs) := by
        rcases List.eq_nil_or_concat xs with rfl | ⟨ys, y, rfl⟩
        · exact ⟨by show _ ≤ number; omega, by show number ≤ _; omega⟩
        · rw [List.concat_eq_append, Tw.cur_snoc]
          unfold Tw.toOf
          cases hy : l[y]? with
          | none => exact ⟨by show _ ≤ (0 : Int); decide, by show (0 : Int) ≤ _; decide⟩
          | some q =>
            have hq := hv.fm q (List.mem_of_getElem? hy)
            have h1 := hq.t0
            have h2 := hq.t2
            exact ⟨by show _ ≤ q.to; omega, by show q.to ≤ _; omega⟩
      have L0 := fun d os => (hM'.call (below_regrown W d os)).lookC hcur6
      have P0 := fun d os => hcell (Sort.grow (redrawn W d) os) (below_regrown W d os) 0 _ rfl
      simp only [hge] at P0
      simp only [Nat.add_zero, Nat.mul_one] at P0
      have hQ1 : Bx W (w2.heap.size + 1 + 1) 45 #[.int .i64 0, .slice (some ⟨b, off, none⟩) (xs.length + 1) cp, .slice Au xs.length cu] := by
        rw [← Tw.pathOf_len l number xs]; exact BQ
      have c1 := fun d os => (hQ1.again d os).cell 1 rfl
      have d2 := fun d os => (bm.again d os).cell 2 rfl
      have hkd : Kp (r.kind = max ((Tw.condF c (Tw.cur l number xs)).getD 0) 1 ∧ r.path = Tw.pathOf l number xs ∧ r.used = xs) := ⟨by rw [hrK.out]; exact ⟨by rw [Tw.cond_F], rfl, rfl⟩⟩
      have h3 : RowZ 3 1 w2.heap.size r.path.length (r.path.flatMap inC) (.slice (some ⟨b, off, none⟩) (xs.length + 1) cp) W := by
        rw [hkd.out.2.1]
        have := hP.1
        rw [Tw.pathOf_len] at this ⊢; exact this
      have h4 : RowZ 3 1 w2.heap.size r.used.length (r.used.flatMap idC) (.slice Au xs.length cu) W := by
        rw [hkd.out.2.2]; exact hU.1
      have hci := cond_i6 hc (Tw.cur l number xs)
      have hMk := (Marks.nil w7.heap.size w7.heap.size W).push hD (Nat.le_refl _) hk
      clear hcell hP hU hap rt hS hrK hge hlast hPA hUA hM' hseq BN BM BP bm2 bn BM2
      generalize (Tw.condF c (Tw.cur l number xs)).getD 0 = cc at *
      generalize Tw.cur l number xs = cu0 at *
      rcases Int.lt_or_le cc 1 with hc1 | hc1
      · have hkr : Kp (r.kind = 1 ) := ⟨by rw [hkd.out.1]; omega⟩
        go_wp2_with fail
        refine wp_region_below_tail 13 (by kernel_rfl) (by kernel_rfl) ?_
        simp only [List.take]
        repeat (go_big_quiet_step (fail))
        refine wpQuiet_nil ?_
        rintro _ ⟨q, rfl⟩
        have hbo := below_regrown W q.d q.os
        replace hQ1 := hQ1.call hbo
        replace BR' := BR'.call hbo
        replace BE' := BE'.call hbo
        replace h3 := stab_rowZ _ _ _ _ _ _ _ _ h3 hbo
        replace h4 := stab_rowZ _ _ _ _ _ _ _ _ h4 hbo
        replace bl := bl.trans (hbo.mono bl.size)
        have hMk2 := (hMk.below hbo).more hbo.size
        clear L0 P0 c1 d2 hMk hbo bm hk
        generalize Sort.grow (redrawn W q.d) q.os = Wq at *
        have QK := hQ1.set 0 (.int .i64 1)
        have k0 := QK.cell 0 rfl
        have k1 := QK.cell 1 rfl
        have k2 := QK.cell 2 rfl
        have qf := hQ1.frozen 0
        have q0 := hQ1.cell 0 rfl
        have q1 := hQ1.cell 1 rfl
        have q2 := hQ1.cell 2 rfl
        have RK := BR'.far (p := ⟨w2.heap.size + 1 + 1, 0, none⟩) (by show w.heap.size + 1 ≠ w2.heap.size + 1 + 1; omega) (.int .i64 1)
        have EK := BE'.far (p := ⟨w2.heap.size + 1 + 1, 0, none⟩) (by show w.heap.size + 1 + 1 ≠ w2.heap.size + 1 + 1; omega) (.int .i64 1)
        have f0 := RK.frozen 0
        have f1 := RK.frozen 1
        have f2 := RK.frozen 2
        have f3 := EK.frozen 0
        have r0 := RK.cell 0 rfl
        have r1 := RK.cell 1 rfl
        have r2 := RK.cell 2 rfl
        have r3 := EK.cell 0 rfl
        have hbk : Below w.heap.size w (Wq.setCell ⟨w2.heap.size + 1 + 1, 0, none⟩ (.int .i64 1)) := bSet (bCall hb bl) (p := ⟨w2.heap.size + 1 + 1, 0, none⟩) (by show _ ≤ w2.heap.size + 1 + 1; omega) _
        have hF := (fin_X (r := r) (B := w2.heap.size) (B' := w7.heap.size) (xs := xs) RK EK (by omega) hbk (by omega) (by omega) (h3.other hQ1 (by decide)) (h4.other hQ1 (by decide))).2
        have R0 := RK.set 0 (.int .i64 1)
        have R1 := R0.set 1 (.slice (some ⟨b, off, none⟩) (xs.length + 1) cp)
        have E2 := ((EK.far (p := ⟨w.heap.size + 1, 0, none⟩) (by show w.heap.size + 1 + 1 ≠ w.heap.size + 1; omega) (.int .i64 1)).far (p := ⟨w.heap.size + 1, 1, none⟩) (by show w.heap.size + 1 + 1 ≠ w.heap.size + 1; omega) (.slice (some ⟨b, off, none⟩) (xs.length + 1) cp)).far (p := ⟨w.heap.size + 1, 2, none⟩) (by show w.heap.size + 1 + 1 ≠ w.heap.size + 1; omega) (.slice Au xs.length cu)
        have M5 := ((((hMk2.set hQ1 0 (.int .i64 1)).set RK 0 (.int .i64 1)).set R0 1 (.slice (some ⟨b, off, none⟩) (xs.length + 1) cp)).set R1 2 (.slice Au xs.length cu)).set E2 0 (.int .i64 0)
        rw [hkr.out] at hF
        clear hkd hkr R0 R1 E2 h3 h4 hbk bl hMk2 RK EK
        simp only [List.drop]
        go_wp2_with fail
        obtain ⟨-, hbl, vp', vu', k1', k2', k3', k4'⟩ := hF
        exact M5.leave fun W' hb' hB' => ⟨_, results_R2 rfl _ _ rfl rfl (hB' _ _ _ k1') (hB' _ _ _ k2'), _, rfl, hbl.trans (hb'.mono (by omega)), RoT.of (k3'.bxs hB') (k4'.bxs hB')⟩
      · have hkr : Kp (r.kind = cc ) := ⟨by rw [hkd.out.1]; omega⟩
        replace hc1 : ¬ cc < 1 := by omega
        go_wp2_with fail
        refine wp_region_below_tail 13 (by kernel_rfl) (by kernel_rfl) ?_
        simp only [List.take]
        repeat (go_big_quiet_step (fail))
        refine wpQuiet_nil ?_
        rintro _ ⟨q, rfl⟩
        have hbo := below_regrown W q.d q.os
        replace hQ1 := hQ1.call hbo
        replace BR' := BR'.call hbo
        replace BE' := BE'.call hbo
        replace h3 := stab_rowZ _ _ _ _ _ _ _ _ h3 hbo
        replace h4 := stab_rowZ _ _ _ _ _ _ _ _ h4 hbo
        replace bl := bl.trans (hbo.mono bl.size)
        have hMk2 := (hMk.below hbo).more hbo.size
        clear L0 P0 c1 d2 hMk hbo bm hk
        generalize Sort.grow (redrawn W q.d) q.os = Wq at *
        have QK := hQ1.set 0 (.int .i64 cc)
        have k0 := QK.cell 0 rfl
        have k1 := QK.cell 1 rfl
        have k2 := QK.cell 2 rfl
        have qf := hQ1.frozen 0
        have q0 := hQ1.cell 0 rfl
        have q1 := hQ1.cell 1 rfl
        have q2 := hQ1.cell 2 rfl
        have RK := BR'.far (p := ⟨w2.heap.size + 1 + 1, 0, none⟩) (by show w.heap.size + 1 ≠ w2.heap.size + 1 + 1; omega) (.int .i64 cc)
        have EK := BE'.far (p := ⟨w2.heap.size + 1 + 1, 0, none⟩) (by show w.heap.size + 1 + 1 ≠ w2.heap.size + 1 + 1; omega) (.int .i64 cc)
        have f0 := RK.frozen 0
        have f1 := RK.frozen 1
        have f2 := RK.frozen 2
        have f3 := EK.frozen 0
        have r0 := RK.cell 0 rfl
        have r1 := RK.cell 1 rfl
        have r2 := RK.cell 2 rfl
        have r3 := EK.cell 0 rfl
        have hbk : Below w.heap.size w (Wq.setCell ⟨w2.heap.size + 1 + 1, 0, none⟩ (.int .i64 cc)) := bSet (bCall hb bl) (p := ⟨w2.heap.size + 1 + 1, 0, none⟩) (by show _ ≤ w2.heap.size + 1 + 1; omega) _
        have hF := (fin_X (r := r) (B := w2.heap.size) (B' := w7.heap.size) (xs := xs) RK EK (by omega) hbk (by omega) (by omega) (h3.other hQ1 (by decide)) (h4.other hQ1 (by decide))).2
        have R0 := RK.set 0 (.int .i64 cc)
        have R1 := R0.set 1 (.slice (some ⟨b, off, none⟩) (xs.length + 1) cp)
        have E2 := ((EK.far (p := ⟨w.heap.size + 1, 0, none⟩) (by show w.heap.size + 1 + 1 ≠ w.heap.size + 1; omega) (.int .i64 cc)).far (p := ⟨w.heap.size + 1, 1, none⟩) (by show w.heap.size + 1 + 1 ≠ w.heap.size + 1; omega) (.slice (some ⟨b, off, none⟩) (xs.length + 1) cp)).far (p := ⟨w.heap.size + 1, 2, none⟩) (by show w.heap.size + 1 + 1 ≠ w.heap.size + 1; omega) (.slice Au xs.length cu)
        have M5 := ((((hMk2.set hQ1 0 (.int .i64 cc)).set RK 0 (.int .i64 cc)).set R0 1 (.slice (some ⟨b, off, none⟩) (xs.length + 1) cp)).set R1 2 (.slice Au xs.length cu)).set E2 0 (.int .i64 0)
        rw [hkr.out] at hF
        clear hkd hkr R0 R1 E2 h3 h4 hbk bl hMk2 RK EK
        simp only [List.drop]
        go_wp2_with fail
        obtain ⟨-, hbl, vp', vu', k1', k2', k3', k4'⟩ := hF
        exact M5.leave fun W' hb' hB' => ⟨_, results_R2 rfl _ _ rfl rfl (hB' _ _ _ k1') (hB' _ _ _ k2'), _, rfl, hbl.trans (hb'.mono (by omega)), RoT.of (k3'.bxs hB') (k4'.bxs hB')⟩
    case stop =>
      rintro D cd pre W hD ⟨rfl, hbl, vp, vu, k1, k2, k3, k4⟩ hk
      have hMk := (Marks.nil w7.heap.size w7.heap.size W).push hD (Nat.le_refl _) hk
      clear hseq hz BN BM BP BM2 BL BR BE
      gi_wp2
      exact hMk.leave fun W' hb' hB' => ⟨_, results_R2 rfl _ _ rfl rfl (hB' _ _ _ k1) (hB' _ _ _ k2), _, rfl, hbl.trans (hb'.mono (by omega)), RoT.of (k3.bxs hB') (k4.bxs hB')⟩
  all_goals
    rw [e9, e10]
    rw [e1] at hV
    (try rw [e2] at hN)
    (try rw [e3] at hT)
    clear e9 e10 hA hC hA1 hC1 BL
    go_wp2_with fail
    refine hV.mono ?_
    rintro _ w1 ⟨rfl, hb1⟩
    replace BR := BR.call hb1
    replace BE := BE.call hb1
    replace hb := bCall hb hb1
    clear hb1 hV b0
    have f0 := BR.frozen 0
    have f1 := BR.frozen 1
    have f2 := BR.frozen 2
    have q0 := BR.cell 0 rfl
    have q1 := BR.cell 1 rfl
    have q2 := BR.cell 2 rfl
    have f3 := BE.frozen 0
    have q3 := BE.cell 0 rfl
    go_wp2_with (first | (go_at_call 44; refine (hN _).mono ?_; rintro _ w2 ⟨rfl, rfl⟩) | (go_at_call 45; refine (hT _).mono ?_; rintro _ w2 ⟨rfl, rfl⟩))
    obtain ⟨R3, E3, hb3⟩ := fin_R (.int .i64 0) (.slice none 0 0) (.slice none 0 0) (.int .i64 220) BR BE (by omega) hb (by omega) (by omega)
    exact ⟨_, results_R2 rfl _ _ rfl rfl R3 E3, _, rfl, hb3, roT_zero _⟩
theorem resolve_any (l : List Tw.St) (A : Option Addr) (cap : Nat) (c : List (Int × Int)) (C : Option Addr) (ccap : Nat) (number t : Int) (w : World) (hA : At 5 stC w w.heap.size A l) (hn : l.length ≤ cap) (hl : l.length ≤ 9223372036854775807) (hC : At 2 cdC w w.heap.size C c) (hcn : c.length ≤ ccap) (hcl : c.length ≤ 9223372036854775807) :
    Calls Tryz.prog 12 #[.slice A l.length cap, .slice C c.length ccap, .int .i64 number, .int .i64 t] w fun e w' => ∃ v, e = .returned (.tuple #[v, .int .i64 (resE l c number t)]) ∧ Below w.heap.size w w' ∧ RoA (resR l c number t) v w' :=
  (resolve_t l A cap c C ccap number t w hA hn hl hC hcn hcl).mono fun e w' ⟨v, h1, h2, h3⟩ => ⟨v, h1, h2, h3.a⟩
end Go.Proofs.YtlldlkjngcgcjaaGreatDoor
namespace Go.Proofs.YtlldlkjngcgcjaaGreatDoor
set_option linter.unusedVariables false
set_option linter.unusedSimpArgs false
open Go.RowKit
theorem wpList_ap2 {P : Program} {w w' : World} {ops : Array Oper} {rest : List Oper} {o : Oper} {a : Act} {Q : Exit → Act → World → Prop} (hgd : o.guard = none) (s y : Operand) (t u : TypeId) (ho : o.op = .call { callee := .builtin .append, args := #[s, y], argTypes := #[t, u] })
    (v x v' : Value) (hes : a.eval s = v) (hey : a.eval y = x) (hr : (Builtin.append_ #[t, u] o.type #[v, x]).run P w = .ok v' w') (h : wpList P ops Q rest (a.put o.dst v') w') : wpList P ops Q (o :: rest) a w := by
  refine wpList_plain hgd fun _ hK => ?_
  unfold Oper.wp execOp
  simp only [ho, resolve, invoke, builtin, Sem.run_bind, Sem.run_pure, Result.andThen_ok, List.map_toArray, List.map_cons, List.map_nil, hes, hey, hr]
  exact hK _ _ h
set_option maxRecDepth 100000 in
set_option maxHeartbeats 4000000 in
theorem grow_any (n : Nat) (w : World) (h1 : 0 < n) (h : n ≤ 100000) :
    Calls Tryz.prog 127 #[.slice none 0 0, .int .i64 n] w fun e w' => ∃ cap cs, e = .returned (.slice (some ⟨w.heap.size, 0, none⟩) 0 cap) ∧ w' = w.drew.alloc (.cells cs 3) ∧ cs.size = cap ∧ n ≤ cap ∧ cap ≤ maxLen := by
  obtain ⟨ti, tz, hti, hzz, hs1, hz1, hby⟩ := intI
  have hold : (Builtin.firstCells ti.size 0 (.slice none 0 0)).run Tryz.prog w.drew = .ok ([] : List Value).toArray w.drew := by simp [Builtin.firstCells, loadCells, loadCellsFrom]
  have hrz := fun ty => Lib.run_append_grow_zeros (P := Tryz.prog) w 43 3 ty 3 ti tz .i64 .i64 Tryz.underlying43 Tryz.underlying3 hti hzz none 0 0 [] hold n (by omega) (by omega) (by omega) (by omega) (by rw [hby]; omega) (growslice_fits (by omega) (by rw [hby]; omega))
  have hge := grownCap_ge w (0 + n) 0 3
  have hle := grownCap_le_maxLen w (0 + n) 0 3 (by unfold maxLen; omega)
  generalize grownCap w (0 + n) 0 3 = G at *
  have hcs : ((([] : List Value).toArray ++ Builtin.zeroCells tz.cells n ++ Builtin.zeroCells tz.cells (G - (0 + n)))).size = G := by
    simp only [Array.size_append, size_zeroCells, hz1]
    simp only [List.size_toArray, List.length_nil]
    omega
  generalize (([] : List Value).toArray ++ Builtin.zeroCells tz.cells n ++ Builtin.zeroCells tz.cells (G - (0 + n))) = cs at *
  have t0 : decide ((n : Int) < 0) = false := decide_eq_false (by omega)
  have t1 : decide ((0 : Int) < (n : Int)) = true := decide_eq_true (by omega)
  clear hti hzz hs1 hz1 hby hold
  simp only [Nat.zero_add] at *
  go_enter Tryz.func127, Tryz.ntmps127
  go_wp2_with (at_builtin; refine wpList_ap2 rfl (.tmp 20) (.tmp 21) 43 3 rfl _ _ _ rfl rfl (hrz _) ?_)
  go_ret
  exact ⟨G, cs, rfl, rfl, hcs, hge, hle⟩
set_option maxRecDepth 100000 in
set_option maxHeartbeats 8000000 in
theorem concat_any (a b : List Int) (A B : Option Addr) (ca cb g : Nat) (w : World) (hg : Bx w g 43 #[.slice A a.length ca, .slice B b.length cb]) (hA : At 1 inC w w.heap.size A a) (hB : At 1 inC w w.heap.size B b) (h1 : 0 < a.length + b.length) (h2 : a.length + b.length ≤ 1000) :
    Calls Tryz.prog 103 #[.slice (some ⟨g, 0, none⟩) 2 2] w fun e w' => ∃ v cap, e = .returned v ∧ Below w.heap.size w w' ∧ RowC 3 1 w.heap.size cap (a ++ b).length ((a ++ b).flatMap inC) v w' ∧ cap ≤ maxLen := by
  obtain ⟨ti, tz, hti, hzz, hs1, hz1, hby⟩ := intI
  go_enter Tryz.func103, Tryz.ntmps103
  go_wp2
  go_loopw [11, 3] (fun s11 s3 wr => ∃ k : Nat, k ≤ 2 ∧ s11 = .int .i64 k ∧ s3 = .int .i64 (if k = 0 then 0 else if k = 1 then a.length else a.length + b.length) ∧ Below w.heap.size w wr) (fun s11 _ _ => 2 - (intOf s11).toNat)
  case atStart => exact ⟨0, by omega, rfl, rfl, bStart _⟩
  case round =>
    obtain ⟨k, hk, rfl, rfl, hb⟩ := hrel
    have c0 := (hg.below hb hg.lt).cell 0 rfl
    have c1 := (hg.below hb hg.lt).cell 1 rfl
    rcases (show k = 0 ∨ k = 1 ∨ k = 2 by omega) with rfl | rfl | rfl
    · clear hA hB hg
      simp only [if_true]
      go_wp2
      exact ⟨⟨1, by omega, rfl, by first | rfl | simp, hb⟩, by simp [intOf]⟩
    · clear hA hB hg
      simp only [if_true, show ¬ (1 = 0) by decide, if_false]
      have t9 : decide (((a.length : Int) + (b.length : Int)) < 0) = false := decide_eq_false (by omega)
      go_wp2
      exact ⟨⟨2, by omega, rfl, by first | rfl | simp, hb⟩, by simp [intOf]⟩
    · simp only [show ¬ (2 = 0) by decide, show ¬ (2 = 1) by decide, if_false]
      clear c0 c1
      obtain ⟨n, hn⟩ : ∃ n : Nat, n = a.length + b.length := ⟨_, rfl⟩
      have hni : ((a.length : Int) + (b.length : Int)) = (n : Int) := by omega
      rw [hni]
      have hG := grow_any n wr (by omega) (by omega)
      have hnK := Kp.mk hn
      clear hn hni
      go_wp2_with fail
      refine hG.mono ?_
      rintro _ w3 ⟨cap, cs, rfl, rfl, hcs, hcap, hm⟩
      have hrow : RowC 3 1 w.heap.size cap 0 [] (.slice (some ⟨wr.heap.size, 0, none⟩) 0 cap) (wr.drew.alloc (.cells cs 3)) := ⟨_, cs, rfl, hb.size, Nat.zero_le _, Bx.mk wr.drew 3 cs, by rw [hcs, Nat.mul_one], rfl⟩
      have hb3 : Below w.heap.size w (wr.drew.alloc (.cells cs 3)) := (hb.drew).alloc hb.size _
      generalize wr.drew.alloc (.cells cs 3) = w4 at *
      generalize Value.slice (some ⟨wr.heap.size, 0, none⟩) 0 cap = v0 at *
      clear hG hcs hb
      go_wp2
      go_loopw [27, 6] (fun s27 s6 wr => ∃ (k : Nat) (cap : Nat), k ≤ 2 ∧ s27 = .int .i64 k ∧ cap ≤ maxLen ∧ Below w.heap.size w wr ∧ RowC 3 1 w.heap.size cap (if k = 0 then 0 else if k = 1 then a.length else a.length + b.length) (if k = 0 then [] else if k = 1 then a.flatMap inC else a.flatMap inC ++ b.flatMap inC) s6 wr) (fun s27 _ _ => 2 - (intOf s27).toNat)
      case atStart => exact ⟨0, cap, by omega, rfl, hm, hb3, hrow⟩
      case round =>
        clear hrow hb3 hm hcap
        obtain ⟨k, cap, hk, rfl, hm, hb, hrow⟩ := hrel
        have c0 := (hg.below hb hg.lt).cell 0 rfl
        have c1 := (hg.below hb hg.lt).cell 1 rfl
        have hA1 := (hA.below hb).more hb.size
        have hB1 := (hB.below hb).more hb.size
        rcases (show k = 0 ∨ k = 1 ∨ k = 2 by omega) with rfl | rfl | rfl
        · have hsrc := At.src (P := Tryz.prog) (e := 3) (t := 43) (f := inC) (fun _ => rfl) (fun c u hu => by simp only [inC, List.mem_singleton] at hu; rw [hu]; rfl) Tryz.underlying43 hA1 ca
          simp only [if_true] at hrow
          clear hA hB hg hA1 hB1
          go_wp2_with (at_builtin; refine wpList_append_row rfl (.tmp 31) (.tmp 32) 43 3 rfl ti tz 1 w.heap.size cap 0 a.length [] (a.flatMap inC) _ _ Tryz.underlying43 hti hzz hs1 hz1 rfl rfl hrow hb.size hsrc hm (by unfold maxLen; omega) (by rw [hby]; omega) ?_; intro v' w' cap' e1 e2 e3 e4; rw [Nat.zero_add, List.nil_append] at e3)
          exact ⟨⟨1, cap', by omega, rfl, e4, hb.trans e1, by simpa using e3⟩, by simp [intOf]⟩
        · have hsrc := At.src (P := Tryz.prog) (e := 3) (t := 43) (f := inC) (fun _ => rfl) (fun c u hu => by simp only [inC, List.mem_singleton] at hu; rw [hu]; rfl) Tryz.underlying43 hB1 cb
          simp only [if_true, show ¬ (1 = 0) by decide, if_false] at hrow
          clear hA hB hg hA1 hB1
          go_wp2_with (at_builtin; refine wpList_append_row rfl (.tmp 31) (.tmp 32) 43 3 rfl ti tz 1 w.heap.size cap a.length b.length (a.flatMap inC) (b.flatMap inC) _ _ Tryz.underlying43 hti hzz hs1 hz1 rfl rfl hrow hb.size hsrc hm (by unfold maxLen; omega) (by rw [hby]; omega) ?_; intro v' w' cap' e1 e2 e3 e4)
          exact ⟨⟨2, cap', by omega, rfl, e4, hb.trans e1, by simpa using e3⟩, by simp [intOf]⟩
        · simp only [show ¬ (2 = 0) by decide, show ¬ (2 = 1) by decide, if_false] at hrow
          have hrowK : Kp (RowC 3 1 w.heap.size cap (a ++ b).length ((a ++ b).flatMap inC) u6 wr) := ⟨by rw [List.length_append, List.flatMap_append]; exact hrow⟩
          clear hA hB hg hA1 hB1 c0 c1 hrow
          go_wp2
          go_ret
          exact ⟨_, cap, rfl, hb, hrowK.out, hm⟩
end Go.Proofs.YtlldlkjngcgcjaaGreatDoor
namespace Go.Proofs.YtlldlkjngcgcjaaGreatDoor
set_option linter.unusedVariables false
open Go.RowKit
section
variable {P : Program}
theorem any_quiet {os : List Oper} {a : Act} {w : World} {Q : Exit → Act → World → Prop} (hB : Region.lexB .any os.toArray = true)
    (h : wpQuiet P os.toArray (fun w' => ∃ p : Regrown, w' = Sort.grow (redrawn w p.d) p.os) (fun a' => ∀ w', (∃ p : Regrown, w' = Sort.grow (redrawn w p.d) p.os) → Q .normal a' w') os a) :
    wpAny P .any os.toArray Q os.toArray.size (Array.replicate os.toArray.size false) a { w with drawn := w.drawn + 1 } := by
  simp only [Region.lexB, Bool.and_eq_true] at hB
  refine wpAny_of_quiet (C := fun w' => ∃ p : Regrown, w' = Sort.grow (redrawn w p.d) p.os) (Q := fun a' => ∀ w', (∃ p : Regrown, w' = Sort.grow (redrawn w p.d) p.os) → Q .normal a' w') (fun _ w' hw' h => h w' hw') _ _ _ _ ⟨⟨w.drawn + 1, #[]⟩, by rw [Sort.grow_empty]; rfl⟩ ?_
  have := wpAnyQ_lex (C := fun w' => ∃ p : Regrown, w' = Sort.grow (redrawn w p.d) p.os) (md := .any) hB.1 os.toArray.toList 0 (Array.replicate os.toArray.size false) a (by simp) (by simpa using hB.2) (by simpa using h)
  simpa using this
theorem wpIn_region_quiet {id l m : Nat} {os : List Oper} {a : Act} {w : World} {Q : Exit → Act → World → Prop} (hm : P.follows .mixedOrders = true) (hB : Region.lexB .any os.toArray = true) (hd : noDefer os.toArray = true)
    (h : wpQuiet P os.toArray (fun w' => ∃ p : Regrown, w' = Sort.grow (redrawn w p.d) p.os) (fun a' => ∀ w', (∃ p : Regrown, w' = Sort.grow (redrawn w p.d) p.os) → (.normal : Exit) = .normal ∧ Q .normal a' w') os a) :
    (Code.region id os.toArray true).wpIn (Fence.wide.inRound l) m P Q a w :=
  wpIn_mono (wpIn_region_any hm (wpAnyIn_of hd (by rintro ⟨_, _, h, _⟩; cases h) _ _ _ _ (any_quiet (Q := fun e a'' w'' => e = .normal ∧ Q .normal a'' w'') hB h))) (fun e a w ⟨he, h⟩ => he ▸ h)
end
end Go.Proofs.YtlldlkjngcgcjaaGreatDoor

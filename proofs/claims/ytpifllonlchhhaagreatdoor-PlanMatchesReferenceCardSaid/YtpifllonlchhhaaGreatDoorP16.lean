/- One store into memory that a drawn region makes; blocks of other types that the region makes stay. A drawn region that makes slices and one variable, into which it stores. Appending in a drawn region that also makes a variable of another type and stores into it. Appending in a drawn region, under a guard that says yes. Appending in a drawn region whose other blocks are of other types. -/
import Derived.Test.YtpifllonlchhhaaGreatDoorP14
import Derived.BigFrame
namespace Go.Proofs.YtpifllonlchhhaaGreatDoor.RS
set_option linter.unusedVariables false
open Go.RowKit
/-- as KF; and every block but those of the type t is as it was -/
def K2 (B : Nat) (t : TypeId) (cs : Array Value) (w w' : World) : Prop := KF B t cs w w' ∧ KpE t w w'
variable {B : Nat} {t : TypeId} {cs : Array Value} {W w w' : World}
theorem cls_K2 (B : Nat) (t : TypeId) (cs : Array Value) : Cls (K2 B t cs) :=
  ⟨fun w => ⟨(cls_KF B t cs).refl w, KpE.refl t w⟩, fun h1 h2 => ⟨(cls_KF B t cs).trans h1.1 h2.1, h1.2.trans h2.2⟩, fun w n => ⟨(cls_KF B t cs).drawn w n, ⟨Nat.le_refl _, fun _ _ h _ => h⟩⟩⟩
theorem K2.rf (B : Nat) (t : TypeId) (cs : Array Value) (w : World) : K2 B t cs w w := (cls_K2 B t cs).refl w
theorem K2.call (h : K2 B t cs W w) (hB : B ≤ W.heap.size) (hb : Below w.heap.size w w') : K2 B t cs w w' := ⟨h.1.call hB hb, KpE.call hb⟩
theorem K2.new (h : K2 B t cs W w) (hB : B ≤ W.heap.size) (z : Array Value) (hz : z.size = cs.size) (x : Value) : K2 B t cs w (w.alloc (.cells z t)) ∧ PtrR B t cs x (.pointer (some ⟨w.heap.size, 0, none⟩)) (w.alloc (.cells z t)) :=
  ⟨⟨(h.1.new hB z hz x).1, KpE.call (bNew (Below.refl w.heap.size w) _)⟩, (h.1.new hB z hz x).2⟩
theorem K2.store2 {x y a b : Value} {g : Nat} (hg : B ≤ g) (hB : Bx w g t #[a, b]) (u : Value) (hu : u = .pointer (some ⟨g, 0, none⟩)) (z : Value) :
    K2 B t #[x, y] w ((w.setCell ⟨g, 0, none⟩ x).setCell ⟨g, 1, none⟩ y) ∧ StoR B t #[x, y] u z ((w.setCell ⟨g, 0, none⟩ x).setCell ⟨g, 1, none⟩ y) :=
  ⟨⟨(KF.store2 hg hB u hu z).1, (KpE.set hB 0 x).trans (KpE.set (hB.set 0 x) 1 y)⟩, (KF.store2 hg hB u hu z).2⟩
theorem stab_ptr2 (B : Nat) (t : TypeId) (cs : Array Value) : Stab (K2 B t cs) (PtrR B t cs) := fun x v w w' h k => stab_ptr B t cs x v w w' h k.1
theorem stab_sto2 (B : Nat) (t : TypeId) (cs : Array Value) : Stab (K2 B t cs) (StoR B t cs) := fun x v w w' h k => stab_sto B t cs x v w w' h k.1
/-- a slice, one of whose cells is known -/
def ElR (ty : TypeId) (k n : Nat) (s : Value) : Rl := fun _ v w => ∃ g cap cells, v = .slice (some ⟨g, 0, none⟩) n cap ∧ Bx w g ty cells ∧ cells[k]? = some s
theorem stab_el {ty : TypeId} (ht : ty ≠ t) (k n : Nat) (s : Value) : Stab (K2 B t cs) (ElR ty k n s) := fun x v w w' ⟨g, cap, cells, h1, h2, h3⟩ h => ⟨g, cap, cells, h1, h.2.bx ht h2, h3⟩
/-- a pointer to a cell that is known -/
def PtC (ty : TypeId) (k : Nat) (s : Value) : Rl := fun _ v w => ∃ g cells, v = .pointer (some ⟨g, k, none⟩) ∧ Bx w g ty cells ∧ cells[k]? = some s
theorem stab_ptc {ty : TypeId} (ht : ty ≠ t) (k : Nat) (s : Value) : Stab (K2 B t cs) (PtC ty k s) := fun x v w w' ⟨g, cells, h1, h2, h3⟩ h => ⟨g, cells, h1, h.2.bx ht h2, h3⟩
/-- a slice of one's own, known whole -/
def SlW (ty : TypeId) (n : Nat) (c : Array Value) : Rl := fun _ v w => ∃ g, v = .slice (some ⟨g, 0, none⟩) n n ∧ Bx w g ty c
theorem stab_slw {ty : TypeId} (ht : ty ≠ t) (n : Nat) (c : Array Value) : Stab (K2 B t cs) (SlW ty n c) := fun x v w w' ⟨g, h1, h2⟩ h => ⟨g, h1, h.2.bx ht h2⟩
end Go.Proofs.YtpifllonlchhhaaGreatDoor.RS
namespace Go.Proofs.YtpifllonlchhhaaGreatDoor.RS
set_option linter.unusedVariables false
set_option linter.unusedSimpArgs false
open Go.RowKit
/-- below B nothing changes; from B on a block of the type t that holds z may come to hold cs; all else stays -/
structure KZ (B : Nat) (t : TypeId) (z cs : Array Value) (w w' : World) : Prop where
  bl : Below B w w'
  size : w.heap.size ≤ w'.heap.size
  own : ∀ g c, B ≤ g → Bx w g t c → Bx w' g t c ∨ (c = z ∧ Bx w' g t cs)
  oth : KpE t w w'
variable {B : Nat} {t : TypeId} {z cs : Array Value} {W w w' : World}
theorem KZ.rf (B : Nat) (t : TypeId) (z cs : Array Value) (w : World) : KZ B t z cs w w := ⟨Below.refl _ _, Nat.le_refl _, fun g c _ h => .inl h, KpE.refl t w⟩
theorem cls_KZ (B : Nat) (t : TypeId) (z cs : Array Value) : Cls (KZ B t z cs) :=
  ⟨KZ.rf B t z cs, fun h1 h2 => ⟨h1.bl.trans h2.bl, Nat.le_trans h1.size h2.size, fun g c hg h => by
     rcases h1.own g c hg h with h3 | ⟨h3, h4⟩
     · exact h2.own g c hg h3
     · rcases h2.own g cs hg h4 with h5 | ⟨-, h5⟩ <;> exact .inr ⟨h3, h5⟩, h1.oth.trans h2.oth⟩,
   fun w n => ⟨⟨rfl, rfl, rfl, Nat.le_refl _, fun _ _ => rfl⟩, Nat.le_refl _, fun g c _ h => .inl h, ⟨Nat.le_refl _, fun _ _ h _ => h⟩⟩⟩
theorem KZ.of (hB : B ≤ w.heap.size) (h : Below w.heap.size w w') : KZ B t z cs w w' := ⟨h.mono hB, h.size, fun g c _ hb => .inl (hb.call h), KpE.call h⟩
theorem KZ.call (h : KZ B t z cs W w) (hB : B ≤ W.heap.size) (hb : Below w.heap.size w w') : KZ B t z cs w w' := KZ.of (Nat.le_trans hB h.size) hb
def PtrZ (B : Nat) (t : TypeId) (z cs : Array Value) : Rl := fun _ v w => ∃ g, v = .pointer (some ⟨g, 0, none⟩) ∧ B ≤ g ∧ (Bx w g t z ∨ Bx w g t cs)
def StoZ (B : Nat) (t : TypeId) (cs : Array Value) : Rl := fun x _ w => ∃ g, x = .pointer (some ⟨g, 0, none⟩) ∧ B ≤ g ∧ Bx w g t cs
def SlZ (B : Nat) (ty : TypeId) (n : Nat) (c : Array Value) : Rl := fun _ v w => ∃ g, v = .slice (some ⟨g, 0, none⟩) n n ∧ B ≤ g ∧ Bx w g ty c
theorem KZ.keep (h : KZ B t z cs w w') {g : Nat} (hg : B ≤ g) (hb : Bx w g t cs) : Bx w' g t cs := by
  rcases h.own g cs hg hb with h1 | ⟨-, h1⟩ <;> exact h1
theorem stab_ptrZ : Stab (KZ B t z cs) (PtrZ B t z cs) := fun x v w w' ⟨g, e, hg, hb⟩ h => by
  rcases hb with hb | hb
  · rcases h.own g z hg hb with h1 | ⟨-, h1⟩
    · exact ⟨g, e, hg, .inl h1⟩
    · exact ⟨g, e, hg, .inr h1⟩
  · exact ⟨g, e, hg, .inr (h.keep hg hb)⟩
theorem stab_stoZ : Stab (KZ B t z cs) (StoZ B t cs) := fun x v w w' ⟨g, e, hg, hb⟩ h => ⟨g, e, hg, h.keep hg hb⟩
theorem stab_slZ {ty : TypeId} {n : Nat} {c : Array Value} (hc : ty ≠ t ∨ c ≠ z) : Stab (KZ B t z cs) (SlZ B ty n c) := fun x v w w' ⟨g, e, hg, hb⟩ h => by
  by_cases ht : ty = t
  · subst ht
    rcases hc with hc | hc
    · exact absurd rfl hc
    · rcases h.own g c hg hb with h1 | ⟨h1, -⟩
      · exact ⟨g, e, hg, h1⟩
      · exact absurd h1 hc
  · exact ⟨g, e, hg, h.oth.bx ht hb⟩
theorem KZ.slice (h : KZ B t z cs W w) (hB : B ≤ W.heap.size) (ty : TypeId) (n : Nat) (c : Array Value) (x : Value) : KZ B t z cs w (w.alloc (.cells c ty)) ∧ SlZ B ty n c x (.slice (some ⟨w.heap.size, 0, none⟩) n n) (w.alloc (.cells c ty)) :=
  ⟨h.call hB (bNew (Below.refl w.heap.size w) _), _, rfl, Nat.le_trans hB h.size, Bx.mk w ty c⟩
theorem KZ.new (h : KZ B t z cs W w) (hB : B ≤ W.heap.size) (x : Value) : KZ B t z cs w (w.alloc (.cells z t)) ∧ PtrZ B t z cs x (.pointer (some ⟨w.heap.size, 0, none⟩)) (w.alloc (.cells z t)) :=
  ⟨h.call hB (bNew (Below.refl w.heap.size w) _), _, rfl, Nat.le_trans hB h.size, .inl (Bx.mk w t z)⟩
theorem KZ.put {g : Nat} (hg : B ≤ g) (hB : Bx w g t z ∨ Bx w g t cs) (hs : w.heap.size ≤ w'.heap.size) (hb : Below B w w') (ho : ∀ b, b ≠ g → w'.heap[b]? = w.heap[b]?) (hB' : Bx w' g t cs) : KZ B t z cs w w' := by
  refine ⟨hb, hs, fun b c hbb hc => ?_, hs, fun b o h1 h2 => ?_⟩
  · by_cases e : b = g
    · subst e
      rcases hB with h1 | h1
      · right
        have : c = z := by
          have := (show w.heap[b]? = _ from hc).symm.trans h1
          simpa using this
        exact ⟨this, hB'⟩
      · left
        have : c = cs := by
          have := (show w.heap[b]? = _ from hc).symm.trans h1
          simpa using this
        rw [this]; exact hB'
    · exact .inl ((ho b e).trans hc)
  · by_cases e : b = g
    · subst e
      rcases hB with h3 | h3
      · exact absurd ((Option.some.inj (h1.symm.trans h3))) (h2 _ _)
      · exact absurd ((Option.some.inj (h1.symm.trans h3))) (h2 _ _)
    · exact (ho b e).trans h1
/-- one cell after the other -/
theorem put_cells {g : Nat} : ∀ (vs : List Value) (k : Nat) (w : World) (cs : Array Value), Bx w g t cs → cs.size = k + vs.length → Bx (w.setCells g k vs) g t ((cs.toList.take k) ++ vs).toArray
  | [], k, w, cs, h, hs => by
    have : ((cs.toList.take k) ++ ([] : List Value)).toArray = cs := by rw [List.append_nil, List.take_of_length_le (by simpa using Nat.le_of_eq hs)]
    rw [this]; exact h
  | v :: r, k, w, cs, h, hs => by
    have h1 := put_cells r (k + 1) (w.setCell ⟨g, k, none⟩ v) _ (h.set k v) (by simp only [Array.size_setIfInBounds]; simp only [List.length_cons] at hs; omega)
    have e : ((cs.setIfInBounds k v).toList.take (k + 1)) ++ r = cs.toList.take k ++ v :: r := by
      have : (cs.setIfInBounds k v).toList.take (k + 1) = cs.toList.take k ++ [v] := by
        rw [Array.toList_setIfInBounds, List.take_add_one, List.take_set_of_le (Nat.le_refl _)]
        simp [show k < cs.size by simp only [List.length_cons] at hs; omega]
      rw [this]; simp
    rw [e] at h1
    exact h1
theorem KZ.stores {g : Nat} {L : List Value} (hL : cs = L.toArray) (hz : z.size = L.length) (hg : B ≤ g) (hB : Bx w g t z ∨ Bx w g t cs) (x y : Value) (hx : x = .pointer (some ⟨g, 0, none⟩)) : KZ B t z cs w (w.setCells g 0 L) ∧ StoZ B t cs x y (w.setCells g 0 L) := by
  have hb : Below B w (w.setCells g 0 L) := by
    have : ∀ (vs : List Value) (o : Nat) (w' : World), Below B w w' → Below B w (w'.setCells g o vs) := by
      intro vs
      induction vs with
      | nil => intro o w' h; exact h
      | cons a l ih => intro o w' h; exact ih _ _ (h.setCell hg _)
    exact this _ _ _ (Below.refl _ _)
  have hn : Bx (w.setCells g 0 L) g t cs := by
    rw [hL]
    rcases hB with h | h
    · have := put_cells L 0 w z h (by omega)
      simpa using this
    · have := put_cells L 0 w cs h (by rw [hL]; simp)
      simpa using this
  have hsz : w.heap.size ≤ (w.setCells g 0 L).heap.size := size_setCells _ _ _
  exact ⟨KZ.put hg hB hsz hb (fun b e => heap_setCells e _ _ _) hn, g, hx, hg, hn⟩
end Go.Proofs.YtpifllonlchhhaaGreatDoor.RS
namespace Go.Proofs.YtpifllonlchhhaaGreatDoor
set_option linter.unusedVariables false
set_option linter.unusedSimpArgs false
open Go.RowKit
/-- KH for blocks of the type e; a block of the type t that holds z may come to hold cs -/
structure KAp (B : Nat) (e : TypeId) (pos : Nat) (news : List Value) (t : TypeId) (z cs : Array Value) (w w' : World) : Prop where
  kh : KH B e pos news w w'
  own : ∀ g c, B ≤ g → Bx w g t c → Bx w' g t c ∨ (c = z ∧ Bx w' g t cs)
section
variable {B : Nat} {e : TypeId} {pos : Nat} {news : List Value} {t : TypeId} {z cs : Array Value} {W w w' : World}
theorem KAp.rf (B : Nat) (e : TypeId) (pos : Nat) (news : List Value) (t : TypeId) (z cs : Array Value) (w : World) : KAp B e pos news t z cs w w := ⟨KH.rf _ _ _ _ _, fun g c _ h => .inl h⟩
theorem cls_KAp (B : Nat) (e : TypeId) (pos : Nat) (news : List Value) (t : TypeId) (z cs : Array Value) : RS.Cls (KAp B e pos news t z cs) :=
  ⟨KAp.rf B e pos news t z cs, fun h1 h2 => ⟨(cls_KH B e pos news).trans h1.kh h2.kh, fun g c hg h => by
     rcases h1.own g c hg h with h3 | ⟨h3, h4⟩
     · exact h2.own g c hg h3
     · rcases h2.own g cs hg h4 with h5 | ⟨-, h5⟩ <;> exact .inr ⟨h3, h5⟩⟩,
   fun w n => ⟨(cls_KH B e pos news).drawn w n, fun g c _ h => .inl h⟩⟩
theorem KAp.of (hB : B ≤ w.heap.size) (h : Below w.heap.size w w') : KAp B e pos news t z cs w w' := ⟨KH.of hB h, fun g c _ hb => .inl (hb.call h)⟩
theorem KAp.call (h : KAp B e pos news t z cs W w) (hB : B ≤ W.heap.size) (hb : Below w.heap.size w w') : KAp B e pos news t z cs w w' := KAp.of (Nat.le_trans hB h.kh.2.1) hb
theorem KAp.bl (h : KAp B e pos news t z cs w w') : Below B w w' := h.kh.1
theorem KAp.size (h : KAp B e pos news t z cs w w') : w.heap.size ≤ w'.heap.size := h.kh.2.1
/-- what is kept under KH is kept -/
theorem stab_KAp {R : RS.Rl} (h : RS.Stab (KH B e pos news) R) : RS.Stab (KAp B e pos news t z cs) R := fun x v w w' hr hK => h x v w w' hr hK.kh
theorem KAp.keep (h : KAp B e pos news t z cs w w') {g : Nat} (hg : B ≤ g) (hb : Bx w g t cs) : Bx w' g t cs := by
  rcases h.own g cs hg hb with h1 | ⟨-, h1⟩ <;> exact h1
theorem stab_ptrA : RS.Stab (KAp B e pos news t z cs) (RS.PtrZ B t z cs) := fun x v w w' ⟨g, e1, hg, hb⟩ h => by
  rcases hb with hb | hb
  · rcases h.own g z hg hb with h1 | ⟨-, h1⟩
    · exact ⟨g, e1, hg, .inl h1⟩
    · exact ⟨g, e1, hg, .inr h1⟩
  · exact ⟨g, e1, hg, .inr (h.keep hg hb)⟩
theorem stab_stoA : RS.Stab (KAp B e pos news t z cs) (RS.StoZ B t cs) := fun x v w w' ⟨g, e1, hg, hb⟩ h => ⟨g, e1, hg, h.keep hg hb⟩
theorem KAp.new (h : KAp B e pos news t z cs W w) (hB : B ≤ W.heap.size) (x : Value) : KAp B e pos news t z cs w (w.alloc (.cells z t)) ∧ RS.PtrZ B t z cs x (.pointer (some ⟨w.heap.size, 0, none⟩)) (w.alloc (.cells z t)) :=
  ⟨h.call hB (bNew (Below.refl w.heap.size w) _), _, rfl, Nat.le_trans hB h.size, .inl (Bx.mk w t z)⟩
theorem KAp.ofZ (he : e ≠ t) (h : RS.KZ B t z cs w w') : KAp B e pos news t z cs w w' := ⟨⟨h.bl, h.size, fun g c _ hb => ⟨c, h.oth.bx he hb, rfl, fun i v _ hv => .inl hv⟩⟩, h.own⟩
theorem KAp.stores (he : e ≠ t) {g : Nat} {L : List Value} (hL : cs = L.toArray) (hz : z.size = L.length) (hg : B ≤ g) (hB : Bx w g t z ∨ Bx w g t cs) (x y : Value) (hx : x = .pointer (some ⟨g, 0, none⟩)) : KAp B e pos news t z cs w (w.setCells g 0 L) ∧ RS.StoZ B t cs x y (w.setCells g 0 L) := by
  obtain ⟨h1, h2⟩ := RS.KZ.stores (w := w) hL hz hg hB x y hx
  exact ⟨KAp.ofZ he h1, h2⟩
end
theorem wpList_append_KAp {P : Program} {w : World} {ops : Array Oper} {rest : List Oper} {o : Oper} {a : Act} {Q : Exit → Act → World → Prop} (hgd : o.guard = none) (s y : Operand) (t e : TypeId) (t' : TypeId) (z' cs' : Array Value) (he : e ≠ t') (ho : o.op = .call { callee := .builtin .append, args := #[s, y], argTypes := #[t, t] })
    (i : TypeInfo) (z : Value) (size B n m : Nat) (flat news : List Value) (v x : Value) (ht : P.underlying t = some (.slice e)) (hi : P.info? e = some i) (hz : i.zero = some z)
    (hsize : i.size = size) (hzs : z.cells.size = size) (hes : a.eval s = v) (hey : a.eval y = x) (hv : RowZ e size B n flat v w) (hB : B ≤ w.heap.size) (hs : Src P size t x m news w) (hm : 0 < m) (h63 : n + m ≤ maxLen) (hb : (n + m) * i.bytes ≤ 140737488355328)
    (h : ∀ v' w', KAp B e (n * size) news t' z' cs' w w' → RowZ e size B (n + m) (flat ++ news) v' w' → wpList P ops Q rest (a.put o.dst v') w') : wpList P ops Q (o :: rest) a w := by
  obtain ⟨v', w', hr, h1, h2⟩ := append_KH (P := P) w t o.type e i z size B n m flat news v x ht hi hz hsize hzs hv hB hs hm h63 hb
  obtain ⟨v2, w2, hr2, -, k2, -⟩ := append_rowF (P := P) w t o.type e i z size B n m flat news v x ht hi hz hsize hzs hv hB hs hm h63 hb
  have hkv : KpV v v' w w' := by
    have := hr.symm.trans hr2
    simp only [Result.ok.injEq] at this
    rw [this.1, this.2]; exact k2
  have hka : KAp B e (n * size) news t' z' cs' w w' := ⟨h1, fun g c _ hb' => .inl (hkv.bx hb' fun n9 c9 hv9 => by
    rcases hv with ⟨hv, -, -⟩ | ⟨cap, ⟨g1, cs1, hv1, -, -, hB1, -⟩, -⟩
    · rw [hv] at hv9; cases hv9
    · rw [hv1] at hv9
      simp only [Value.slice.injEq, Option.some.injEq, Addr.mk.injEq, and_true] at hv9
      obtain ⟨rfl, -, -⟩ := hv9
      have hh := hB1.symm.trans hb'
      simp only [Option.some.injEq, Obj.cells.injEq] at hh
      exact he hh.2.1)⟩
  refine wpList_plain hgd fun _ hK => ?_
  unfold Oper.wp execOp
  simp only [ho, resolve, invoke, builtin, Sem.run_bind, Sem.run_pure, Result.andThen_ok, List.map_toArray, List.map_cons, List.map_nil, hes, hey, hr]
  exact hK _ _ (h v' w' hka h2)
end Go.Proofs.YtpifllonlchhhaaGreatDoor
namespace Go.Proofs.YtpifllonlchhhaaGreatDoor
set_option linter.unusedVariables false
set_option linter.unusedSimpArgs false
open Go.RowKit
theorem wpList_app {P : Program} {w w' : World} {ops : Array Oper} {rest : List Oper} {o : Oper} {a : Act} {Q : Exit → Act → World → Prop} (hw : Region.wanted o (yielded ops a.tmps) = true) (s y : Operand) (t : TypeId) (ho : o.op = .call { callee := .builtin .append, args := #[s, y], argTypes := #[t, t] })
    (v x v' : Value) (hes : a.eval s = v) (hey : a.eval y = x) (hr : (Builtin.append_ #[t, t] o.type #[v, x]).run P w = .ok v' w') (h : wpList P ops Q rest (a.put o.dst v') w') : wpList P ops Q (o :: rest) a w := by
  refine BigFrame.wpList_want hw fun _ hK => ?_
  unfold Oper.wp execOp
  simp only [ho, resolve, invoke, builtin, Sem.run_bind, Sem.run_pure, Result.andThen_ok, List.map_toArray, List.map_cons, List.map_nil, hes, hey, hr]
  exact hK _ _ h
/-- the run of an append to an empty slice of the region's own -/
theorem app_E {P : Program} {w : World} (t ty e : TypeId) (i : TypeInfo) (z : Value) (size B m : Nat) (news : List Value) (v x q : Value) (ht : P.underlying t = some (.slice e)) (hi : P.info? e = some i) (hz : i.zero = some z)
    (hsize : i.size = size) (hzs : z.cells.size = size) (hv : RoE B e q v w) (hB : B ≤ w.heap.size) (hs : Src P size t x m news w) (h63 : m ≤ maxLen) (hb : m * i.bytes ≤ 140737488355328) :
    ∃ v' w', (Builtin.append_ #[t, t] ty #[v, x]).run P w = .ok v' w' ∧ Below w.heap.size w w' ∧ RowZ e size B m news v' w' := by
  obtain ⟨g, rfl, hg, hbx⟩ := hv
  obtain ⟨v', w', cap', hr, h1, h2, h3, h4⟩ := append_row (P := P) w t ty e i z size B 0 0 m [] news (.slice (some ⟨g, 0, none⟩) 0 0) x ht hi hz hsize hzs ⟨g, #[], rfl, hg, Nat.le_refl _, hbx, by simp, by simp⟩ hB hs (Nat.zero_le _) (by omega) (by rw [Nat.zero_add]; exact hb)
  rw [Nat.zero_add, List.nil_append] at h3
  exact ⟨v', w', hr, h2 rfl, .inr ⟨cap', h3, h4⟩⟩
/-- the run of an append in a region's class -/
theorem app_K {P : Program} {w : World} (t ty e : TypeId) (t' : TypeId) (z' cs' : Array Value) (he : e ≠ t') (i : TypeInfo) (z : Value) (size B n m : Nat) (flat news : List Value) (v x : Value) (ht : P.underlying t = some (.slice e)) (hi : P.info? e = some i) (hz : i.zero = some z)
    (hsize : i.size = size) (hzs : z.cells.size = size) (hv : RowZ e size B n flat v w) (hB : B ≤ w.heap.size) (hs : Src P size t x m news w) (hm : 0 < m) (h63 : n + m ≤ maxLen) (hb : (n + m) * i.bytes ≤ 140737488355328) :
    ∃ v' w', (Builtin.append_ #[t, t] ty #[v, x]).run P w = .ok v' w' ∧ KAp B e (n * size) news t' z' cs' w w' ∧ RowZ e size B (n + m) (flat ++ news) v' w' := by
  obtain ⟨v', w', hr, h1, h2⟩ := append_KH (P := P) w t ty e i z size B n m flat news v x ht hi hz hsize hzs hv hB hs hm h63 hb
  obtain ⟨v2, w2, hr2, -, k2, -⟩ := append_rowF (P := P) w t ty e i z size B n m flat news v x ht hi hz hsize hzs hv hB hs hm h63 hb
  have hkv : KpV v v' w w' := by
    have := hr.symm.trans hr2
    simp only [Result.ok.injEq] at this
    rw [this.1, this.2]; exact k2
  refine ⟨v', w', hr, ⟨h1, fun g c _ hb' => .inl (hkv.bx hb' fun n9 c9 hv9 => ?_)⟩, h2⟩
  rcases hv with ⟨hv, -, -⟩ | ⟨cap, ⟨g1, cs1, hv1, -, -, hB1, -⟩, -⟩
  · rw [hv] at hv9; cases hv9
  · rw [hv1] at hv9
    simp only [Value.slice.injEq, Option.some.injEq, Addr.mk.injEq, and_true] at hv9
    obtain ⟨rfl, -, -⟩ := hv9
    have hh := hB1.symm.trans hb'
    simp only [Option.some.injEq, Obj.cells.injEq] at hh
    exact he hh.2.1
end Go.Proofs.YtpifllonlchhhaaGreatDoor
namespace Go.Proofs.YtpifllonlchhhaaGreatDoor
set_option linter.unusedVariables false
set_option linter.unusedSimpArgs false
open Go.RowKit
/-- blocks of the type e as an append leaves them; blocks of other types stay -/
def KHe (B : Nat) (e : TypeId) (pos : Nat) (news : List Value) (w w' : World) : Prop := KH B e pos news w w' ∧ KpE e w w'
section
variable {B : Nat} {e : TypeId} {pos : Nat} {news : List Value} {W w w' : World}
theorem KHe.rf (B : Nat) (e : TypeId) (pos : Nat) (news : List Value) (w : World) : KHe B e pos news w w := ⟨KH.rf _ _ _ _ _, KpE.refl _ _⟩
theorem cls_KHe (B : Nat) (e : TypeId) (pos : Nat) (news : List Value) : RS.Cls (KHe B e pos news) :=
  ⟨KHe.rf B e pos news, fun h1 h2 => ⟨(cls_KH B e pos news).trans h1.1 h2.1, h1.2.trans h2.2⟩, fun w n => ⟨(cls_KH B e pos news).drawn w n, ⟨Nat.le_refl _, fun _ _ h _ => h⟩⟩⟩
theorem KHe.of (hB : B ≤ w.heap.size) (h : Below w.heap.size w w') : KHe B e pos news w w' := ⟨KH.of hB h, KpE.call h⟩
theorem KHe.bl (h : KHe B e pos news w w') : Below B w w' := h.1.1
theorem KHe.size (h : KHe B e pos news w w') : w.heap.size ≤ w'.heap.size := h.1.2.1
theorem KHe.call (h : KHe B e pos news W w) (hB : B ≤ W.heap.size) (hb : Below w.heap.size w w') : KHe B e pos news w w' := KHe.of (Nat.le_trans hB h.size) hb
theorem stab_KHe {R : RS.Rl} (h : RS.Stab (KH B e pos news) R) : RS.Stab (KHe B e pos news) R := fun x v w w' hr hK => h x v w w' hr hK.1
/-- a variable of another type -/
def FrE (B : Nat) (t : TypeId) (cs : Array Value) : RS.Rl := fun _ v w => ∃ g, v = .pointer (some ⟨g, 0, none⟩) ∧ B ≤ g ∧ Bx w g t cs
theorem stab_frE {t : TypeId} {cs : Array Value} (ht : t ≠ e) : RS.Stab (KHe B e pos news) (FrE B t cs) := fun x v w w' ⟨g, h1, h2, h3⟩ hK => ⟨g, h1, h2, hK.2.bx ht h3⟩
end
/-- the run of an append in a region's class -/
theorem app_He {P : Program} {w : World} (t ty e : TypeId) (i : TypeInfo) (z : Value) (size B n m : Nat) (flat news : List Value) (v x : Value) (ht : P.underlying t = some (.slice e)) (hi : P.info? e = some i) (hz : i.zero = some z)
    (hsize : i.size = size) (hzs : z.cells.size = size) (hv : RowZ e size B n flat v w) (hB : B ≤ w.heap.size) (hs : Src P size t x m news w) (hm : 0 < m) (h63 : n + m ≤ maxLen) (hb : (n + m) * i.bytes ≤ 140737488355328) :
    ∃ v' w', (Builtin.append_ #[t, t] ty #[v, x]).run P w = .ok v' w' ∧ KHe B e (n * size) news w w' ∧ RowZ e size B (n + m) (flat ++ news) v' w' := by
  obtain ⟨v', w', hr, h1, h2⟩ := append_KH (P := P) w t ty e i z size B n m flat news v x ht hi hz hsize hzs hv hB hs hm h63 hb
  obtain ⟨v2, w2, hr2, -, k2, -⟩ := append_rowE (P := P) w t ty e i z size B n m flat news v x ht hi hz hsize hzs hv hB hs hm h63 hb
  refine ⟨v', w', hr, ⟨h1, ?_⟩, h2⟩
  have := hr.symm.trans hr2
  simp only [Result.ok.injEq] at this
  rw [this.2]; exact k2
end Go.Proofs.YtpifllonlchhhaaGreatDoor

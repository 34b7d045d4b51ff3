/- One store into memory that a drawn region makes; blocks of other types that the region makes stay. A drawn region that makes slices and one variable, into which it stores. Appending in a drawn region that also makes a variable of another type and stores into it. Rows of some integers of one's own: what stays when one integer is written. BentRoute of the reference: it returns some route. -/
import Derived.Test.YtlmnmeppgigjnaaGreatDoorQ08
import Derived.Test.YtlmnmeppgigjnaaGreatDoorQ03
import Derived.Test.YtlmnmeppgigjnaaGreatDoorQ09
import Derived.Test.YtlmnmeppgigjnaaGreatDoorQ06
import Derived.Test.YtlmnmeppgigjnaaGreatDoorE01
namespace Go.Proofs.YtlmnmeppgigjnaaGreatDoor.RS
set_option linter.unusedVariables false
open Go.RowKit
/-- as KF; and every block but those of the type t is as it was -/
def K2 (B : Nat) (t : TypeId) (cs : Array Value) (w w' : World) : Prop := KF B t cs w w' ∧ KpE t w w'
variable {B : Nat} {t : TypeId} {cs : Array Value} {W w w' : World}
theorem cls_K2 (B : Nat) (t : TypeId) (cs : Array Value) : Cls (K2 B t cs) :=
  ⟨fun w => ⟨(cls_KF B t cs).refl w, KpE.refl t w⟩, fun h1 h2 => ⟨(cls_KF B t cs).trans h1.1 h2.1, h1.2.trans h2.2⟩, fun w n => ⟨(cls_KF B t cs).drawn w n, ⟨Nat.le_refl _, fun _ _ h _ => h⟩⟩⟩
theorem K2.rf (B : Nat) (t : TypeId) (cs : Array Value) (w : World) : K2 B t cs w w := (cls_K2 B t cs).refl w
theorem K2.call (h : K2 B t cs W w) (hB : B ≤ W.heap.size) (hb : Below w.heap.size w w') : K2 B t cs w w' := ⟨h.1.call hB hb, KpE.call hb⟩
theorem K2.new (h : K2 B t cs W w) (hB : B ≤ W.heap.size) (z : Array Value) (hz : z.size = cs.size) (x : Value) : K2 B t cs w (w.alloc (.cells z t)) ∧ PtrR B t cs x (.pointer (some ⟨w.heap.size, 0, none⟩)) (w.alloc (.cells z t)) :=
  ⟨⟨(h.1.new hB z hz x).1, KpE.call (bNew (Below.refl w.heap.size w) _)⟩, (h.1.new hB z hz x).2⟩
theorem K2.store2 {x y a b : Value} {g : Nat} (hg : B ≤ g) (hB : Bx w g t #[a, b]) (u : Value) (hu : u = .pointer (some ⟨g, 0, none⟩)) (z : Value) :
    K2 B t #[x, y] w ((w.setCell ⟨g, 0, none⟩ x).setCell ⟨g, 1, none⟩ y) ∧ StoR B t #[x, y] u z ((w.setCell ⟨g, 0, none⟩ x).setCell ⟨g, 1, none⟩ y) :=
  ⟨⟨(KF.store2 hg hB u hu z).1, (KpE.set hB 0 x).trans (KpE.set (hB.set 0 x) 1 y)⟩, (KF.store2 hg hB u hu z).2⟩
theorem stab_ptr2 (B : Nat) (t : TypeId) (cs : Array Value) : Stab (K2 B t cs) (PtrR B t cs) := fun x v w w' h k => stab_ptr B t cs x v w w' h k.1
theorem stab_sto2 (B : Nat) (t : TypeId) (cs : Array Value) : Stab (K2 B t cs) (StoR B t cs) := fun x v w w' h k => stab_sto B t cs x v w w' h k.1
/-- a slice, one of whose cells is known -/
def ElR (ty : TypeId) (k n : Nat) (s : Value) : Rl := fun _ v w => ∃ g cap cells, v = .slice (some ⟨g, 0, none⟩) n cap ∧ Bx w g ty cells ∧ cells[k]? = some s
theorem stab_el {ty : TypeId} (ht : ty ≠ t) (k n : Nat) (s : Value) : Stab (K2 B t cs) (ElR ty k n s) := fun x v w w' ⟨g, cap, cells, h1, h2, h3⟩ h => ⟨g, cap, cells, h1, h.2.bx ht h2, h3⟩
/-- a pointer to a cell that is known -/
def PtC (ty : TypeId) (k : Nat) (s : Value) : Rl := fun _ v w => ∃ g cells, v = .pointer (some ⟨g, k, none⟩) ∧ Bx w g ty cells ∧ cells[k]? = some s
theorem stab_ptc {ty : TypeId} (ht : ty ≠ t) (k : Nat) (s : Value) : Stab (K2 B t cs) (PtC ty k s) := fun x v w w' ⟨g, cells, h1, h2, h3⟩ h => ⟨g, cells, h1, h.2.bx ht h2, h3⟩
/-- a slice of one's own, known whole -/
def SlW (ty : TypeId) (n : Nat) (c : Array Value) : Rl := fun _ v w => ∃ g, v = .slice (some ⟨g, 0, none⟩) n n ∧ Bx w g ty c
theorem stab_slw {ty : TypeId} (ht : ty ≠ t) (n : Nat) (c : Array Value) : Stab (K2 B t cs) (SlW ty n c) := fun x v w w' ⟨g, h1, h2⟩ h => ⟨g, h1, h.2.bx ht h2⟩
end Go.Proofs.YtlmnmeppgigjnaaGreatDoor.RS
namespace Go.Proofs.YtlmnmeppgigjnaaGreatDoor.RS
set_option linter.unusedVariables false
set_option linter.unusedSimpArgs false
open Go.RowKit
/-- below B nothing changes; from B on a block of the type t that holds z may come to hold cs; all else stays -/
structure KZ (B : Nat) (t : TypeId) (z cs : Array Value) (w w' : World) : Prop where
  bl : Below B w w'
  size : w.heap.size ≤ w'.heap.size
  own : ∀ g c, B ≤ g → Bx w g t c → Bx w' g t c ∨ (c = z ∧ Bx w' g t cs)
  oth : KpE t w w'
variable {B : Nat} {t : TypeId} {z cs : Array Value} {W w w' : World}
theorem KZ.rf (B : Nat) (t : TypeId) (z cs : Array Value) (w : World) : KZ B t z cs w w := ⟨Below.refl _ _, Nat.le_refl _, fun g c _ h => .inl h, KpE.refl t w⟩
theorem cls_KZ (B : Nat) (t : TypeId) (z cs : Array Value) : Cls (KZ B t z cs) :=
  ⟨KZ.rf B t z cs, fun h1 h2 => ⟨h1.bl.trans h2.bl, Nat.le_trans h1.size h2.size, fun g c hg h => by
     rcases h1.own g c hg h with h3 | ⟨h3, h4⟩
     · exact h2.own g c hg h3
     · rcases h2.own g cs hg h4 with h5 | ⟨-, h5⟩ <;> exact .inr ⟨h3, h5⟩, h1.oth.trans h2.oth⟩,
   fun w n => ⟨⟨rfl, rfl, rfl, Nat.le_refl _, fun _ _ => rfl⟩, Nat.le_refl _, fun g c _ h => .inl h, ⟨Nat.le_refl _, fun _ _ h _ => h⟩⟩⟩
theorem KZ.of (hB : B ≤ w.heap.size) (h : Below w.heap.size w w') : KZ B t z cs w w' := ⟨h.mono hB, h.size, fun g c _ hb => .inl (hb.call h), KpE.call h⟩
theorem KZ.call (h : KZ B t z cs W w) (hB : B ≤ W.heap.size) (hb : Below w.heap.size w w') : KZ B t z cs w w' := KZ.of (Nat.le_trans hB h.size) hb
def PtrZ (B : Nat) (t : TypeId) (z cs : Array Value) : Rl := fun _ v w => ∃ g, v = .pointer (some ⟨g, 0, none⟩) ∧ B ≤ g ∧ (Bx w g t z ∨ Bx w g t cs)
def StoZ (B : Nat) (t : TypeId) (cs : Array Value) : Rl := fun x _ w => ∃ g, x = .pointer (some ⟨g, 0, none⟩) ∧ B ≤ g ∧ Bx w g t cs
def SlZ (B : Nat) (ty : TypeId) (n : Nat) (c : Array Value) : Rl := fun _ v w => ∃ g, v = .slice (some ⟨g, 0, none⟩) n n ∧ B ≤ g ∧ Bx w g ty c
theorem KZ.keep (h : KZ B t z cs w w') {g : Nat} (hg : B ≤ g) (hb : Bx w g t cs) : Bx w' g t cs := by
  rcases h.own g cs hg hb with h1 | ⟨-, h1⟩ <;> exact h1
theorem stab_ptrZ : Stab (KZ B t z cs) (PtrZ B t z cs) := fun x v w w' ⟨g, e, hg, hb⟩ h => by
  rcases hb with hb | hb
  · rcases h.own g z hg hb with h1 | ⟨-, h1⟩
    · exact ⟨g, e, hg, .inl h1⟩
    · exact ⟨g, e, hg, .inr h1⟩
  · exact ⟨g, e, hg, .inr (h.keep hg hb)⟩
theorem stab_stoZ : Stab (KZ B t z cs) (StoZ B t cs) := fun x v w w' ⟨g, e, hg, hb⟩ h => ⟨g, e, hg, h.keep hg hb⟩
theorem stab_slZ {ty : TypeId} {n : Nat} {c : Array Value} (hc : ty ≠ t ∨ c ≠ z) : Stab (KZ B t z cs) (SlZ B ty n c) := fun x v w w' ⟨g, e, hg, hb⟩ h => by
  by_cases ht : ty = t
  · subst ht
    rcases hc with hc | hc
    · exact absurd rfl hc
    · rcases h.own g c hg hb with h1 | ⟨h1, -⟩
      · exact ⟨g, e, hg, h1⟩
      · exact absurd h1 hc
  · exact ⟨g, e, hg, h.oth.bx ht hb⟩
theorem KZ.slice (h : KZ B t z cs W w) (hB : B ≤ W.heap.size) (ty : TypeId) (n : Nat) (c : Array Value) (x : Value) : KZ B t z cs w (w.alloc (.cells c ty)) ∧ SlZ B ty n c x (.slice (some ⟨w.heap.size, 0, none⟩) n n) (w.alloc (.cells c ty)) :=
  ⟨h.call hB (bNew (Below.refl w.heap.size w) _), _, rfl, Nat.le_trans hB h.size, Bx.mk w ty c⟩
theorem KZ.new (h : KZ B t z cs W w) (hB : B ≤ W.heap.size) (x : Value) : KZ B t z cs w (w.alloc (.cells z t)) ∧ PtrZ B t z cs x (.pointer (some ⟨w.heap.size, 0, none⟩)) (w.alloc (.cells z t)) :=
  ⟨h.call hB (bNew (Below.refl w.heap.size w) _), _, rfl, Nat.le_trans hB h.size, .inl (Bx.mk w t z)⟩
theorem KZ.put {g : Nat} (hg : B ≤ g) (hB : Bx w g t z ∨ Bx w g t cs) (hs : w.heap.size ≤ w'.heap.size) (hb : Below B w w') (ho : ∀ b, b ≠ g → w'.heap[b]? = w.heap[b]?) (hB' : Bx w' g t cs) : KZ B t z cs w w' := by
  refine ⟨hb, hs, fun b c hbb hc => ?_, hs, fun b o h1 h2 => ?_⟩
  · by_cases e : b = g
    · subst e
      rcases hB with h1 | h1
      · right
        have : c = z := by
          have := (show w.heap[b]? = _ from hc).symm.trans h1
          simpa using this
        exact ⟨this, hB'⟩
      · left
        have : c = cs := by
          have := (show w.heap[b]? = _ from hc).symm.trans h1
          simpa using this
        rw [this]; exact hB'
    · exact .inl ((ho b e).trans hc)
  · by_cases e : b = g
    · subst e
      rcases hB with h3 | h3
      · exact absurd ((Option.some.inj (h1.symm.trans h3))) (h2 _ _)
      · exact absurd ((Option.some.inj (h1.symm.trans h3))) (h2 _ _)
    · exact (ho b e).trans h1
/-- one cell after the other -/
theorem put_cells {g : Nat} : ∀ (vs : List Value) (k : Nat) (w : World) (cs : Array Value), Bx w g t cs → cs.size = k + vs.length → Bx (w.setCells g k vs) g t ((cs.toList.take k) ++ vs).toArray
  | [], k, w, cs, h, hs => by
    have : ((cs.toList.take k) ++ ([] : List Value)).toArray = cs := by rw [List.append_nil, List.take_of_length_le (by simpa using Nat.le_of_eq hs)]
    rw [this]; exact h
  | v :: r, k, w, cs, h, hs => by
    have h1 := put_cells r (k + 1) (w.setCell ⟨g, k, none⟩ v) _ (h.set k v) (by simp only [Array.size_setIfInBounds]; simp only [List.length_cons] at hs; omega)
    have e : ((cs.setIfInBounds k v).toList.take (k + 1)) ++ r = cs.toList.take k ++ v :: r := by
      have : (cs.setIfInBounds k v).toList.take (k + 1) = cs.toList.take k ++ [v] := by
        rw [Array.toList_setIfInBounds, List.take_add_one, List.take_set_of_le (Nat.le_refl _)]
        simp [show k < cs.size by simp only [List.length_cons] at hs; omega]
      rw [this]; simp
    rw [e] at h1
    exact h1
theorem KZ.stores {g : Nat} {L : List Value} (hL : cs = L.toArray) (hz : z.size = L.length) (hg : B ≤ g) (hB : Bx w g t z ∨ Bx w g t cs) (x y : Value) (hx : x = .pointer (some ⟨g, 0, none⟩)) : KZ B t z cs w (w.setCells g 0 L) ∧ StoZ B t cs x y (w.setCells g 0 L) := by
  have hb : Below B w (w.setCells g 0 L) := by
    have : ∀ (vs : List Value) (o : Nat) (w' : World), Below B w w' → Below B w (w'.setCells g o vs) := by
      intro vs
      induction vs with
      | nil => intro o w' h; exact h
      | cons a l ih => intro o w' h; exact ih _ _ (h.setCell hg _)
    exact this _ _ _ (Below.refl _ _)
  have hn : Bx (w.setCells g 0 L) g t cs := by
    rw [hL]
    rcases hB with h | h
    · have := put_cells L 0 w z h (by omega)
      simpa using this
    · have := put_cells L 0 w cs h (by rw [hL]; simp)
      simpa using this
  have hsz : w.heap.size ≤ (w.setCells g 0 L).heap.size := size_setCells _ _ _
  exact ⟨KZ.put hg hB hsz hb (fun b e => heap_setCells e _ _ _) hn, g, hx, hg, hn⟩
end Go.Proofs.YtlmnmeppgigjnaaGreatDoor.RS
namespace Go.Proofs.YtlmnmeppgigjnaaGreatDoor
set_option linter.unusedVariables false
set_option linter.unusedSimpArgs false
open Go.RowKit
/-- KH for blocks of the type e; a block of the type t that holds z may come to hold cs -/
structure KAp (B : Nat) (e : TypeId) (pos : Nat) (news : List Value) (t : TypeId) (z cs : Array Value) (w w' : World) : Prop where
  kh : KH B e pos news w w'
  own : ∀ g c, B ≤ g → Bx w g t c → Bx w' g t c ∨ (c = z ∧ Bx w' g t cs)
section
variable {B : Nat} {e : TypeId} {pos : Nat} {news : List Value} {t : TypeId} {z cs : Array Value} {W w w' : World}
theorem KAp.rf (B : Nat) (e : TypeId) (pos : Nat) (news : List Value) (t : TypeId) (z cs : Array Value) (w : World) : KAp B e pos news t z cs w w := ⟨KH.rf _ _ _ _ _, fun g c _ h => .inl h⟩
theorem cls_KAp (B : Nat) (e : TypeId) (pos : Nat) (news : List Value) (t : TypeId) (z cs : Array Value) : RS.Cls (KAp B e pos news t z cs) :=
  ⟨KAp.rf B e pos news t z cs, fun h1 h2 => ⟨(cls_KH B e pos news).trans h1.kh h2.kh, fun g c hg h => by
     rcases h1.own g c hg h with h3 | ⟨h3, h4⟩
     · exact h2.own g c hg h3
     · rcases h2.own g cs hg h4 with h5 | ⟨-, h5⟩ <;> exact .inr ⟨h3, h5⟩⟩,
   fun w n => ⟨(cls_KH B e pos news).drawn w n, fun g c _ h => .inl h⟩⟩
theorem KAp.of (hB : B ≤ w.heap.size) (h : Below w.heap.size w w') : KAp B e pos news t z cs w w' := ⟨KH.of hB h, fun g c _ hb => .inl (hb.call h)⟩
theorem KAp.call (h : KAp B e pos news t z cs W w) (hB : B ≤ W.heap.size) (hb : Below w.heap.size w w') : KAp B e pos news t z cs w w' := KAp.of (Nat.le_trans hB h.kh.2.1) hb
theorem KAp.bl (h : KAp B e pos news t z cs w w') : Below B w w' := h.kh.1
theorem KAp.size (h : KAp B e pos news t z cs w w') : w.heap.size ≤ w'.heap.size := h.kh.2.1
/-- what is kept under KH is kept -/
theorem stab_KAp {R : RS.Rl} (h : RS.Stab (KH B e pos news) R) : RS.Stab (KAp B e pos news t z cs) R := fun x v w w' hr hK => h x v w w' hr hK.kh
theorem KAp.keep (h : KAp B e pos news t z cs w w') {g : Nat} (hg : B ≤ g) (hb : Bx w g t cs) : Bx w' g t cs := by
  rcases h.own g cs hg hb with h1 | ⟨-, h1⟩ <;> exact h1
theorem stab_ptrA : RS.Stab (KAp B e pos news t z cs) (RS.PtrZ B t z cs) := fun x v w w' ⟨g, e1, hg, hb⟩ h => by
  rcases hb with hb | hb
  · rcases h.own g z hg hb with h1 | ⟨-, h1⟩
    · exact ⟨g, e1, hg, .inl h1⟩
    · exact ⟨g, e1, hg, .inr h1⟩
  · exact ⟨g, e1, hg, .inr (h.keep hg hb)⟩
theorem stab_stoA : RS.Stab (KAp B e pos news t z cs) (RS.StoZ B t cs) := fun x v w w' ⟨g, e1, hg, hb⟩ h => ⟨g, e1, hg, h.keep hg hb⟩
theorem KAp.new (h : KAp B e pos news t z cs W w) (hB : B ≤ W.heap.size) (x : Value) : KAp B e pos news t z cs w (w.alloc (.cells z t)) ∧ RS.PtrZ B t z cs x (.pointer (some ⟨w.heap.size, 0, none⟩)) (w.alloc (.cells z t)) :=
  ⟨h.call hB (bNew (Below.refl w.heap.size w) _), _, rfl, Nat.le_trans hB h.size, .inl (Bx.mk w t z)⟩
theorem KAp.ofZ (he : e ≠ t) (h : RS.KZ B t z cs w w') : KAp B e pos news t z cs w w' := ⟨⟨h.bl, h.size, fun g c _ hb => ⟨c, h.oth.bx he hb, rfl, fun i v _ hv => .inl hv⟩⟩, h.own⟩
theorem KAp.stores (he : e ≠ t) {g : Nat} {L : List Value} (hL : cs = L.toArray) (hz : z.size = L.length) (hg : B ≤ g) (hB : Bx w g t z ∨ Bx w g t cs) (x y : Value) (hx : x = .pointer (some ⟨g, 0, none⟩)) : KAp B e pos news t z cs w (w.setCells g 0 L) ∧ RS.StoZ B t cs x y (w.setCells g 0 L) := by
  obtain ⟨h1, h2⟩ := RS.KZ.stores (w := w) hL hz hg hB x y hx
  exact ⟨KAp.ofZ he h1, h2⟩
end
theorem wpList_append_KAp {P : Program} {w : World} {ops : Array Oper} {rest : List Oper} {o : Oper} {a : Act} {Q : Exit → Act → World → Prop} (hgd : o.guard = none) (s y : Operand) (t e : TypeId) (t' : TypeId) (z' cs' : Array Value) (he : e ≠ t') (ho : o.op = .call { callee := .builtin .append, args := #[s, y], argTypes := #[t, t] })
    (i : TypeInfo) (z : Value) (size B n m : Nat) (flat news : List Value) (v x : Value) (ht : P.underlying t = some (.slice e)) (hi : P.info? e = some i) (hz : i.zero = some z)
    (hsize : i.size = size) (hzs : z.cells.size = size) (hes : a.eval s = v) (hey : a.eval y = x) (hv : RowZ e size B n flat v w) (hB : B ≤ w.heap.size) (hs : Src P size t x m news w) (hm : 0 < m) (h63 : n + m ≤ maxLen) (hb : (n + m) * i.bytes ≤ 140737488355328)
    (h : ∀ v' w', KAp B e (n * size) news t' z' cs' w w' → RowZ e size B (n + m) (flat ++ news) v' w' → wpList P ops Q rest (a.put o.dst v') w') : wpList P ops Q (o :: rest) a w := by
  obtain ⟨v', w', hr, h1, h2⟩ := append_KH (P := P) w t o.type e i z size B n m flat news v x ht hi hz hsize hzs hv hB hs hm h63 hb
  obtain ⟨v2, w2, hr2, -, k2, -⟩ := append_rowF (P := P) w t o.type e i z size B n m flat news v x ht hi hz hsize hzs hv hB hs hm h63 hb
  have hkv : KpV v v' w w' := by
    have := hr.symm.trans hr2
    simp only [Result.ok.injEq] at this
    rw [this.1, this.2]; exact k2
  have hka : KAp B e (n * size) news t' z' cs' w w' := ⟨h1, fun g c _ hb' => .inl (hkv.bx hb' fun n9 c9 hv9 => by
    rcases hv with ⟨hv, -, -⟩ | ⟨cap, ⟨g1, cs1, hv1, -, -, hB1, -⟩, -⟩
    · rw [hv] at hv9; cases hv9
    · rw [hv1] at hv9
      simp only [Value.slice.injEq, Option.some.injEq, Addr.mk.injEq, and_true] at hv9
      obtain ⟨rfl, -, -⟩ := hv9
      have hh := hB1.symm.trans hb'
      simp only [Option.some.injEq, Obj.cells.injEq] at hh
      exact he hh.2.1)⟩
  refine wpList_plain hgd fun _ hK => ?_
  unfold Oper.wp execOp
  simp only [ho, resolve, invoke, builtin, Sem.run_bind, Sem.run_pure, Result.andThen_ok, List.map_toArray, List.map_cons, List.map_nil, hes, hey, hr]
  exact hK _ _ (h v' w' hka h2)
end Go.Proofs.YtlmnmeppgigjnaaGreatDoor
namespace Go.Proofs.YtlmnmeppgigjnaaGreatDoor
set_option linter.unusedVariables false
set_option linter.unusedSimpArgs false
open Go.RowKit
def IntR (B m : Nat) (v : Value) (W : World) : Prop := ∃ zs : List Int, zs.length = m ∧ RowZ 3 1 B m (zs.flatMap inC) v W
theorem fm_inC (L : List Int) : L.flatMap inC = L.map (Value.int .i64) := by
  induction L with
  | nil => rfl
  | cons e es ih => rw [List.flatMap_cons, ih]; rfl
theorem IntR.call {B m : Nat} {v : Value} {W W' : World} (h : IntR B m v W) (hb : Below W.heap.size W W') : IntR B m v W' := by
  obtain ⟨zs, h1, h2⟩ := h
  exact ⟨zs, h1, stab_rowZ _ _ _ _ _ _ _ _ h2 hb⟩
theorem IntR.at {B m : Nat} {v : Value} {W : World} (h : IntR B m v W) : ∃ (zs : List Int) (A : Option Addr) (cap : Nat), zs.length = m ∧ v = .slice A m cap ∧ At 1 inC W W.heap.size A zs ∧ m ≤ cap ∧ cap ≤ maxLen := by
  obtain ⟨zs, h1, h2⟩ := h
  subst h1
  obtain ⟨A, c, e1, e2, e3, e4⟩ := RowZ.at (p := zs) (f := inC) (fun _ => rfl) h2
  exact ⟨zs, A, c, rfl, e1, e2, e3, e4⟩
theorem intR_cells {B m cap g : Nat} {W : World} {cs : Array Value} (hg : B ≤ g) (hc : m ≤ cap) (hcm : cap ≤ maxLen) (hB : Bx W g 3 cs) (hs : cs.size = cap * 1) (h : ∀ i, i < m → ∃ z : Int, cs[i]? = some (.int .i64 z)) : IntR B m (.slice (some ⟨g, 0, none⟩) m cap) W := by
  obtain ⟨zs, h1, h2⟩ := choose_list (Q := fun i z => cs[i]? = some (Value.int .i64 z)) m h
  have hfl : (zs.flatMap inC).length = m * 1 := by rw [fm_inC, List.length_map, h1, Nat.mul_one]
  refine ⟨zs, h1, .inr ⟨cap, ⟨g, cs, rfl, hg, hc, hB, hs, flat_of hfl (by omega) fun i hi => ?_⟩, hcm⟩⟩
  have hi' : i < zs.length := by omega
  rw [h2 i zs[i] (List.getElem?_eq_getElem hi'), fm_inC, List.getElem?_map, List.getElem?_eq_getElem hi']; rfl
theorem IntR.cells {B m : Nat} {v : Value} {W : World} (h : IntR B m v W) : v = .slice none 0 0 ∧ m = 0 ∨ ∃ g cap cs, v = .slice (some ⟨g, 0, none⟩) m cap ∧ B ≤ g ∧ m ≤ cap ∧ cap ≤ maxLen ∧ Bx W g 3 cs ∧ cs.size = cap * 1 ∧ ∀ i, i < m → ∃ z : Int, cs[i]? = some (.int .i64 z) := by
  obtain ⟨zs, h1, h2⟩ := h
  rcases h2 with ⟨e1, e2, -⟩ | ⟨cap, ⟨g, cs, e1, hg, hc, hB, hs, hf⟩, hcm⟩
  · exact .inl ⟨e1, e2⟩
  · refine .inr ⟨g, cap, cs, e1, hg, hc, hcm, hB, hs, fun i hi => ?_⟩
    have hfl : (zs.flatMap inC).length = m * 1 := by rw [fm_inC, List.length_map, h1, Nat.mul_one]
    have hi' : i < zs.length := by omega
    refine ⟨zs[i], ?_⟩
    rw [flat_cells hfl hf (by omega), fm_inC, List.getElem?_map, List.getElem?_eq_getElem hi']; rfl
theorem intR_nil (B : Nat) (W : World) : IntR B 0 (.slice none 0 0) W := ⟨[], rfl, .inl ⟨rfl, rfl, rfl⟩⟩
theorem IntR.kh {B m pos : Nat} {k : Int} {v : Value} {W W' : World} (h : IntR B m v W) (hk : KH B 3 pos [.int .i64 k] W W') (hm : m ≤ pos + 1) : IntR B m v W' := by
  rcases h.cells with ⟨rfl, rfl⟩ | ⟨g, cap, cs, rfl, hg, hc, hcm, hB, hs, hz⟩
  · exact intR_nil _ _
  · obtain ⟨c', h1, h2, h3⟩ := hk.2.2 g cs hg hB
    refine intR_cells hg hc hcm h1 (by rw [h2]; exact hs) fun i hi => ?_
    obtain ⟨z, hz'⟩ := hz i hi
    rcases h3 i _ (by simp; omega) hz' with h4 | ⟨h4, u, h5, h6⟩
    · exact ⟨z, h4⟩
    · rcases Nat.eq_zero_or_pos (i - pos) with e | e
      · rw [e] at h5
        simp only [List.getElem?_cons_zero, Option.some.injEq] at h5
        exact ⟨k, by rw [h6, ← h5]⟩
      · rw [List.getElem?_eq_none (by simp; omega)] at h5; cases h5
theorem IntR.set {B m g i : Nat} {k : Int} {v : Value} {W : World} {cs : Array Value} (h : IntR B m v W) (hB : Bx W g 3 cs) : IntR B m v (W.setCell ⟨g, i, none⟩ (.int .i64 k)) := by
  rcases h.cells with ⟨rfl, rfl⟩ | ⟨g', cap, cs', rfl, hg, hc, hcm, hB', hs, hz⟩
  · exact intR_nil _ _
  · by_cases e : g' = g
    · subst e
      refine intR_cells hg hc hcm (hB'.set i (.int .i64 k)) (by simpa using hs) fun j hj => ?_
      obtain ⟨z, hz'⟩ := hz j hj
      rw [Array.getElem?_setIfInBounds]
      split
      · split
        · exact ⟨k, rfl⟩
        · rename_i h1 h2
          rw [h1] at h2
          exact absurd (Array.getElem?_eq_some_iff.1 hz').1 h2
      · exact ⟨z, hz'⟩
    · exact intR_cells hg hc hcm (hB'.far (p := ⟨g, i, none⟩) e (.int .i64 k)) hs hz
theorem bx_ty {W : World} {g g' : Nat} {t t' : TypeId} {cs cs' : Array Value} (h : Bx W g t cs) (h' : Bx W g' t' cs') (ht : t ≠ t') : g ≠ g' := fun e => by
  subst e
  have hh := h.symm.trans h'
  simp only [Option.some.injEq, Obj.cells.injEq] at hh
  exact ht hh.2.1
theorem IntR.other {B m g i : Nat} {t : TypeId} {u : Value} {v : Value} {W : World} {cs : Array Value} (h : IntR B m v W) (hB : Bx W g t cs) (ht : 3 ≠ t) : IntR B m v (W.setCell ⟨g, i, none⟩ u) := by
  obtain ⟨zs, h1, h2⟩ := h
  exact ⟨zs, h1, h2.other hB ht⟩
theorem i6_tdiv5 {x : Int} (h : I6 x) : I6 (x.tdiv 5) := by
  obtain ⟨h1, h2⟩ := h
  rcases Int.lt_or_le x 0 with h3 | h3
  · have e : x.tdiv 5 = -((-x) / 5) := by
      have h4 : x = -(-x) := by omega
      rw [h4, Int.neg_tdiv, Int.tdiv_eq_ediv_of_nonneg (by omega)]
      omega
    rw [e]; constructor <;> omega
  · rw [Int.tdiv_eq_ediv_of_nonneg h3]; constructor <;> omega
end Go.Proofs.YtlmnmeppgigjnaaGreatDoor
namespace Go.Proofs.YtlmnmeppgigjnaaGreatDoor
set_option linter.unusedVariables false
set_option linter.unusedSimpArgs false
open Go.RowKit Go.Shelf
attribute [local go_sem] Oper.semAt_some
theorem inC_one (c : Int) : ∀ u ∈ inC c, u.oneCell' = true := fun u hu => by
  simp only [inC, List.mem_cons, List.not_mem_nil, or_false] at hu
  subst hu; rfl
theorem results_B {fn : Func} {t : Tmp} {g : Nat} {a b c : Value} (hf : fn.results = #[.cell t 31]) (tmps : Array Value) (w : World) (ht : tmps.getD t undef = .pointer (some ⟨g, 0, none⟩)) (hB : Bx w g 31 #[a, b, c]) :
    (results fn tmps).run Tryz.prog w = .ok (.agg #[a, b, c]) w := by
  have h0 := hB.cell 0 rfl
  have h1 := hB.cell 1 rfl
  have h2 := hB.cell 2 rfl
  have ht' : tmps[t]?.getD undef = .pointer (some ⟨g, 0, none⟩) := by simpa using ht
  simp only [results, hf]
  simp [go_sem, ht', h0, h1, h2, loadVar]
theorem kap_bx {B : Nat} {e t : TypeId} {pos : Nat} {news : List Value} {g : Nat} {cs : Array Value} {W W' : World} (h : KAp B e pos news t #[] #[] W W') (hg : B ≤ g) (hB : Bx W g t cs) (hne : cs ≠ #[]) : Bx W' g t cs := by
  rcases h.own g cs hg hB with h1 | ⟨h1, -⟩
  · exact h1
  · exact absurd h1 hne
theorem IntR.shorter {B m m' c : Nat} {A : Option Addr} {W : World} (h : IntR B m (.slice A m c) W) (hm : m' ≤ m) : IntR B m' (.slice A m' c) W := by
  rcases h.cells with ⟨e, rfl⟩ | ⟨g, cap, cs, e, hg, hc, hcm, hB, hs, hz⟩
  · simp only [Value.slice.injEq] at e
    obtain ⟨rfl, -, rfl⟩ := e
    obtain rfl : m' = 0 := by omega
    exact intR_nil _ _
  · simp only [Value.slice.injEq] at e
    obtain ⟨rfl, -, rfl⟩ := e
    exact intR_cells hg (by omega) hcm hB hs fun i hi => hz i (by omega)
theorem fin_bent {B D lp lu cp cu : Nat} {kk : Int} {AP AU : Option Addr} {w W : World} (hP : IntR B lp (.slice AP lp cp) W) (hU : IntR D lu (.slice AU lu cu) W) (hb : Below w.heap.size w W) : (∃ q' v', (Ending.returned (.agg #[.int .i64 kk, .slice AP lp cp, .slice AU lu cu])) = Ending.returned v' ∧ RoQ q' v' W) ∧ Below w.heap.size w W := by
  obtain ⟨zp, A1, c1, l1, e1, a1, h1, h2⟩ := hP.at
  obtain ⟨zu, A2, c2, l2, e2, a2, h3, h4⟩ := hU.at
  simp only [Value.slice.injEq] at e1 e2
  obtain ⟨rfl, -, rfl⟩ := e1
  obtain ⟨rfl, -, rfl⟩ := e2
  exact ⟨⟨⟨kk, zp, zu⟩, _, rfl, AP, cp, AU, cu, by rw [l1, l2], a1, a2, by rw [l1]; exact h1, by rw [l2]; exact h3, h2, h4⟩, hb⟩
/-- three cells of a block of the type of routes are stored -/
theorem set3 {W : World} {g B : Nat} {a b c x y z : Value} (hB : Bx W g 31 #[a, b, c]) (hg : B ≤ g) :
    Bx (((W.setCell ⟨g, 0, none⟩ x).setCell ⟨g, 1, none⟩ y).setCell ⟨g, 2, none⟩ z) g 31 #[x, y, z] ∧ Below B W (((W.setCell ⟨g, 0, none⟩ x).setCell ⟨g, 1, none⟩ y).setCell ⟨g, 2, none⟩ z) ∧ (∀ (m : Nat) (v : Value) (D : Nat), IntR D m v W → IntR D m v (((W.setCell ⟨g, 0, none⟩ x).setCell ⟨g, 1, none⟩ y).setCell ⟨g, 2, none⟩ z)) ∧ (∀ (h : Nat) (t : TypeId) (cs : Array Value), h ≠ g → Bx W h t cs → Bx (((W.setCell ⟨g, 0, none⟩ x).setCell ⟨g, 1, none⟩ y).setCell ⟨g, 2, none⟩ z) h t cs) := by
  have B1 := hB.set 0 x
  have B2 := B1.set 1 y
  have b1 : Below B W (W.setCell ⟨g, 0, none⟩ x) := (Below.refl B W).setCell (p := ⟨g, 0, none⟩) hg x
  have b2 := b1.setCell (p := ⟨g, 1, none⟩) hg y
  have b3 := b2.setCell (p := ⟨g, 2, none⟩) hg z
  exact ⟨B2.set 2 z, b3, fun m v D h => ((h.other hB (by decide)).other B1 (by decide)).other B2 (by decide), fun h t cs hne hx => ((hx.far (p := ⟨g, 0, none⟩) hne x).far (p := ⟨g, 1, none⟩) hne y).far (p := ⟨g, 2, none⟩) hne z⟩
set_option maxRecDepth 100000 in
set_option maxHeartbeats 8000000 in
theorem bent_any (r : Rq) (v : Value) (how k : Int) (w : World) (hR : RoQ r v w) (hl : r.path.length = r.used.length + 1) (hp6 : r.path.length ≤ 6) (h1 : I6 how) (h2 : I6 k) :
    Calls Tryz.prog 16 #[v, .int .i64 how, .int .i64 k] w fun e w' => (∃ q' v', e = .returned v' ∧ RoQ q' v' w') ∧ Below w.heap.size w w' := by
  obtain ⟨ti, tz, hti, hzz, hs1, hz1, hby⟩ := intI
  obtain ⟨kind, path, used⟩ := r
  obtain ⟨P, pc, U, uc, rfl, hP, hU, hPc, hUc, hPm, hUm⟩ := hR
  dsimp only at hP hU hPc hUc hl hp6 ⊢
  have hpk := fun w0 => rpick_any how 5 (by decide) h1 w0
  obtain ⟨x0, x9⟩ := Tw.pick_in how (n := 5) (by decide)
  generalize Tw.pick how 5 = xx at *
  replace hl := Kp.mk hl
  have hul : used.length ≤ 5 := by have := hl.out; omega
  have hb := bNew (bNx w (.cells #[.int .i64 kind, .slice P path.length pc, .slice U used.length uc] 31)) (.cells #[.int .i64 0, .slice none 0 0, .slice none 0 0] 31)
  have B0 := (Bx.mk w 31 #[.int .i64 kind, .slice P path.length pc, .slice U used.length uc]).new (.cells #[.int .i64 0, .slice none 0 0, .slice none 0 0] 31)
  have B1 := Bx.mk (w.alloc (.cells #[.int .i64 kind, .slice P path.length pc, .slice U used.length uc] 31)) 31 #[.int .i64 0, .slice none 0 0, .slice none 0 0]
  simp only [World.size_alloc] at B1
  replace hP := hP.callx hb
  replace hU := hU.callx hb
  go_enter Tryz.func16, Tryz.ntmps16
  go_upto_region 1 with fail
  obtain ⟨g0, hg0⟩ := exKx w.heap.size
  rw [hg0.out] at B0 B1 ⊢
  have hB1l := B1.lt
  generalize (w.alloc (.cells #[.int .i64 kind, .slice P path.length pc, .slice U used.length uc] 31)).alloc (.cells #[.int .i64 0, .slice none 0 0, .slice none 0 0] 31) = w1 at *
  refine wp_region_rgl [Eqv (.pointer (some ⟨g0, 0, none⟩)), Eqv (.int .i64 kind), RoE w1.heap.size 3 undef, Eqv (.pointer (some ⟨g0, 1, none⟩)), Eqv (.slice P path.length pc), (fun v W => RowZ 3 1 w1.heap.size path.length (path.flatMap inC) v W), RoE w1.heap.size 3 undef, Eqv (.pointer (some ⟨g0, 2, none⟩)), Eqv (.slice U used.length uc), (fun v W => RowZ 3 1 w1.heap.size used.length (used.flatMap inC) v W), (fun v W => ∃ vp vu, v = .agg #[.int .i64 kind, vp, vu] ∧ RowZ 3 1 w1.heap.size path.length (path.flatMap inC) vp W ∧ RowZ 3 1 w1.heap.size used.length (used.flatMap inC) vu W), (fun v W => ∃ g, v = .pointer (some ⟨g, 0, none⟩) ∧ w1.heap.size ≤ g ∧ Bx W g 31 #[.int .i64 0, .slice none 0 0, .slice none 0 0])] 12 70 (by kernel_rfl) rfl rfl (by kernel_rfl) ?_ ?_ ?_
  · simp only [AllS]
    exact ⟨stab_eqv _, stab_eqv _, stab_roEb _ _, stab_eqv _, stab_eqv _, (fun v w w' h hb => stab_rowZ _ _ _ _ _ _ _ _ h hb), stab_roEb _ _, stab_eqv _, stab_eqv _, (fun v w w' h hb => stab_rowZ _ _ _ _ _ _ _ _ h hb), (fun v w w' ⟨vp, vu, h1, h2, h3⟩ hb => ⟨vp, vu, h1, stab_rowZ _ _ _ _ _ _ _ _ h2 hb, stab_rowZ _ _ _ _ _ _ _ _ h3 hb⟩), (fun v w w' ⟨g, h1, h2, h3⟩ hb => ⟨g, h1, h2, h3.call hb⟩), trivial⟩
  · simp only [Users, List.take, List.length]
    refine ⟨?_, ?_, ?_, ?_, ?_, ?_, ?_, ?_, ?_, ?_, ?_, ?_, trivial⟩
    all_goals (intro vs w2 hb2 hd; simp only [putD, Act.put, List.nil_append, List.cons_append, List.setIfInBounds_toArray, List.set_cons_succ, List.set_cons_zero, Nat.reduceAdd])
    · clear hd B0 B1 hP hU hpk hb; go_wp2; first | exact ⟨Below.refl _ _, rfl⟩ | exact ⟨Below.refl _ _, by simp [Eqv]⟩ | (simp [Eqv])
    · have e0 := hd 0 rfl; change vs 0 = _ at e0; have x0 := (B0.call hb2).cell 0 rfl; clear hd B0 B1 hP hU hpk hb; rw [e0]; go_wp2; first | exact ⟨Below.refl _ _, rfl⟩ | exact ⟨Below.refl _ _, by simp [Eqv]⟩ | (simp [Eqv])
    · have hsz := hb2.size
      have hR9 := roE_new (B := w1.heap.size) (e := 3) w2 hsz undef
      clear hd B0 B1 hP hU hpk hb
      go_wp2
      exact ⟨bNew (Below.refl _ _) _, hR9⟩
    · clear hd B0 B1 hP hU hpk hb; go_wp2; first | exact ⟨Below.refl _ _, rfl⟩ | exact ⟨Below.refl _ _, by simp [Eqv]⟩ | (simp [Eqv])
    · have e0 := hd 3 rfl; change vs 3 = _ at e0; have x0 := (B0.call hb2).cell 1 rfl; clear hd B0 B1 hP hU hpk hb; rw [e0]; go_wp2; first | exact ⟨Below.refl _ _, rfl⟩ | exact ⟨Below.refl _ _, by simp [Eqv]⟩ | (simp [Eqv])
    · have hrow1 : RoE w1.heap.size 3 undef (vs 2) w2 := hd 2 rfl
      have e1 : vs 4 = _ := hd 4 rfl
      have hsrc := At.src (P := Tryz.prog) (e := 3) (t := 29) (f := inC) (fun _ => rfl) inC_one Tryz.underlying29 (hP.callx hb2) pc
      have hsz := hb2.size
      clear hd B0 B1 hP hU hpk hb
      rw [e1]
      go_wp2_with (at_builtin; refine wpList_append_E rfl (.tmp 10) (.tmp 12) 29 3 rfl ti tz 1 w1.heap.size path.length (path.flatMap inC) (vs 2) (.slice P path.length pc) undef Tryz.underlying29 hti hzz hs1 hz1 rfl rfl hrow1 hsz hsrc (by unfold maxLen; omega) (by rw [hby]; omega) ?_; intro v' w4 q1 q2)
      first | exact q2 | exact ⟨q1, q2⟩
    · have hsz := hb2.size
      have hR9 := roE_new (B := w1.heap.size) (e := 3) w2 hsz undef
      clear hd B0 B1 hP hU hpk hb
      go_wp2
      exact ⟨bNew (Below.refl _ _) _, hR9⟩
    · clear hd B0 B1 hP hU hpk hb; go_wp2; first | exact ⟨Below.refl _ _, rfl⟩ | exact ⟨Below.refl _ _, by simp [Eqv]⟩ | (simp [Eqv])
    · have e0 := hd 7 rfl; change vs 7 = _ at e0; have x0 := (B0.call hb2).cell 2 rfl; clear hd B0 B1 hP hU hpk hb; rw [e0]; go_wp2; first | exact ⟨Below.refl _ _, rfl⟩ | exact ⟨Below.refl _ _, by simp [Eqv]⟩ | (simp [Eqv])
    · have hrow1 : RoE w1.heap.size 3 undef (vs 6) w2 := hd 6 rfl
      have e1 : vs 8 = _ := hd 8 rfl
      have hsrc := At.src (P := Tryz.prog) (e := 3) (t := 29) (f := inC) (fun _ => rfl) inC_one Tryz.underlying29 (hU.callx hb2) uc
      have hsz := hb2.size
      clear hd B0 B1 hP hU hpk hb
      rw [e1]
      go_wp2_with (at_builtin; refine wpList_append_E rfl (.tmp 14) (.tmp 16) 29 3 rfl ti tz 1 w1.heap.size used.length (used.flatMap inC) (vs 6) (.slice U used.length uc) undef Tryz.underlying29 hti hzz hs1 hz1 rfl rfl hrow1 hsz hsrc (by unfold maxLen; omega) (by rw [hby]; omega) ?_; intro v' w4 q1 q2)
      first | exact q2 | exact ⟨q1, q2⟩
    · have e1 : vs 1 = _ := hd 1 rfl
      have hr5 : RowZ 3 1 w1.heap.size path.length (path.flatMap inC) (vs 5) w2 := hd 5 rfl
      have hr9 : RowZ 3 1 w1.heap.size used.length (used.flatMap inC) (vs 9) w2 := hd 9 rfl
      obtain ⟨A5, c5, e5⟩ := RowZ.shp hr5
      obtain ⟨A9, c9, e9⟩ := RowZ.shp hr9
      rw [e5] at hr5
      rw [e9] at hr9
      clear hd B0 B1 hP hU hpk hb
      rw [e1, e5, e9]
      go_wp2
      first | exact ⟨Below.refl _ _, _, _, rfl, hr5, hr9⟩ | exact ⟨_, _, rfl, hr5, hr9⟩
    · have hsz := hb2.size
      clear hd B0 B1 hP hU hpk hb
      go_wp2
      exact ⟨bNew (Below.refl _ _) _, _, rfl, hsz, Bx.mk w2 _ _⟩
  · intro vs wa hba hR2
    simp only [AllR, Eqv] at hR2
    obtain ⟨-, -, -, -, -, -, -, -, -, -, e10, e11, -⟩ := hR2
    simp only [List.drop, List.take, List.map, putD, Act.put, List.setIfInBounds_toArray, List.set_cons_succ, List.set_cons_zero, Nat.reduceAdd]
    obtain ⟨vp, vu, e10', hrP, hrU⟩ := e10
    obtain ⟨g, e11', hg, hG⟩ := e11
    rw [e10', e11']
    obtain ⟨A5, c5, e5⟩ := RowZ.shp hrP
    obtain ⟨A9, c9, e9⟩ := RowZ.shp hrU
    subst e5 e9
    clear e10' e11'
    obtain ⟨hG2, hbG, hkI, hkB⟩ := set3 (x := .int .i64 kind) (y := .slice A5 path.length c5) (z := .slice A9 used.length c9) hG hg
    replace hrP := hkI _ _ _ (⟨path, rfl, hrP⟩ : IntR w1.heap.size path.length (.slice A5 path.length c5) wa)
    replace hrU := hkI _ _ _ (⟨used, rfl, hrU⟩ : IntR w1.heap.size used.length (.slice A9 used.length c9) wa)
    replace B1 := hkB _ _ _ (by omega) (B1.call hba)
    replace hb : Below w.heap.size w _ := (bCall hb hba).trans (hbG.mono (by have := hb.size; exact this))
    have f0 := hG.frozen 0
    have f1 := hG.frozen 1
    have f2 := hG.frozen 2
    have q0 := hG.cell 0 rfl
    have q1 := hG.cell 1 rfl
    have q2 := hG.cell 2 rfl
    go_upto_region 2 with fail
    clear f0 f1 f2 q0 q1 q2 hG hbG hkI hkB hba hP hU B0
    generalize ((wa.setCell ⟨g, 0, none⟩ (.int .i64 kind)).setCell ⟨g, 1, none⟩ (.slice A5 path.length c5)).setCell ⟨g, 2, none⟩ (.slice A9 used.length c9) = w2 at *
    go_wp2_with fail
    refine (hpk _).mono ?_
    rintro _ _ ⟨rfl, rfl⟩
    clear hpk
    have hx5 : xx = 0 ∨ xx = 1 ∨ xx = 2 ∨ xx = 3 ∨ xx = 4 := by omega
    have hgw : w.heap.size ≤ g := by have := hg0.out; omega
    have hgg : g0 + 1 ≠ g := by omega
    rcases hx5 with rfl | rfl | rfl | rfl | rfl
    · have f0 := hG2.frozen 0
      have q0 := hG2.cell 0 rfl
      go_upto_region 14 with fail
      have G : Bx (w2.setCell ⟨g, 0, none⟩ (.int .i64 k)) g 31 #[.int .i64 k, .slice A5 path.length c5, .slice A9 used.length c9] := hG2.set 0 _
      replace hrP := hrP.other (i := 0) (u := .int .i64 k) hG2 (by decide)
      replace hrU := hrU.other (i := 0) (u := .int .i64 k) hG2 (by decide)
      replace B1 := B1.far (p := ⟨g, 0, none⟩) hgg (.int .i64 k)
      replace hb := bSet hb (p := ⟨g, 0, none⟩) hgw (.int .i64 k)
      clear f0 q0 hG2
      generalize w2.setCell ⟨g, 0, none⟩ (.int .i64 k) = w3 at *
      have c0 := G.cell 0 rfl
      have c1 := G.cell 1 rfl
      have c2 := G.cell 2 rfl
      have f0 := B1.frozen 0
      have f1 := B1.frozen 1
      have f2 := B1.frozen 2
      have q0 := B1.cell 0 rfl
      have q1 := B1.cell 1 rfl
      have q2 := B1.cell 2 rfl
      obtain ⟨hR3, hbR, hkI, -⟩ := set3 (x := .int .i64 k) (y := .slice A5 path.length c5) (z := .slice A9 used.length c9) B1 (show w.heap.size ≤ g0 + 1 by have := hg0.out; omega)
      go_wp2_with fail
      exact bodyPost_ret (results_B rfl _ _ rfl hR3) rfl (fin_bent (hkI _ _ _ hrP) (hkI _ _ _ hrU) (hb.trans hbR))
    · skip
      obtain ⟨zs, hzl, hrow⟩ := hrP
      have q1 := hG2.cell 1 rfl
      have hbA : Below w2.heap.size w2 (w2.alloc (.cells #[.int .i64 k] 3)) := bNew (Below.refl _ _) _
      have hRowA := stab_rowZ _ _ _ _ _ _ _ _ hrow hbA
      have hsrc : Src Tryz.prog 1 29 (.slice (some ⟨w2.heap.size, 0, none⟩) 1 1) 1 [.int .i64 k] (w2.alloc (.cells #[.int .i64 k] 3)) := RowC.src (P := Tryz.prog) (B := 0) (cap := 1) (e := 3) (t := 29) (inC_one k) Tryz.underlying29 ⟨w2.heap.size, _, rfl, Nat.zero_le _, Nat.le_refl _, Bx.mk _ _ _, rfl, rfl⟩
      have hsz : w1.heap.size ≤ (w2.alloc (.cells #[.int .i64 k] 3)).heap.size := by rw [World.size_alloc]; have := hG2.lt; omega
      have hGA := hG2.new (.cells #[.int .i64 k] 3)
      go_upto_region 14 with (at_builtin; refine wpList_append_KAp rfl (.tmp 42) (.tmp 44) 29 3 31 #[] #[] (by decide) rfl ti tz 1 w1.heap.size path.length 1 (zs.flatMap inC) [.int .i64 k] (.slice A5 path.length c5) (.slice (some ⟨w2.heap.size, 0, none⟩) 1 1) Tryz.underlying29 hti hzz hs1 hz1 rfl rfl hRowA hsz hsrc (by decide) (by unfold maxLen; omega) (by rw [hby]; omega) ?_; intro v9 w9 e1 e2; obtain ⟨A6, c6, rfl⟩ := RowZ.shp e2; have G9 := kap_bx e1 hg hGA (by simp); have f1 := G9.frozen 1; have q1 := G9.cell 1 rfl; clear q1; have q1 := G9.cell 1 rfl)
      have G := G9.set 1 (.slice A6 (path.length + 1) c6)
      have hrP : IntR w1.heap.size (path.length + 1) (.slice A6 (path.length + 1) c6) w9 := ⟨zs ++ [k], by simp [hzl], by rw [List.flatMap_append]; exact e2⟩
      replace hrU := (hrU.call hbA).kh e1.kh (by have := hl.out; omega)
      replace hrP := hrP.other (i := 1) (u := .slice A6 (path.length + 1) c6) G9 (by decide)
      replace hrU := hrU.other (i := 1) (u := .slice A6 (path.length + 1) c6) G9 (by decide)
      replace B1 := ((B1.call hbA).below e1.bl (by omega)).far (p := ⟨g, 1, none⟩) hgg (.slice A6 (path.length + 1) c6)
      replace hb := bSet ((bCall hb hbA).trans (e1.bl.mono (by have := hg0.out; omega))) (p := ⟨g, 1, none⟩) hgw (.slice A6 (path.length + 1) c6)
      simp only [List.setIfInBounds_toArray, List.set_cons_succ, List.set_cons_zero] at G
      clear f1 q1 hG2 G9 e1 e2 hRowA hsrc hsz hGA hbA hrow
      generalize w9.setCell ⟨g, 1, none⟩ (.slice A6 (path.length + 1) c6) = w3 at *
      have c0 := G.cell 0 rfl
      have c1 := G.cell 1 rfl
      have c2 := G.cell 2 rfl
      have f0 := B1.frozen 0
      have f1 := B1.frozen 1
      have f2 := B1.frozen 2
      have q0 := B1.cell 0 rfl
      have q1 := B1.cell 1 rfl
      have q2 := B1.cell 2 rfl
      obtain ⟨hR3, hbR, hkI, -⟩ := set3 (x := .int .i64 kind) (y := .slice A6 (path.length + 1) c6) (z := .slice A9 used.length c9) B1 (show w.heap.size ≤ g0 + 1 by have := hg0.out; omega)
      go_wp2_with fail
      exact bodyPost_ret (results_B rfl _ _ rfl hR3) rfl (fin_bent (hkI _ _ _ hrP) (hkI _ _ _ hrU) (hb.trans hbR))
    · skip
      obtain ⟨zs, hzl, hrow⟩ := hrU
      have q1 := hG2.cell 2 rfl
      have hbA : Below w2.heap.size w2 (w2.alloc (.cells #[.int .i64 k] 3)) := bNew (Below.refl _ _) _
      have hRowA := stab_rowZ _ _ _ _ _ _ _ _ hrow hbA
      have hsrc : Src Tryz.prog 1 29 (.slice (some ⟨w2.heap.size, 0, none⟩) 1 1) 1 [.int .i64 k] (w2.alloc (.cells #[.int .i64 k] 3)) := RowC.src (P := Tryz.prog) (B := 0) (cap := 1) (e := 3) (t := 29) (inC_one k) Tryz.underlying29 ⟨w2.heap.size, _, rfl, Nat.zero_le _, Nat.le_refl _, Bx.mk _ _ _, rfl, rfl⟩
      have hsz : w1.heap.size ≤ (w2.alloc (.cells #[.int .i64 k] 3)).heap.size := by rw [World.size_alloc]; have := hG2.lt; omega
      have hGA := hG2.new (.cells #[.int .i64 k] 3)
      go_upto_region 14 with (at_builtin; refine wpList_append_KAp rfl (.tmp 50) (.tmp 52) 29 3 31 #[] #[] (by decide) rfl ti tz 1 w1.heap.size used.length 1 (zs.flatMap inC) [.int .i64 k] (.slice A9 used.length c9) (.slice (some ⟨w2.heap.size, 0, none⟩) 1 1) Tryz.underlying29 hti hzz hs1 hz1 rfl rfl hRowA hsz hsrc (by decide) (by unfold maxLen; omega) (by rw [hby]; omega) ?_; intro v9 w9 e1 e2; obtain ⟨A6, c6, rfl⟩ := RowZ.shp e2; have G9 := kap_bx e1 hg hGA (by simp); have f1 := G9.frozen 2; have q1 := G9.cell 2 rfl; clear q1; have q1 := G9.cell 2 rfl)
      have G := G9.set 2 (.slice A6 (used.length + 1) c6)
      have hrU : IntR w1.heap.size (used.length + 1) (.slice A6 (used.length + 1) c6) w9 := ⟨zs ++ [k], by simp [hzl], by rw [List.flatMap_append]; exact e2⟩
      replace hrP := (hrP.call hbA).kh e1.kh (by have := hl.out; omega)
      replace hrP := hrP.other (i := 2) (u := .slice A6 (used.length + 1) c6) G9 (by decide)
      replace hrU := hrU.other (i := 2) (u := .slice A6 (used.length + 1) c6) G9 (by decide)
      replace B1 := ((B1.call hbA).below e1.bl (by omega)).far (p := ⟨g, 2, none⟩) hgg (.slice A6 (used.length + 1) c6)
      replace hb := bSet ((bCall hb hbA).trans (e1.bl.mono (by have := hg0.out; omega))) (p := ⟨g, 2, none⟩) hgw (.slice A6 (used.length + 1) c6)
      simp only [List.setIfInBounds_toArray, List.set_cons_succ, List.set_cons_zero] at G
      clear f1 q1 hG2 G9 e1 e2 hRowA hsrc hsz hGA hbA hrow
      generalize w9.setCell ⟨g, 2, none⟩ (.slice A6 (used.length + 1) c6) = w3 at *
      have c0 := G.cell 0 rfl
      have c1 := G.cell 1 rfl
      have c2 := G.cell 2 rfl
      have f0 := B1.frozen 0
      have f1 := B1.frozen 1
      have f2 := B1.frozen 2
      have q0 := B1.cell 0 rfl
      have q1 := B1.cell 1 rfl
      have q2 := B1.cell 2 rfl
      obtain ⟨hR3, hbR, hkI, -⟩ := set3 (x := .int .i64 kind) (y := .slice A5 path.length c5) (z := .slice A6 (used.length + 1) c6) B1 (show w.heap.size ≤ g0 + 1 by have := hg0.out; omega)
      go_wp2_with fail
      exact bodyPost_ret (results_B rfl _ _ rfl hR3) rfl (fin_bent (hkI _ _ _ hrP) (hkI _ _ _ hrU) (hb.trans hbR))
    · have q1 := hG2.cell 1 rfl
      have f1 := hG2.frozen 1
      have hpos : 1 ≤ path.length := by have := hl.out; omega
      have t1 : decide ((path.length : Int) > 0) = true := decide_eq_true (by omega)
      have hpc5 : path.length ≤ c5 := by
        obtain ⟨zs, A, cc, -, e1, -, e3, -⟩ := hrP.at
        simp only [Value.slice.injEq] at e1
        omega
      go_upto_region 14 with fail
      have G : Bx (w2.setCell ⟨g, 1, none⟩ (.slice A5 (path.length - 1) c5)) g 31 #[.int .i64 kind, .slice A5 (path.length - 1) c5, .slice A9 used.length c9] := hG2.set 1 _
      replace hrP := (hrP.shorter (m' := path.length - 1) (by omega)).other (i := 1) (u := .slice A5 (path.length - 1) c5) hG2 (by decide)
      replace hrU := hrU.other (i := 1) (u := .slice A5 (path.length - 1) c5) hG2 (by decide)
      replace B1 := B1.far (p := ⟨g, 1, none⟩) hgg (.slice A5 (path.length - 1) c5)
      replace hb := bSet hb (p := ⟨g, 1, none⟩) hgw (.slice A5 (path.length - 1) c5)
      clear f1 q1 hG2 t1
      generalize w2.setCell ⟨g, 1, none⟩ (.slice A5 (path.length - 1) c5) = w3 at *
      have c0 := G.cell 0 rfl
      have c1 := G.cell 1 rfl
      have c2 := G.cell 2 rfl
      have f0 := B1.frozen 0
      have f1 := B1.frozen 1
      have f2 := B1.frozen 2
      have q0 := B1.cell 0 rfl
      have q1 := B1.cell 1 rfl
      have q2 := B1.cell 2 rfl
      obtain ⟨hR3, hbR, hkI, -⟩ := set3 (x := .int .i64 kind) (y := .slice A5 (path.length - 1) c5) (z := .slice A9 used.length c9) B1 (show w.heap.size ≤ g0 + 1 by have := hg0.out; omega)
      go_wp2_with fail
      exact bodyPost_ret (results_B rfl _ _ rfl hR3) rfl (fin_bent (hkI _ _ _ hrP) (hkI _ _ _ hrU) (hb.trans hbR))
    · have q2 := hG2.cell 2 rfl
      obtain ⟨hm1, hm2⟩ := And.intro h1.1 h1.2
      obtain ⟨hm3, hm4⟩ := And.intro (i6_tdiv5 h1).1 (i6_tdiv5 h1).2
      by_cases hu0 : used.length = 0
      · have t1 : decide ((used.length : Int) > 0) = false := decide_eq_false (by omega)
        have hz : ¬ (0 < used.length) := by omega
        have hz2 : ¬ ((0 : Int) < used.length) := by omega
        have t2 : decide (0 < used.length) = false := decide_eq_false hz
        clear hu0
        go_upto_region 14 with fail
        clear q2 t1
        have G := hG2
        have c0 := G.cell 0 rfl
        have c1 := G.cell 1 rfl
        have c2 := G.cell 2 rfl
        have f0 := B1.frozen 0
        have f1 := B1.frozen 1
        have f2 := B1.frozen 2
        have q0 := B1.cell 0 rfl
        have q1 := B1.cell 1 rfl
        have q2 := B1.cell 2 rfl
        obtain ⟨hR3, hbR, hkI, -⟩ := set3 (x := .int .i64 kind) (y := .slice A5 path.length c5) (z := .slice A9 used.length c9) B1 (show w.heap.size ≤ g0 + 1 by have := hg0.out; omega)
        go_wp2_with fail
        exact bodyPost_ret (results_B rfl _ _ rfl hR3) rfl (fin_bent (hkI _ _ _ hrP) (hkI _ _ _ hrU) (hb.trans hbR))
      · have t1 : decide ((used.length : Int) > 0) = true := decide_eq_true (by omega)
        have h1s : (0 : Int) < used.length := by omega
        have hpk := fun w0 => rpick_any (how.tdiv 5) used.length h1s (i6_tdiv5 h1) w0
        obtain ⟨p0, p9⟩ := Tw.pick_in (how.tdiv 5) h1s
        obtain ⟨pk, hpk'⟩ : ∃ pk : Nat, Tw.pick (how.tdiv 5) used.length = pk := ⟨(Tw.pick (how.tdiv 5) used.length).toNat, by omega⟩
        rw [hpk'] at hpk p9
        rcases hrU.cells with ⟨-, e2⟩ | ⟨gu, cu, csu, e1, hgu, huc, hucm, hBu, hsu, hzu⟩
        · exact absurd e2 hu0
        simp only [Value.slice.injEq] at e1
        obtain ⟨rfl, -, rfl⟩ := e1
        have hpl : pk < used.length := by omega
        have hne := bx_ty hBu hG2 (by decide)
        clear hpk' p0 p9 h1s hzu
        go_upto_region 4 with fail
        clear q2 t1
        refine wp_region_rgl [Eqv (.pointer (some ⟨g, 2, none⟩)), Eqv (.slice (some ⟨gu, 0, none⟩) used.length c9), Eqv (.int .i64 how), Eqv (.int .i64 (how.tdiv 5)), Eqv (.pointer (some ⟨g, 2, none⟩)), Eqv (.slice (some ⟨gu, 0, none⟩) used.length c9), Eqv (.int .i64 used.length), Eqv (.int .i64 pk), Eqv (.int .i64 k), Eqv (.pointer (some ⟨gu, pk, none⟩))] 10 70 (by kernel_rfl) rfl rfl (by kernel_rfl) ?_ ?_ ?_
        · simp only [AllS]
          exact ⟨stab_eqv _, stab_eqv _, stab_eqv _, stab_eqv _, stab_eqv _, stab_eqv _, stab_eqv _, stab_eqv _, stab_eqv _, stab_eqv _, trivial⟩
        · simp only [Users, List.take, List.length]
          refine ⟨?_, ?_, ?_, ?_, ?_, ?_, ?_, ?_, ?_, ?_, trivial⟩
          all_goals (intro vs w3 hb2 hd; simp only [putD, Act.put, List.nil_append, List.cons_append, List.setIfInBounds_toArray, List.set_cons_succ, List.set_cons_zero, Nat.reduceAdd])
          · clear hd hG2 B1 hrP hrU hBu hb; go_wp2; first | exact ⟨Below.refl _ _, rfl⟩ | exact ⟨Below.refl _ _, by simp [Eqv]⟩ | (simp [Eqv])
          · have e0 := hd 0 rfl; change vs 0 = _ at e0; have x0 := (hG2.call hb2).cell 2 rfl; clear hd hG2 B1 hrP hrU hBu hb; rw [e0]; go_wp2; first | exact ⟨Below.refl _ _, rfl⟩ | exact ⟨Below.refl _ _, by simp [Eqv]⟩ | (simp [Eqv])
          · clear hd hG2 B1 hrP hrU hBu hb; go_wp2; first | exact ⟨Below.refl _ _, rfl⟩ | exact ⟨Below.refl _ _, by simp [Eqv]⟩ | (simp [Eqv])
          · have e0 := hd 2 rfl; change vs 2 = _ at e0; clear hd hG2 B1 hrP hrU hBu hb; rw [e0]; go_wp2; first | exact ⟨Below.refl _ _, rfl⟩ | exact ⟨Below.refl _ _, by simp [Eqv]⟩ | (simp [Eqv])
          · clear hd hG2 B1 hrP hrU hBu hb; go_wp2; first | exact ⟨Below.refl _ _, rfl⟩ | exact ⟨Below.refl _ _, by simp [Eqv]⟩ | (simp [Eqv])
          · have e0 := hd 4 rfl; change vs 4 = _ at e0; have x0 := (hG2.call hb2).cell 2 rfl; clear hd hG2 B1 hrP hrU hBu hb; rw [e0]; go_wp2; first | exact ⟨Below.refl _ _, rfl⟩ | exact ⟨Below.refl _ _, by simp [Eqv]⟩ | (simp [Eqv])
          · have e0 := hd 5 rfl; change vs 5 = _ at e0; clear hd hG2 B1 hrP hrU hBu hb; rw [e0]; go_wp2; first | exact ⟨Below.refl _ _, rfl⟩ | exact ⟨Below.refl _ _, by simp [Eqv]⟩ | (simp [Eqv])
          · have e0 := hd 3 rfl; change vs 3 = _ at e0; have e1 := hd 6 rfl; change vs 6 = _ at e1; have hC := hpk w3; clear hd hG2 B1 hrP hrU hBu hb; rw [e0, e1]
            go_wp2_with fail
            refine hC.mono ?_
            rintro _ w9 ⟨rfl, rfl⟩
            clear hC
            go_wp2
            first | exact ⟨hb9, rfl⟩ | exact ⟨Below.refl _ _, rfl⟩ | rfl
          · clear hd hG2 B1 hrP hrU hBu hb; go_wp2; first | exact ⟨Below.refl _ _, rfl⟩ | exact ⟨Below.refl _ _, by simp [Eqv]⟩ | (simp [Eqv])
          · have e0 := hd 1 rfl; change vs 1 = _ at e0; have e1 := hd 7 rfl; change vs 7 = _ at e1; clear hd hG2 B1 hrP hrU hBu hb; rw [e0, e1]; go_wp2; first | exact ⟨Below.refl _ _, rfl⟩ | exact ⟨Below.refl _ _, by simp [Eqv]⟩ | (simp [Eqv])
        · intro vs wa hba hR2
          simp only [AllR, Eqv] at hR2
          obtain ⟨-, -, -, -, -, -, -, -, e8, e9, -⟩ := hR2
          simp only [List.drop, List.take, List.map, putD, Act.put, List.setIfInBounds_toArray, List.set_cons_succ, List.set_cons_zero, Nat.reduceAdd]
          rw [e8, e9]
          replace hG2 := hG2.call hba
          replace hBu := hBu.call hba
          replace hrP := hrP.call hba
          replace hrU := hrU.call hba
          replace B1 := B1.call hba
          replace hb := bCall hb hba
          have f1 := hBu.frozen pk
          have hpcs : pk < csu.size := by omega
          have q1 : wa.cell? ⟨gu, pk, none⟩ = some csu[pk] := hBu.cell pk (Array.getElem?_eq_getElem hpcs)
          go_upto_region 14 with fail
          have G := hG2.far (p := ⟨gu, pk, none⟩) (Ne.symm hne) (.int .i64 k)
          replace hrP := hrP.set (i := pk) (k := k) hBu
          replace hrU := hrU.set (i := pk) (k := k) hBu
          replace B1 := B1.far (p := ⟨gu, pk, none⟩) (show g0 + 1 ≠ gu by omega) (.int .i64 k)
          replace hb := bSet hb (p := ⟨gu, pk, none⟩) (show w.heap.size ≤ gu by have := hg0.out; omega) (.int .i64 k)
          clear f1 q1 hG2 hBu hpk hba e8 e9
          generalize wa.setCell ⟨gu, pk, none⟩ (.int .i64 k) = w4 at *
          have c0 := G.cell 0 rfl
          have c1 := G.cell 1 rfl
          have c2 := G.cell 2 rfl
          have f0 := B1.frozen 0
          have f1 := B1.frozen 1
          have f2 := B1.frozen 2
          have q0 := B1.cell 0 rfl
          have q1 := B1.cell 1 rfl
          have q2 := B1.cell 2 rfl
          obtain ⟨hR3, hbR, hkI, -⟩ := set3 (x := .int .i64 kind) (y := .slice A5 path.length c5) (z := .slice (some ⟨gu, 0, none⟩) used.length c9) B1 (show w.heap.size ≤ g0 + 1 by have := hg0.out; omega)
          go_wp2_with fail
          exact bodyPost_ret (results_B rfl _ _ rfl hR3) rfl (fin_bent (hkI _ _ _ hrP) (hkI _ _ _ hrU) (hb.trans hbR))
end Go.Proofs.YtlmnmeppgigjnaaGreatDoor

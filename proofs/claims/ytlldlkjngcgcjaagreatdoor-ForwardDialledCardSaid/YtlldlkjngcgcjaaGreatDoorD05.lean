/- dialtoneref13.one: a map of one block. Rows of some blocks of one's own. -/
import Derived.Test.YtlldlkjngcgcjaaGreatDoorD03
import Derived.Test.YtlldlkjngcgcjaaGreatDoorD04
import Derived.Test.YtlldlkjngcgcjaaGreatDoorQ09
namespace Go.Proofs.YtlldlkjngcgcjaaGreatDoor
set_option linter.unusedVariables false
set_option linter.unusedSimpArgs false
open Go.RowKit Go.Shelf
attribute [local go_sem] Oper.semAt_some
/-- a slice of at most m blocks -/
def BlZ (m : Nat) (v : Value) (W : World) : Prop := ∃ (bs : List Blk3) (A : Option Addr) (cap : Nat), v = .slice A bs.length cap ∧ At 3 blC W W.heap.size A bs ∧ bs.length ≤ cap ∧ cap ≤ maxLen ∧ bs.length ≤ m
theorem BlZ.call {m : Nat} {v : Value} {w w' : World} (h : BlZ m v w) (hb : Below w.heap.size w w') : BlZ m v w' := by
  obtain ⟨zs, A, cap, e, h1, h2, h3, h4⟩ := h
  exact ⟨zs, A, cap, e, (h1.below hb).more hb.size, h2, h3, h4⟩
theorem blZ_nil (m : Nat) (W : World) : BlZ m (.slice none 0 0) W := ⟨[], none, 0, rfl, fun h => absurd h (by simp), Nat.le_refl _, Nat.zero_le _, Nat.zero_le _⟩
theorem r13one_any (f t c : Int) (w : World) :
    Calls Tryz.prog 71 #[.agg #[.int .i64 f, .int .i64 t], .int .i64 c] w fun e w' => ∃ v, e = .returned v ∧ Below w.heap.size w w' ∧ BlZ 1 v w' := by
  have B := Bx.mk w 72 #[.int .i64 f, .int .i64 t]
  have hb := bNx w (.cells #[.int .i64 f, .int .i64 t] 72)
  have c0 := B.cell 0 rfl
  have c1 := B.cell 1 rfl
  clear B
  have hs1 : (w.alloc (.cells #[.int .i64 f, .int .i64 t] 72)).heap.size = w.heap.size + 1 := World.size_alloc ..
  go_enter Tryz.func71, Tryz.ntmps71
  go_wp2
  go_ret
  generalize w.alloc (.cells #[.int .i64 f, .int .i64 t] 72) = w1 at *
  have B2 := Bx.mk w1 103 #[.int .i64 f, .int .i64 t, .int .i64 c]
  refine ⟨_, rfl, hb.alloc hb.size _, ?_⟩
  have hr : RowC 103 3 0 1 [Blk3.mk f t c].length ([Blk3.mk f t c].flatMap blC) (.slice (some ⟨w1.heap.size, 0, none⟩) 1 1) (w1.alloc (.cells #[.int .i64 f, .int .i64 t, .int .i64 c] 103)) := ⟨_, _, rfl, Nat.zero_le _, Nat.le_refl _, B2, rfl, rfl⟩
  rw [hs1] at hr
  obtain ⟨A, e1, e2, e3⟩ := RowC.at (f := blC) (fun _ => rfl) hr
  exact ⟨[Blk3.mk f t c], A, 1, e1, e2, e3, by decide, Nat.le_refl _⟩
/-- a row of blocks of one's own, the blocks not named -/
def BlR (B m : Nat) (v : Value) (W : World) : Prop := ∃ bs : List Blk3, bs.length = m ∧ RowZ 103 3 B m (bs.flatMap blC) v W
theorem BlR.call {B m : Nat} {v : Value} {W W' : World} (h : BlR B m v W) (hb : Below W.heap.size W W') : BlR B m v W' := by
  obtain ⟨zs, h1, h2⟩ := h
  exact ⟨zs, h1, stab_rowZ _ _ _ _ _ _ _ _ h2 hb⟩
theorem BlR.z {B m : Nat} {v : Value} {W : World} (h : BlR B m v W) : BlZ m v W := by
  obtain ⟨bs, rfl, h⟩ := h
  obtain ⟨A, c, e1, e2, e3, e4⟩ := RowZ.at (p := bs) (f := blC) (fun _ => rfl) h
  exact ⟨bs, A, c, e1, e2, e3, e4, Nat.le_refl _⟩
/-- one integer of an own row of blocks written anew -/
theorem BlR.set {B m g cap i : Nat} {k : Int} {W : World} (h : BlR B m (.slice (some ⟨g, 0, none⟩) m cap) W) : BlR B m (.slice (some ⟨g, 0, none⟩) m cap) (W.setCell ⟨g, i, none⟩ (.int .i64 k)) := by
  obtain ⟨bs, h1, h2⟩ := h
  rcases h2 with ⟨e, -⟩ | ⟨cap', ⟨g', cs, e, hg, hc, hB, hs, hf⟩, hcm⟩
  · cases e
  · simp only [Value.slice.injEq, Option.some.injEq, Addr.mk.injEq, and_true, true_and] at e
    obtain ⟨rfl, rfl⟩ := e
    have hfl : (bs.flatMap blC).length = m * 3 := by rw [flat_len (size := 3) (fun _ => rfl), h1]
    have hz : ∀ j, j < m * 3 → ∃ z : Int, (cs.setIfInBounds i (.int .i64 k))[j]? = some (.int .i64 z) := fun j hj => by
      rw [Array.getElem?_setIfInBounds]
      have hj' : j < (bs.flatMap blC).length := by omega
      have hcj : cs[j]? = (bs.flatMap blC)[j]? := flat_cells hfl hf hj
      have hin : j < cs.size := by
        rw [List.getElem?_eq_getElem hj'] at hcj
        exact (Array.getElem?_eq_some_iff.1 hcj).1
      split
      · rename_i e9
        subst e9
        rw [if_pos hin]; exact ⟨k, rfl⟩
      · obtain ⟨q, c, r, -, h5, -⟩ := flat_inv (size := 3) (f := blC) (fun _ => rfl) bs j _ (List.getElem?_eq_getElem hj')
        rw [hcj, List.getElem?_eq_getElem hj']
        have hr : r < 3 := (List.getElem?_eq_some_iff.1 h5).1
        rcases c with ⟨cf, ct, cc⟩
        match r, hr, h5 with
        | 0, _, h5 => exact ⟨cf, by rw [← h5]; rfl⟩
        | 1, _, h5 => exact ⟨ct, by rw [← h5]; rfl⟩
        | 2, _, h5 => exact ⟨cc, by rw [← h5]; rfl⟩
    obtain ⟨zs, hz1, hz2⟩ := choose_list (Q := fun (q : Nat) (b : Blk3) => (cs.setIfInBounds i (.int .i64 k))[q * 3]? = some (.int .i64 b.f) ∧ (cs.setIfInBounds i (.int .i64 k))[q * 3 + 1]? = some (.int .i64 b.t) ∧ (cs.setIfInBounds i (.int .i64 k))[q * 3 + 2]? = some (.int .i64 b.c)) m fun q hq => by
      obtain ⟨z0, e0⟩ := hz (q * 3) (by omega)
      obtain ⟨z1, e1⟩ := hz (q * 3 + 1) (by omega)
      obtain ⟨z2, e2⟩ := hz (q * 3 + 2) (by omega)
      exact ⟨⟨z0, z1, z2⟩, e0, e1, e2⟩
    have hfz : (zs.flatMap blC).length = m * 3 := by rw [flat_len (size := 3) (fun _ => rfl), hz1]
    refine ⟨zs, hz1, .inr ⟨cap, ⟨g, _, rfl, hg, hc, hB.set i (.int .i64 k), by simpa using hs, flat_of hfz (by simp only [Array.size_setIfInBounds]; rw [hs]; omega) fun j hj => ?_⟩, hcm⟩⟩
    have hj' : j < (zs.flatMap blC).length := by omega
    obtain ⟨u, hu⟩ : ∃ u, (zs.flatMap blC)[j]? = some u := ⟨_, List.getElem?_eq_getElem hj'⟩
    obtain ⟨q, c, r, h4, h5, e9⟩ := flat_inv (size := 3) (f := blC) (fun _ => rfl) zs j u hu
    rw [hu, e9]
    clear hu hj' hj e9
    have hr : r < 3 := (List.getElem?_eq_some_iff.1 h5).1
    obtain ⟨a0, a1, a2⟩ := hz2 q c h4
    obtain rfl | rfl | rfl : r = 0 ∨ r = 1 ∨ r = 2 := by omega
    · rw [← h5]; exact a0
    · rw [← h5]; exact a1
    · rw [← h5]; exact a2
end Go.Proofs.YtlldlkjngcgcjaaGreatDoor

/- cut of dialtonelaw04. -/
import Derived.Test.YthnikbladjaifaaGreatDoorQ20
namespace Go.Proofs.YthnikbladjaifaaGreatDoor
set_option linter.unusedVariables false
set_option linter.unusedSimpArgs false
open Go.RowKit Go.Shelf
theorem take_min (l : List UInt8) (m : Nat) : List.take (min (l.length : Int) (m : Int)).toNat l = l.take m := by
  by_cases h : l.length ≤ m
  · rw [show (min (l.length : Int) (m : Int)).toNat = l.length by omega, List.take_of_length_le (Nat.le_refl _), List.take_of_length_le h]
  · rw [show (min (l.length : Int) (m : Int)).toNat = m by omega]
set_option maxRecDepth 100000 in
set_option maxHeartbeats 4000000 in
theorem cut_any (n d : List UInt8) (w : World) (hn : n.length ≤ 9223372036854775807) (hd : d.length ≤ 9223372036854775807) :
    Calls Tryz.prog 5 #[.agg #[.string ⟨n.toArray⟩, .string ⟨d.toArray⟩]] w fun e w' => e = .returned (.agg #[.string ⟨(n.take 210).toArray⟩, .string ⟨(d.take 210).toArray⟩]) ∧ Below w.heap.size w w' := by
  have hb := bNew (bNewW w (.cells #[.string ⟨n.toArray⟩, .string ⟨d.toArray⟩] 23)) (.cells #[.string ⟨#[]⟩, .string ⟨#[]⟩] 23)
  have BA := (Bx.mk w 23 #[.string ⟨n.toArray⟩, .string ⟨d.toArray⟩]).new (.cells #[.string ⟨#[]⟩, .string ⟨#[]⟩] 23)
  have BR := Bx.mk (w.alloc (.cells #[.string ⟨n.toArray⟩, .string ⟨d.toArray⟩] 23)) 23 #[.string ⟨#[]⟩, .string ⟨#[]⟩]
  rw [alloc_size] at BR
  have a0 := BA.cell 0 rfl
  have a1 := BA.cell 1 rfl
  have r0 := BR.cell 0 rfl
  have r1 := BR.cell 1 rfl
  have f0 := BR.frozen 0
  have f1 := BR.frozen 1
  go_enter Tryz.func5, Tryz.ntmps5
  go_wp2
  go_region
  have e1 : List.take (min (n.length : Int) 210).toNat n = n.take 210 := take_min n 210
  have e2 : List.take (min (d.length : Int) 210).toNat d = d.take 210 := take_min d 210
  rw [e1, e2]
  have hb2 : Below w.heap.size w (((w.alloc (.cells #[.string ⟨n.toArray⟩, .string ⟨d.toArray⟩] 23)).alloc (.cells #[.string ⟨(n.take 210).toArray⟩, .string ⟨(d.take 210).toArray⟩] 23)).drew) := Below.drew (bNew (bNewW w _) _)
  have BR2 := Bx.mk (w.alloc (.cells #[.string ⟨n.toArray⟩, .string ⟨d.toArray⟩] 23)) 23 #[.string ⟨(n.take 210).toArray⟩, .string ⟨(d.take 210).toArray⟩]
  rw [alloc_size] at BR2
  go_wp2
  exact bodyPost_ret (results_Q1 rfl _ _ rfl (BR2.drewN 1)) rfl ⟨rfl, hb2⟩
end Go.Proofs.YthnikbladjaifaaGreatDoor

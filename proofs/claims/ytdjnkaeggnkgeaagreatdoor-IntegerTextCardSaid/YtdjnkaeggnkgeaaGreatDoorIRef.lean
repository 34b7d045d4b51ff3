/- text, trim and Made of dialtoneref03. -/
import Derived.Test.YtdjnkaeggnkgeaaGreatDoorIDec
import Derived.Test.YtdjnkaeggnkgeaaGreatDoorIParse
namespace Go.Proofs.YtdjnkaeggnkgeaaGreatDoor
set_option linter.unusedVariables false
set_option linter.unusedSimpArgs false
open Go.RowKit Go.Shelf
set_option maxRecDepth 100000 in
set_option maxHeartbeats 1000000 in
theorem rtrim_any (l : List Int) (A : Option Addr) (cap : Nat) (w : World) (hA : At 1 intC w w.heap.size A l) (hn : l.length ≤ cap) (hl : l.length ≤ 1000000) :
    Calls Tryz.prog 37 #[.slice A l.length cap] w fun e w' => e = .returned (.slice A (Ig.trimG l).length cap) ∧ w = w' := by
  go_enter Tryz.func37, Tryz.ntmps37
  go_wp2
  go_loop [0] (fun s => ∃ k : Nat, k ≤ l.length ∧ s = .slice A k cap ∧ Hid (Ig.trimG (l.take k) = Ig.trimG l)) (fun s => match s with | .slice _ k _ => k | _ => 0)
  case atStart => exact ⟨l.length, Nat.le_refl _, rfl, Lib.hid (by rw [List.take_length])⟩
  case round =>
    obtain ⟨k, hk, rfl, ht⟩ := hrel
    by_cases h0 : 0 < k
    · obtain ⟨b, off, rfl, hbB, hcell⟩ := hA (by omega)
      obtain ⟨k, rfl⟩ : ∃ j, k = j + 1 := ⟨k - 1, by omega⟩
      have hck : l[k]? = some l[k] := List.getElem?_eq_getElem (by omega)
      have c0 : w.cell? ⟨b, off + k, none⟩ = some (.int .i64 l[k]) := by
        have := hcell k _ hck 0 _ rfl
        simpa using this
      have hsn := List.take_succ_eq_append_getElem (show k < l.length by omega)
      by_cases hz : l[k] = 0
      · have t1 : (l[k] == 0) = true := by simp [hz]
        have hnext := Lib.hid (show Ig.trimG (l.take k) = Ig.trimG l by rw [← ht.out, hsn, hz, Ig.trimG_snoc_zero])
        clear hck hcell hsn hz ht
        generalize l[k] = g at *
        go_wp2
        exact ⟨⟨k, by omega, rfl, hnext⟩, Nat.lt_succ_self k⟩
      · have t1 : (l[k] == 0) = false := by simp [hz]
        have hfin : Kp ((Ig.trimG l).length = k + 1) := ⟨by rw [← ht.out, hsn, Ig.trimG_snoc hz]; simp; omega⟩
        clear hck hcell hsn hz ht
        generalize l[k] = g at *
        go_wp2
        go_ret
        exact ⟨by rw [hfin.out]; rfl, rfl⟩
    · obtain rfl : k = 0 := by omega
      have hfin : Kp ((Ig.trimG l).length = 0) := ⟨by rw [← ht.out]; rfl⟩
      clear ht
      go_wp2
      go_ret
      exact ⟨by rw [hfin.out]; rfl, rfl⟩
theorem push_all (l : List UInt8) : ∀ (acc : ByteArray), (l.map fun c => ((c.toNat : Nat) : Int)).foldl (fun r n => r.push (UInt8.ofNat n.toNat)) acc = ⟨acc.data ++ l.toArray⟩ := by
  induction l with
  | nil => intro acc; apply ByteArray.ext; simp
  | cons c l ih =>
    intro acc
    rw [List.map_cons, List.foldl_cons, ih]
    apply ByteArray.ext
    simp
theorem conv_row (W : World) (g cap : Nat) (l : List UInt8) (h : ∀ j x, l[j]? = some x → W.cell? ⟨g, j, none⟩ = some (.int .u8 x.toNat)) :
    (convert 72 9 (.slice (some ⟨g, 0, none⟩) l.length cap)).run Tryz.prog W = .ok (.string ⟨l.toArray⟩) W := by
  have hl := run_loadCells_list (P := Tryz.prog) (w := W) ⟨g, 0, none⟩ (l.map fun c => Value.int .u8 c.toNat) (fun j v hj => by
    rw [List.getElem?_map] at hj
    cases hx : l[j]? with
    | none => rw [hx] at hj; cases hj
    | some x =>
      rw [hx] at hj
      simp only [Option.map_some, Option.some.injEq] at hj
      rw [Addr.add_lit, Nat.zero_add, ← hj]
      exact h j x hx)
  rw [List.length_map] at hl
  rw [run_convert_bytes_string W 72 9 5 _ _ _ Tryz.underlying72 Tryz.underlying5 Tryz.underlying9, run_bytesToString W _ _ _ (l.map fun c => ((c.toNat : Nat) : Int)) (by rw [hl]; simp), push_all]
  simp
end Go.Proofs.YtdjnkaeggnkgeaaGreatDoor

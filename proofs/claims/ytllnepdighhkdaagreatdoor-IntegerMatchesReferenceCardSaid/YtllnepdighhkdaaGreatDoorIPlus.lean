/- plus, minus, by of package integer. -/
import Derived.Test.YtllnepdighhkdaaGreatDoorIFoldPlus
import Derived.Test.YtllnepdighhkdaaGreatDoorIFoldMinus
import Derived.Test.YtllnepdighhkdaaGreatDoorIFoldBy
namespace Go.Proofs.YtllnepdighhkdaaGreatDoor
set_option linter.unusedVariables false
set_option linter.unusedSimpArgs false
open Go.RowKit
theorem grp_all (a : Nat) {n : Nat} (h : (Ig.grp a).length ≤ n) : Ig.dsum (Ig.atG (Ig.grp a)) n = a := by rw [Ig.dsum_all h, Ig.gval_grp]
theorem num_of {W : World} {A : Option Addr} {out : List Int} {cap a : Nat} (hA : At 1 intC W W.heap.size A out) (hc : out.length ≤ cap) (hm : cap ≤ maxLen) (h : Kp (Ig.trimG out = Ig.grp a)) : NumAt W a (.slice A (Ig.trimG out).length cap) := by
  refine ⟨A, cap, by rw [h.out], ?_, ?_, hm⟩
  · rw [← h.out, ← trim_take]; exact hA.take _
  · rw [← h.out, ← trim_take, List.length_take]; omega
set_option maxRecDepth 100000 in
set_option maxHeartbeats 2000000 in
theorem plus_any (a b : Nat) (v1 v2 : Value) (w : World) (h1 : NumAt w a v1) (h2 : NumAt w b v2) (la : (Ig.grp a).length ≤ 90000) (lb : (Ig.grp b).length ≤ 90000) :
    Calls Tryz.prog 94 #[v1, v2] w fun e w' => ∃ v, e = .returned v ∧ NumAt w' (a + b) v ∧ Below w.heap.size w w' := by
  obtain ⟨A1, c1, rfl, hA1, hn1, hm1⟩ := h1.out
  obtain ⟨A2, c2, rfl, hA2, hn2, hm2⟩ := h2.out
  obtain ⟨n, hn⟩ := exK (max (Ig.grp a).length (Ig.grp b).length)
  have hmx : (max (((Ig.grp a).length : Nat) : Int) (((Ig.grp b).length : Nat) : Int)) = (n : Int) := by rw [← hn.out]; omega
  have hn9 : n ≤ 90000 := by rw [← hn.out]; omega
  have hna : (Ig.grp a).length ≤ n := by rw [← hn.out]; omega
  have hnb : (Ig.grp b).length ≤ n := by rw [← hn.out]; omega
  have hsum : Ig.dsum (fun i => Ig.atG (Ig.grp a) i + Ig.atG (Ig.grp b) i) n = ((a + b : Nat) : Int) := by rw [Ig.dsum_add, grp_all a hna, grp_all b hnb]; omega
  have ga := Ig.gr_grp a
  have gb := Ig.gr_grp b
  generalize hla : Ig.grp a = l at *
  generalize hlb : Ig.grp b = m at *
  clear hla hlb h1 h2 hn
  have W1 := bNewW w (.cells #[.slice A1 l.length c1] 98)
  have W2 := bNew W1 (.cells #[.slice A2 m.length c2] 98)
  have B1 := (Bx.mk w 98 #[.slice A1 l.length c1]).new (.cells #[.slice A2 m.length c2] 98)
  have B2 := Bx.mk (w.alloc (.cells #[.slice A1 l.length c1] 98)) 98 #[.slice A2 m.length c2]
  rw [alloc_size] at B2
  have k1 := B1.cell 0 rfl
  have k2 := B2.cell 0 rfl
  have tw : Two (w.heap.size + 2) _ w.heap.size (w.heap.size + 1) l m := ⟨⟨A1, c1, A2, c2, B1, B2, (hA1.below W2).more (by omega), (hA2.below W2).more (by omega), hn1, hn2⟩, by omega, by omega, by rw [alloc_size, alloc_size]; omega⟩
  have hf := foldPlus_any n (fun i => Ig.atG l i + Ig.atG m i) w.heap.size (w.heap.size + 1) (fun W => Two (w.heap.size + 2) W w.heap.size (w.heap.size + 1) l m) ((w.alloc (.cells #[.slice A1 l.length c1] 98)).alloc (.cells #[.slice A2 m.length c2] 98))
    (fun W W' hW hb => hW.call (by rw [alloc_size, alloc_size] at hb; exact hb)) (fun W i hW hi => plusIn_any (w.heap.size + 2) l m w.heap.size (w.heap.size + 1) i W hW (by omega) (by omega) ga gb hi)
    (fun i => by have := Ig.atG_in ga i; have := Ig.atG_in gb i; omega) (fun i hi => by rw [Ig.atG_ge (by omega), Ig.atG_ge (by omega)]; rfl) (by rw [hsum]; omega) (by omega) tw
  rw [hsum, Int.toNat_natCast] at hf
  clear tw B1 B2 hsum ga gb hA1 hA2
  go_enter Tryz.func94, Tryz.ntmps94
  go_wp2_with fail
  refine hf.mono ?_
  rintro _ w3 ⟨A3, out, cap3, rfl, hA3, hc3, hm3, ho3, ht3, hb3⟩
  clear hf
  go_wp2_with fail
  refine (trimmed_any out A3 cap3 _ hA3 hc3 (by omega)).mono ?_
  rintro _ _ ⟨rfl, rfl⟩
  go_wp2
  go_ret
  exact ⟨_, rfl, num_of hA3 hc3 hm3 ht3, bCall W2 hb3⟩
theorem grp_le {a b : Nat} (h : b ≤ a) : (Ig.grp b).length ≤ (Ig.grp a).length := by
  rcases Nat.lt_or_ge (Ig.grp a).length (Ig.grp b).length with h1 | h1
  · have := Ig.len_order h1; omega
  · exact h1
set_option maxRecDepth 100000 in
set_option maxHeartbeats 2000000 in
theorem minus_any (a b : Nat) (v1 v2 : Value) (w : World) (h1 : NumAt w a v1) (h2 : NumAt w b v2) (hba : b ≤ a) (la : (Ig.grp a).length ≤ 90000) :
    Calls Tryz.prog 96 #[v1, v2] w fun e w' => ∃ v, e = .returned v ∧ NumAt w' (a - b) v ∧ Below w.heap.size w w' := by
  obtain ⟨A1, c1, rfl, hA1, hn1, hm1⟩ := h1.out
  obtain ⟨A2, c2, rfl, hA2, hn2, hm2⟩ := h2.out
  have hlb := grp_le hba
  have hsum : Ig.dsum (fun i => Ig.atG (Ig.grp a) i - Ig.atG (Ig.grp b) i) (Ig.grp a).length = ((a - b : Nat) : Int) := by rw [Ig.dsum_sub, grp_all a (Nat.le_refl _), grp_all b hlb]; omega
  have ga := Ig.gr_grp a
  have gb := Ig.gr_grp b
  generalize hla : Ig.grp a = l at *
  generalize hlb' : Ig.grp b = m at *
  clear hla hlb' h1 h2
  have W1 := bNewW w (.cells #[.slice A1 l.length c1] 98)
  have W2 := bNew W1 (.cells #[.slice A2 m.length c2] 98)
  have B1 := (Bx.mk w 98 #[.slice A1 l.length c1]).new (.cells #[.slice A2 m.length c2] 98)
  have B2 := Bx.mk (w.alloc (.cells #[.slice A1 l.length c1] 98)) 98 #[.slice A2 m.length c2]
  rw [alloc_size] at B2
  have k1 := B1.cell 0 rfl
  have k2 := B2.cell 0 rfl
  have tw : Two (w.heap.size + 2) _ w.heap.size (w.heap.size + 1) l m := ⟨⟨A1, c1, A2, c2, B1, B2, (hA1.below W2).more (by omega), (hA2.below W2).more (by omega), hn1, hn2⟩, by omega, by omega, by rw [alloc_size, alloc_size]; omega⟩
  have hf := foldMinus_any l.length (fun i => Ig.atG l i - Ig.atG m i) w.heap.size (w.heap.size + 1) (fun W => Two (w.heap.size + 2) W w.heap.size (w.heap.size + 1) l m) ((w.alloc (.cells #[.slice A1 l.length c1] 98)).alloc (.cells #[.slice A2 m.length c2] 98))
    (fun W W' hW hb => hW.call (by rw [alloc_size, alloc_size] at hb; exact hb)) (fun W i hW hi => minusIn_any (w.heap.size + 2) l m w.heap.size (w.heap.size + 1) i W hW (by omega) (by omega) ga gb hi)
    (fun i => by have := Ig.atG_in ga i; have := Ig.atG_in gb i; omega) (fun i hi => by rw [Ig.atG_ge (by omega), Ig.atG_ge (by omega)]; rfl) (by rw [hsum]; omega) (by omega) tw
  rw [hsum, Int.toNat_natCast] at hf
  clear tw B1 B2 hsum ga gb hA1 hA2
  go_enter Tryz.func96, Tryz.ntmps96
  go_wp2_with fail
  refine hf.mono ?_
  rintro _ w3 ⟨A3, out, cap3, rfl, hA3, hc3, hm3, ho3, ht3, hb3⟩
  clear hf
  go_wp2_with fail
  refine (trimmed_any out A3 cap3 _ hA3 hc3 (by omega)).mono ?_
  rintro _ _ ⟨rfl, rfl⟩
  go_wp2
  go_ret
  exact ⟨_, rfl, num_of hA3 hc3 hm3 ht3, bCall W2 hb3⟩
set_option maxRecDepth 100000 in
set_option maxHeartbeats 2000000 in
theorem by_any (a c : Nat) (v1 : Value) (w : World) (h1 : NumAt w a v1) (hc : c ≤ 10000) (la : (Ig.grp a).length ≤ 90000) :
    Calls Tryz.prog 152 #[v1, .int .i64 c] w fun e w' => ∃ v, e = .returned v ∧ NumAt w' (a * c) v ∧ Below w.heap.size w w' := by
  obtain ⟨A1, c1, rfl, hA1, hn1, hm1⟩ := h1.out
  have hsum : Ig.dsum (fun i => Ig.atG (Ig.grp a) i * c) (Ig.grp a).length = ((a * c : Nat) : Int) := by rw [Ig.dsum_mul, grp_all a (Nat.le_refl _)]; simp
  have ga := Ig.gr_grp a
  generalize hla : Ig.grp a = l at *
  clear hla h1
  have W1 := bNewW w (.cells #[.slice A1 l.length c1] 98)
  have W2 := bNew W1 (.cells #[.int .i64 c] 3)
  have B1 := (Bx.mk w 98 #[.slice A1 l.length c1]).new (.cells #[.int .i64 c] 3)
  have B2 := Bx.mk (w.alloc (.cells #[.slice A1 l.length c1] 98)) 3 #[.int .i64 c]
  rw [alloc_size] at B2
  have k1 := B1.cell 0 rfl
  have tw : OneBy (w.heap.size + 2) _ w.heap.size (w.heap.size + 1) l c := ⟨⟨A1, c1, B1, B2, (hA1.below W2).more (by omega), hn1⟩, by omega, by omega, by rw [alloc_size, alloc_size]; omega⟩
  have hf := foldBy_any l.length (fun i => Ig.atG l i * c) w.heap.size (w.heap.size + 1) (fun W => OneBy (w.heap.size + 2) W w.heap.size (w.heap.size + 1) l c) ((w.alloc (.cells #[.slice A1 l.length c1] 98)).alloc (.cells #[.int .i64 c] 3))
    (fun W W' hW hb => hW.call (by rw [alloc_size, alloc_size] at hb; exact hb)) (fun W i hW hi => byIn_any (w.heap.size + 2) l c w.heap.size (w.heap.size + 1) i W hW (by omega) ga (by omega) (by omega) hi)
    (fun i => by
      have h2 := Ig.atG_in ga i
      have h3 : 0 ≤ Ig.atG l i * (c : Int) := Int.mul_nonneg h2.1 (by omega)
      have h4 := Int.mul_le_mul (show Ig.atG l i ≤ 10000 by omega) (show (c : Int) ≤ 10000 by omega) (by omega) (by omega)
      omega) (fun i hi => by rw [Ig.atG_ge (by omega)]; simp) (by rw [hsum]; omega) (by omega) tw
  rw [hsum, Int.toNat_natCast] at hf
  clear tw B1 B2 hsum ga hA1
  go_enter Tryz.func152, Tryz.ntmps152
  go_wp2_with fail
  refine hf.mono ?_
  rintro _ w3 ⟨A3, out, cap3, rfl, hA3, hc3, hm3, ho3, ht3, hb3⟩
  clear hf
  go_wp2_with fail
  refine (trimmed_any out A3 cap3 _ hA3 hc3 (by omega)).mono ?_
  rintro _ _ ⟨rfl, rfl⟩
  go_wp2
  go_ret
  exact ⟨_, rfl, num_of hA3 hc3 hm3 ht3, bCall W2 hb3⟩
end Go.Proofs.YtllnepdighhkdaaGreatDoor

/- IntegerText: the walk; ToInt of any string. -/
import Derived.Test.YtdjnkaeggnkgeaaGreatDoorIToInt
import Derived.Lib.IfaceNeq
namespace Go.Proofs.YtdjnkaeggnkgeaaGreatDoor
set_option linter.unusedVariables false
set_option linter.unusedSimpArgs false
open Go.RowKit Go.Shelf
/-- the two errors that strconv hands on lie in their variables -/
structure EnvE (w : World) : Prop where
  syn : ∃ ev, w.cell? ⟨0, 0, none⟩ = some ev ∧ (ev = .nilIface ∨ ∃ te pe, ev = .iface te pe)
  rng : ∃ ev, w.cell? ⟨1, 0, none⟩ = some ev ∧ (ev = .nilIface ∨ ∃ te pe, ev = .iface te pe)
theorem EnvE.below {w w' : World} (h : EnvE w) (hb : Below w.heap.size w w') : EnvE w' := by
  obtain ⟨⟨e1, h1, k1⟩, ⟨e2, h2, k2⟩⟩ := h
  exact ⟨⟨e1, (hb.cell (p := ⟨0, 0, none⟩) (Lib.lt_of_cell h1)).trans h1, k1⟩, ⟨e2, (hb.cell (p := ⟨1, 0, none⟩) (Lib.lt_of_cell h2)).trans h2, k2⟩⟩
/-- Atoi at any string: it reads a number, or it hands back an error that is not nil -/
theorem Atoi_tot (s : List UInt8) (w : World) (hs : s.length ≤ 1000000) (hE : EnvE w) :
    Calls Tryz.prog 57 #[.string ⟨s.toArray⟩] w fun e w' => ∃ v er, e = .returned (.tuple #[.int .i64 v, er]) ∧ Below w.heap.size w w' ∧ ((er = .nilIface ∧ Lib.atoiAll s = .ok v) ∨ ((∃ N, er = .iface 105 (.pointer (some ⟨N, 0, none⟩))) ∧ ∀ u, Lib.atoiAll s ≠ .ok u)) := by
  obtain ⟨⟨e1, h1, k1⟩, ⟨e2, h2, k2⟩⟩ := hE
  rcases h : Lib.atoiAll s with v | _ | _
  · exact (Atoi_any s v w hs h).mono fun e w' ⟨he, hb⟩ => ⟨v, _, he, hb, .inl ⟨rfl, rfl⟩⟩
  · refine (Any.strconv_Atoi_syntax Tryz.laysC172 ⟨s.toArray⟩ (show s.length ≤ _ by omega) h e1 w h1 k1).mono ?_
    rintro e w' ⟨N, he, -, -, hb⟩
    exact ⟨_, _, he, hb, .inr ⟨⟨N, rfl⟩, fun u hu => by cases hu⟩⟩
  · refine (Any.strconv_Atoi_range Tryz.laysC172 ⟨s.toArray⟩ (show s.length ≤ _ by omega) h e2 w h2 k2).mono ?_
    rintro e w' ⟨N, he, -, -, hb⟩
    exact ⟨_, _, he, hb, .inr ⟨⟨N, rfl⟩, fun u hu => by cases hu⟩⟩
set_option maxRecDepth 100000 in
set_option maxHeartbeats 1000000 in
theorem ToInt_bad (s : List UInt8) (w : World) (hs : s.length ≤ 1000000) (hno : ∀ z, I64 z → s ≠ Lib.itoa z) (hE : EnvE w) :
    Calls Tryz.prog 31 #[.string ⟨s.toArray⟩] w fun e w' => e = .returned (.tuple #[.int .i64 0, .int .i64 30]) ∧ Below w.heap.size w w' := by
  have hA := fun w0 hE => Atoi_tot s w0 hs hE
  have hV := fun w0 => isValid_any s hs w0
  have hk : ∀ v, Lib.atoiAll s = .ok v → Ig.validS s = false := fun v hv => by
    cases hvs : Ig.validS s with
    | false => rfl
    | true =>
      obtain ⟨z, rfl, hz⟩ := Ig.valid_is hvs
      rw [atoi_itoa] at hv
      split at hv
      · rename_i hi; exact absurd rfl (hno z hi)
      · cases hv
  generalize Ig.validS s = va at *
  go_enter Tryz.func31, Tryz.ntmps31
  go_wp2_with fail
  refine (hA _ hE).mono ?_
  rintro _ w1 ⟨v, er, rfl, hb, hor⟩
  rcases hor with ⟨rfl, hok⟩ | ⟨⟨N, rfl⟩, -⟩
  · have hvf := hk v hok
    subst hvf
    clear hk hok hno
    go_wp2_with fail
    refine (hV _).mono ?_
    rintro _ w2 ⟨rfl, hb2⟩
    clear hA hV
    have hb3 := bCall hb hb2
    go_wp2
    go_ret2
    exact ⟨rfl, hb3⟩
  · clear hk hno
    cases va
    · go_wp2_with fail
      refine (hV _).mono ?_
      rintro _ w2 ⟨rfl, hb2⟩
      clear hA hV
      have hb3 := bCall hb hb2
      go_wp2
      go_ret2
      exact ⟨rfl, hb3⟩
    · go_wp2_with fail
      refine (hV _).mono ?_
      rintro _ w2 ⟨rfl, hb2⟩
      clear hA hV
      have hb3 := bCall hb hb2
      go_wp2
      go_ret2
      exact ⟨rfl, hb3⟩
set_option maxRecDepth 100000 in
set_option maxHeartbeats 4000000 in
theorem integerText_any (n : Int) (s : List UInt8) (w : World) (wn : I64 n) (ls : s.length ≤ 9223372036854775807) (hE : Env w) (hEE : EnvE w) :
    Calls Tryz.prog 11 #[.int .i64 n, .string ⟨s.toArray⟩] w fun e w' => e = .returned (.bool true) ∧ Below w.heap.size w w' := by
  have hb := Below.refl w.heap.size w
  obtain ⟨k, hk, hks⟩ : ∃ k : Nat, min (s.length : Int) 30 = (k : Int) ∧ k ≤ s.length ∧ k ≤ 30 := by
    rcases (show s.length ≤ 30 ∨ 30 < s.length by omega) with h | h
    · exact ⟨s.length, by omega, by omega, h⟩
    · exact ⟨30, by omega, by omega, by omega⟩
  obtain ⟨hks, hk30⟩ := hks
  have hl1 : (s.take k).length ≤ 30 := by simp; omega
  obtain ⟨s1, hs1⟩ : ∃ s1, s.take k = s1 := ⟨_, rfl⟩
  rw [hs1] at hl1
  have hF := fun w0 hE => FromInt_any n w0 wn.1 wn.2 hE
  have hT := fun w0 => ToInt_ok n w0 wn
  have hV := fun w0 => Valid_any (Lib.itoa n) (fits_small (i64_fits wn)) w0
  rw [Ig.valid_itoa (i64_fits wn)] at hV
  generalize Lib.itoa n = t at *
  by_cases hg : ∃ z, I64 z ∧ s1 = Lib.itoa z
  · obtain ⟨z, hz, he⟩ := hg
    have hT2 := fun w0 => ToInt_ok z w0 hz
    have hF2 := fun w0 hE => FromInt_any z w0 hz.1 hz.2 hE
    have hV2 := fun w0 => Valid_any (Lib.itoa z) (fits_small (i64_fits hz)) w0
    rw [Ig.valid_itoa (i64_fits hz)] at hV2
    rw [← he] at hT2 hF2 hV2
    clear he hz
    go_enter Tryz.func11, Tryz.ntmps11
    go_wp2_with fail
    refine (sane_any _ hE).mono ?_
    rintro _ w1 ⟨rfl, hb1⟩
    replace hE := hE.below hb1
    replace hb := bCall hb hb1
    go_wp2_with fail
    refine (hF _ hE).mono ?_
    rintro _ w2 ⟨rfl, hb1⟩
    replace hE := hE.below hb1
    replace hb := bCall hb hb1
    go_wp2_with fail
    refine (hT _).mono ?_
    rintro _ w3 ⟨rfl, hb1⟩
    replace hE := hE.below hb1
    replace hb := bCall hb hb1
    go_wp2_with fail
    refine (hT2 _).mono ?_
    rintro _ w4 ⟨rfl, hb1⟩
    replace hE := hE.below hb1
    replace hb := bCall hb hb1
    go_wp2_with fail
    refine (hV _).mono ?_
    rintro _ w5 ⟨rfl, hb1⟩
    replace hE := hE.below hb1
    replace hb := bCall hb hb1
    go_wp2_with fail
    refine (hV2 _).mono ?_
    rintro _ w6 ⟨rfl, hb1⟩
    replace hE := hE.below hb1
    replace hb := bCall hb hb1
    go_wp2_with fail
    refine (hF2 _ hE).mono ?_
    rintro _ w7 ⟨rfl, hb1⟩
    replace hb := bCall hb hb1
    clear hF hT hV hT2 hF2 hV2
    go_wp2
    go_ret
    exact ⟨rfl, hb⟩
  · have hT2 := fun w0 (hEE : EnvE w0) => ToInt_bad s1 w0 (by omega) (fun z hz he => hg ⟨z, hz, he⟩) hEE
    clear hg
    go_enter Tryz.func11, Tryz.ntmps11
    go_wp2_with fail
    refine (sane_any _ hE).mono ?_
    rintro _ w1 ⟨rfl, hb1⟩
    replace hE := hE.below hb1
    replace hEE := hEE.below hb1
    replace hb := bCall hb hb1
    go_wp2_with fail
    refine (hF _ hE).mono ?_
    rintro _ w2 ⟨rfl, hb1⟩
    replace hEE := hEE.below hb1
    replace hb := bCall hb hb1
    go_wp2_with fail
    refine (hT _).mono ?_
    rintro _ w3 ⟨rfl, hb1⟩
    replace hEE := hEE.below hb1
    replace hb := bCall hb hb1
    go_wp2_with fail
    refine (hT2 _ hEE).mono ?_
    rintro _ w4 ⟨rfl, hb1⟩
    replace hb := bCall hb hb1
    go_wp2_with fail
    refine (hV _).mono ?_
    rintro _ w5 ⟨rfl, hb1⟩
    replace hb := bCall hb hb1
    clear hF hT hV hT2
    go_wp2
    go_ret
    exact ⟨rfl, hb⟩
end Go.Proofs.YtdjnkaeggnkgeaaGreatDoor

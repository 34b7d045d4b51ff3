/- isDigits and eight of package plan. -/
import Derived.Test.YtppdcjbnijbcdaaGreatDoorLibC
import Derived.Test.YtppdcjbnijbcdaaGreatDoorLeaf
namespace Go.Proofs.YtppdcjbnijbcdaaGreatDoor
set_option linter.unusedVariables false
set_option linter.unusedSimpArgs false
open Go.RowKit
def tenD : List UInt8 := [48, 49, 50, 51, 52, 53, 54, 55, 56, 57]
theorem mem_ten (b : UInt8) : b ∈ tenD ↔ Pl.dig b = true := by
  have : ∀ b : Fin 256, (UInt8.ofNat b.val) ∈ tenD ↔ Pl.dig (UInt8.ofNat b.val) = true := by decide +kernel
  have h := this ⟨b.toNat, b.toNat_lt⟩
  simpa using h
theorem digits_trim (s : List UInt8) : (Lib.trimS s tenD).isEmpty = Pl.digits s := by
  rw [Bool.eq_iff_iff, List.isEmpty_iff, trim_digits]
  simp only [Pl.digits, List.all_eq_true, mem_ten]
theorem isDigits_any (s : List UInt8) (hs : s.length ≤ 1000000) (w : World) :
    Calls Tryz.prog 49 #[.string ⟨s.toArray⟩] w fun e w' => e = .returned (.bool (Pl.digits s)) ∧ Below w.heap.size w w' := by
  go_enter Tryz.func49, Tryz.ntmps49
  go_wp2_with fail
  refine (Trim_any s tenD _ hs (by decide) (by decide)).mono ?_
  rintro e w1 ⟨rfl, hb⟩
  go_wp2
  go_ret
  exact ⟨ret_bool (by rw [← digits_trim]), hb⟩
theorem repeat_zero (k : Nat) : Lib.repeatL [48] k = List.replicate k 48 := by
  induction k with
  | zero => rfl
  | succ k ih => simp [Lib.repeatL, ih, List.replicate_succ]
theorem nDigits_le8 (u : Nat) (h : u < 100000000) : Lib.nDigits u ≤ 8 := by
  rcases Nat.lt_or_ge 8 (Lib.nDigits u) with hlt | hge
  · obtain ⟨k, hk⟩ : ∃ k, Lib.nDigits u = k + 1 := ⟨Lib.nDigits u - 1, by omega⟩
    by_cases h0 : u < 10
    · rw [Lib.nDigits_small h0]; omega
    · have key : ∀ n u : Nat, u < 10 ^ n → 1 ≤ n → Lib.nDigits u ≤ n := by
        intro n
        induction n with
        | zero => intro u _ h; omega
        | succ n ih =>
          intro u hu _
          by_cases h10 : u < 10
          · rw [Lib.nDigits_small h10]; omega
          · rw [Lib.nDigits_big h10]
            rcases Nat.eq_zero_or_pos n with rfl | hn
            · simp at hu; omega
            · have := ih (u / 10) (by rw [Nat.pow_succ] at hu; omega) hn
              omega
      exact key 8 u (by simpa using h) (by omega)
  · exact hge
theorem eight_itoa (n : Nat) (h : n < 100000000) : List.replicate (8 - Lib.nDigits n) 48 ++ Lib.decDigits n = Pl.eight n := by
  have h8 := nDigits_le8 n h
  have hp := Lib.nDigits_pos n
  have hlt := Lib.lt_pow_nDigits n
  apply List.ext_getElem
  · simp [Lib.decDigits_length, Pl.eight_len]; omega
  · intro i h1 h2
    rw [Pl.eight_len] at h2
    have hr : (Pl.eight n)[i]'(by rw [Pl.eight_len]; exact h2) = 48 + UInt8.ofNat (n / 10 ^ (7 - i) % 10) := by
      simp [Pl.eight, Pl.digitAt]
    rw [hr]
    by_cases hi : i < 8 - Lib.nDigits n
    · rw [List.getElem_append_left (by simpa using hi), List.getElem_replicate]
      have : n / 10 ^ (7 - i) = 0 := Nat.div_eq_of_lt (Nat.lt_of_lt_of_le hlt (Nat.pow_le_pow_right (by decide) (by omega)))
      rw [this]; rfl
    · rw [List.getElem_append_right (by simpa using hi)]
      simp only [Lib.decDigits_eq, List.getElem_map, List.getElem_range, List.length_replicate, Lib.dg]
      rw [show Lib.nDigits n - 1 - (i - (8 - Lib.nDigits n)) = 7 - i by omega, UInt8.ofNat_add]
      rfl
theorem eight_any (n : Int) (h0 : 0 ≤ n) (h1 : n ≤ 99999999) (w : World) (hE : Env w) :
    Calls Tryz.prog 37 #[.int .i64 n] w fun e w' => e = .returned (.string ⟨(Pl.eight n.toNat).toArray⟩) ∧ Below w.heap.size w w' := by
  obtain ⟨n, rfl⟩ := Int.eq_ofNat_of_zero_le h0
  have hlen : (Lib.itoa (n : Int)).length = Lib.nDigits n := by
    unfold Lib.itoa; rw [if_neg (by omega)]; simp [Lib.decDigits_length]
  have h8 := nDigits_le8 n (by omega)
  have hp := Lib.nDigits_pos n
  have hfin : List.replicate (8 - (Lib.itoa (n : Int)).length) 48 ++ Lib.itoa (n : Int) = Pl.eight n := by
    rw [hlen]
    unfold Lib.itoa; rw [if_neg (by omega)]; simpa using eight_itoa n (by omega)
  have hl2 : (Lib.itoa (n : Int)).length ≤ 8 := by omega
  have HF := Lib.hid hfin
  clear hfin hlen h8 hp
  go_enter Tryz.func37, Tryz.ntmps37
  go_wp2_with fail
  refine (Itoa_any _ _ (by omega) (by omega) hE).mono ?_
  rintro e w1 ⟨rfl, hb1⟩
  generalize Lib.itoa (n : Int) = s at *
  go_wp2_with fail
  refine (Repeat_any [48] _ _ (by omega) (by omega) (by decide)).mono ?_
  rintro e w2 ⟨rfl, hb2⟩
  have hz : Lib.repeatL [48] ((8 : Int) - s.length).toNat = List.replicate (8 - s.length) 48 := by rw [repeat_zero]; congr 1; omega
  rw [hz]
  have hzl : (List.replicate (8 - s.length) (48 : UInt8)).length ≤ 8 := by simp
  clear hz
  generalize List.replicate (8 - s.length) (48 : UInt8) = z at *
  go_wp2
  go_ret
  exact ⟨ret_str HF.out, hb1.trans (hb2.mono hb1.size)⟩
end Go.Proofs.YtppdcjbnijbcdaaGreatDoor

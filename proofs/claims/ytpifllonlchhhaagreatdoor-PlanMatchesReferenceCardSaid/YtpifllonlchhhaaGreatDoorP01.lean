/- isDigits and eight of package plan. isCode, one and the pairs of codes. dialtoneref12.one; pairs of codes. -/
import Derived.Test.YtpifllonlchhhaaGreatDoorP00
namespace Go.Proofs.YtpifllonlchhhaaGreatDoor
set_option linter.unusedVariables false
set_option linter.unusedSimpArgs false
open Go.RowKit
def tenD : List UInt8 := [48, 49, 50, 51, 52, 53, 54, 55, 56, 57]
theorem mem_ten (b : UInt8) : b ∈ tenD ↔ Pl.dig b = true := by
  have : ∀ b : Fin 256, (UInt8.ofNat b.val) ∈ tenD ↔ Pl.dig (UInt8.ofNat b.val) = true := by decide +kernel
  have h := this ⟨b.toNat, b.toNat_lt⟩
  simpa using h
theorem digits_trim (s : List UInt8) : (Lib.trimS s tenD).isEmpty = Pl.digits s := by
  rw [Bool.eq_iff_iff, List.isEmpty_iff, trim_digits]
  simp only [Pl.digits, List.all_eq_true, mem_ten]
theorem isDigits_any (s : List UInt8) (hs : s.length ≤ 1000000) (w : World) :
    Calls Tryz.prog 40 #[.string ⟨s.toArray⟩] w fun e w' => e = .returned (.bool (Pl.digits s)) ∧ Below w.heap.size w w' := by
  go_enter Tryz.func40, Tryz.ntmps40
  go_wp2_with fail
  refine (Trim_any s tenD _ hs (by decide) (by decide)).mono ?_
  rintro e w1 ⟨rfl, hb⟩
  go_wp2
  go_ret
  exact ⟨ret_bool (by rw [← digits_trim]), hb⟩
theorem repeat_zero (k : Nat) : Lib.repeatL [48] k = List.replicate k 48 := by
  induction k with
  | zero => rfl
  | succ k ih => simp [Lib.repeatL, ih, List.replicate_succ]
theorem nDigits_le8 (u : Nat) (h : u < 100000000) : Lib.nDigits u ≤ 8 := by
  rcases Nat.lt_or_ge 8 (Lib.nDigits u) with hlt | hge
  · obtain ⟨k, hk⟩ : ∃ k, Lib.nDigits u = k + 1 := ⟨Lib.nDigits u - 1, by omega⟩
    by_cases h0 : u < 10
    · rw [Lib.nDigits_small h0]; omega
    · have key : ∀ n u : Nat, u < 10 ^ n → 1 ≤ n → Lib.nDigits u ≤ n := by
        intro n
        induction n with
        | zero => intro u _ h; omega
        | succ n ih =>
          intro u hu _
          by_cases h10 : u < 10
          · rw [Lib.nDigits_small h10]; omega
          · rw [Lib.nDigits_big h10]
            rcases Nat.eq_zero_or_pos n with rfl | hn
            · simp at hu; omega
            · have := ih (u / 10) (by rw [Nat.pow_succ] at hu; omega) hn
              omega
      exact key 8 u (by simpa using h) (by omega)
  · exact hge
theorem eight_itoa (n : Nat) (h : n < 100000000) : List.replicate (8 - Lib.nDigits n) 48 ++ Lib.decDigits n = Pl.eight n := by
  have h8 := nDigits_le8 n h
  have hp := Lib.nDigits_pos n
  have hlt := Lib.lt_pow_nDigits n
  apply List.ext_getElem
  · simp [Lib.decDigits_length, Pl.eight_len]; omega
  · intro i h1 h2
    rw [Pl.eight_len] at h2
    have hr : (Pl.eight n)[i]'(by rw [Pl.eight_len]; exact h2) = 48 + UInt8.ofNat (n / 10 ^ (7 - i) % 10) := by
      simp [Pl.eight, Pl.digitAt]
    rw [hr]
    by_cases hi : i < 8 - Lib.nDigits n
    · rw [List.getElem_append_left (by simpa using hi), List.getElem_replicate]
      have : n / 10 ^ (7 - i) = 0 := Nat.div_eq_of_lt (Nat.lt_of_lt_of_le hlt (Nat.pow_le_pow_right (by decide) (by omega)))
      rw [this]; rfl
    · rw [List.getElem_append_right (by simpa using hi)]
      simp only [Lib.decDigits_eq, List.getElem_map, List.getElem_range, List.length_replicate, Lib.dg]
      rw [show Lib.nDigits n - 1 - (i - (8 - Lib.nDigits n)) = 7 - i by omega, UInt8.ofNat_add]
      rfl
theorem eight_any (n : Int) (h0 : 0 ≤ n) (h1 : n ≤ 99999999) (w : World) (hE : Env w) :
    Calls Tryz.prog 28 #[.int .i64 n] w fun e w' => e = .returned (.string ⟨(Pl.eight n.toNat).toArray⟩) ∧ Below w.heap.size w w' := by
  obtain ⟨n, rfl⟩ := Int.eq_ofNat_of_zero_le h0
  have hlen : (Lib.itoa (n : Int)).length = Lib.nDigits n := by
    unfold Lib.itoa; rw [if_neg (by omega)]; simp [Lib.decDigits_length]
  have h8 := nDigits_le8 n (by omega)
  have hp := Lib.nDigits_pos n
  have hfin : List.replicate (8 - (Lib.itoa (n : Int)).length) 48 ++ Lib.itoa (n : Int) = Pl.eight n := by
    rw [hlen]
    unfold Lib.itoa; rw [if_neg (by omega)]; simpa using eight_itoa n (by omega)
  have hl2 : (Lib.itoa (n : Int)).length ≤ 8 := by omega
  have HF := Lib.hid hfin
  clear hfin hlen h8 hp
  go_enter Tryz.func28, Tryz.ntmps28
  go_wp2_with fail
  refine (Itoa_any _ _ (by omega) (by omega) hE).mono ?_
  rintro e w1 ⟨rfl, hb1⟩
  generalize Lib.itoa (n : Int) = s at *
  go_wp2_with fail
  refine (Repeat_any [48] _ _ (by omega) (by omega) (by decide)).mono ?_
  rintro e w2 ⟨rfl, hb2⟩
  have hz : Lib.repeatL [48] ((8 : Int) - s.length).toNat = List.replicate (8 - s.length) 48 := by rw [repeat_zero]; congr 1; omega
  rw [hz]
  have hzl : (List.replicate (8 - s.length) (48 : UInt8)).length ≤ 8 := by simp
  clear hz
  generalize List.replicate (8 - s.length) (48 : UInt8) = z at *
  go_wp2
  go_ret
  exact ⟨ret_str HF.out, hb1.trans (hb2.mono hb1.size)⟩
end Go.Proofs.YtpifllonlchhhaaGreatDoor
namespace Go.Proofs.YtpifllonlchhhaaGreatDoor
set_option linter.unusedVariables false
set_option linter.unusedSimpArgs false
open Go.RowKit
theorem isCode_eq (o n : List UInt8) (l : Int) : Pl.isCode ⟨o, n, l⟩ = (Pl.digits (o ++ n) && Pl.within o.length 1 4 && Pl.within n.length 1 5 && Pl.within l (o.length + 1) 7 && decide (l - o.length ≤ 8 - n.length) && Pl.apart o n) := rfl
theorem within_true {n a b : Int} (h : Pl.within n a b = true) : a ≤ n ∧ n ≤ b := by simpa [Pl.within] using h
set_option maxHeartbeats 1000000 in
theorem isCode_any (o n : List UInt8) (l : Int) (ho : o.length ≤ 1000) (hn : n.length ≤ 1000) (w : World) :
    Calls Tryz.prog 45 #[.agg #[.string ⟨o.toArray⟩, .string ⟨n.toArray⟩, .int .i64 l]] w fun e w' => e = .returned (.bool (Pl.isCode ⟨o, n, l⟩)) ∧ Below w.heap.size w w' := by
  have hlen : (o ++ n).length ≤ 1000000 := by simp; omega
  by_cases hall : Pl.digits (o ++ n) = true ∧ Pl.within o.length 1 4 = true ∧ Pl.within n.length 1 5 = true ∧ Pl.within l (o.length + 1) 7 = true
  · obtain ⟨h1, h2, h3, h4⟩ := hall
    have b4 := within_true h4
    have b3 := within_true h3
    have e5 : decide (l - (o.length : Int) ≤ 8 - (n.length : Int)) = true ∨ decide (l - (o.length : Int) ≤ 8 - (n.length : Int)) = false := by cases decide (l - (o.length : Int) ≤ 8 - (n.length : Int)) <;> simp
    have hfin : Pl.isCode ⟨o, n, l⟩ = (decide (l - (o.length : Int) ≤ 8 - (n.length : Int)) && Pl.apart o n) := by rw [isCode_eq, h1, h2, h3, h4]; simp
    have HF := Lib.hid hfin
    clear hfin
    rcases e5 with e5 | e5
    all_goals
      go_enter Tryz.func45, Tryz.ntmps45
      go_wp2_with (first
        | (go_at_call 40; refine (isDigits_any _ hlen _).mono ?_; rintro e w1 ⟨rfl, hb1⟩; have hc1 := (bcell hb1).1 w.heap.size)
        | (go_at_call 27; refine (isWithin_any _ _ _ _).mono ?_; rintro e w' ⟨rfl, rfl⟩))
      have g0 := fun d os => cell_regrown (show w1.cell? ⟨w.heap.size, 0, none⟩ = some (.string ⟨o.toArray⟩) by rw [hc1 _ (by simp)]; simp) d os
      have g1 := fun d os => cell_regrown (show w1.cell? ⟨w.heap.size, 1, none⟩ = some (.string ⟨n.toArray⟩) by rw [hc1 _ (by simp)]; simp) d os
      have g2 := fun d os => cell_regrown (show w1.cell? ⟨w.heap.size, 2, none⟩ = some (.int .i64 l) by rw [hc1 _ (by simp)]; simp) d os
      refine wp_region_quiet_below (by kernel_rfl) (by kernel_rfl) ?_
      repeat (go_big_quiet_step (first
        | (go_at_call 30; exact Calls.regrown_of (room_any _ _ _ (by omega) (by omega) _))
        | (go_at_call 47; exact Calls.regrown_of (calls_below (areApart_any _ _ _)))))
      refine wpQuiet_nil ?_
      rintro _ ⟨q, rfl⟩
      go_wp2
      go_ret
      exact ⟨ret_bool (by rw [HF.out, e5]; simp), bAgain (bCall (bNew (bStart _) _) hb1) _ _⟩
  · have hfin : Pl.isCode ⟨o, n, l⟩ = false := by
      rw [isCode_eq]
      cases h1 : Pl.digits (o ++ n) <;> cases h2 : Pl.within o.length 1 4 <;> cases h3 : Pl.within n.length 1 5 <;> cases h4 : Pl.within l (o.length + 1) 7 <;> simp_all
    have HF := Lib.hid hfin
    clear hfin
    have hc : Pl.digits (o ++ n) = false ∨ (Pl.digits (o ++ n) = true ∧ Pl.within o.length 1 4 = false) ∨ (Pl.digits (o ++ n) = true ∧ Pl.within o.length 1 4 = true ∧ Pl.within n.length 1 5 = false) ∨
        (Pl.digits (o ++ n) = true ∧ Pl.within o.length 1 4 = true ∧ Pl.within n.length 1 5 = true ∧ Pl.within l (o.length + 1) 7 = false) := by
      cases h1 : Pl.digits (o ++ n) <;> cases h2 : Pl.within o.length 1 4 <;> cases h3 : Pl.within n.length 1 5 <;> cases h4 : Pl.within l (o.length + 1) 7 <;> simp_all
    clear hall
    rcases hc with h1 | ⟨h1, h2⟩ | ⟨h1, h2, h3⟩ | ⟨h1, h2, h3, h4⟩
    all_goals
      go_enter Tryz.func45, Tryz.ntmps45
      go_wp2_with (first
        | (go_at_call 40; refine (isDigits_any _ hlen _).mono ?_; rintro e w1 ⟨rfl, hb1⟩; have hc1 := (bcell hb1).1 w.heap.size)
        | (go_at_call 27; refine (isWithin_any _ _ _ _).mono ?_; rintro e w' ⟨rfl, rfl⟩))
      go_ret
      exact ⟨ret_bool HF.out.symm, bCall (bNew (bStart _) _) hb1⟩
end Go.Proofs.YtpifllonlchhhaaGreatDoor
namespace Go.Proofs.YtpifllonlchhhaaGreatDoor
set_option linter.unusedVariables false
set_option linter.unusedSimpArgs false
open Go.RowKit
set_option maxRecDepth 100000 in
set_option maxHeartbeats 2000000 in
theorem one_any (o n : List UInt8) (l : Int) (ho : o.length ≤ 1000) (hn : n.length ≤ 1000) (hl1 : -9223372036854775808 ≤ l) (hl2 : l ≤ 9223372036854775807) (w : World) :
    Calls Tryz.prog 49 #[.agg #[.string ⟨o.toArray⟩, .string ⟨n.toArray⟩, .int .i64 l]] w fun e w' => e = .returned (.bool (Pl.isCode ⟨o, n, l⟩)) ∧ Below w.heap.size w w' := by
  have ho' : o.length ≤ 1000000 := by omega
  have hn' : n.length ≤ 1000000 := by omega
  have hdd : Pl.digits (o ++ n) = (Pl.digits o && Pl.digits n) := by simp [Pl.digits]
  by_cases hall : Pl.digits o = true ∧ Pl.digits n = true ∧ (1 : Int) ≤ o.length ∧ (o.length : Int) ≤ 4 ∧ (1 : Int) ≤ n.length ∧ (n.length : Int) ≤ 5 ∧ (o.length : Int) < l ∧ l ≤ 7 ∧ l - (o.length : Int) ≤ 8 - (n.length : Int)
  · obtain ⟨h1, h2, h3, h4, h5, h6, h7, h8, h9⟩ := hall
    have hfin : Pl.isCode ⟨o, n, l⟩ = Pl.apart o n := by
      rw [isCode_eq, hdd, h1, h2]
      simp [Pl.within, h3, h4, h5, h6, h8, h9]
      intro _; omega
    have HF := Lib.hid hfin
    clear hfin hdd
    go_enter Tryz.func49, Tryz.ntmps49
    go_wp2_with (first
      | (go_at_call 42; refine (digits_any _ (by assumption) _).mono ?_; rintro e w' ⟨rfl, rfl⟩)
      | (go_at_call 50; refine (apart_any _ _ _).mono ?_; rintro e w' ⟨rfl, rfl⟩))
    go_ret
    exact ⟨ret_bool HF.out.symm, bNew (bStart _) _⟩
  · have hfin : Pl.isCode ⟨o, n, l⟩ = false := by
      rw [isCode_eq, hdd]
      cases h1 : Pl.digits o <;> cases h2 : Pl.digits n <;> simp_all [Pl.within]
      intro _ _ _ _ _ _ _
      omega
    have HF := Lib.hid hfin
    have hc : Pl.digits o = false ∨ (Pl.digits o = true ∧ Pl.digits n = false) ∨ (Pl.digits o = true ∧ Pl.digits n = true ∧ ((o.length : Int) < 1 ∨ (1 ≤ (o.length : Int) ∧ 4 < (o.length : Int)) ∨ ((1 : Int) ≤ o.length ∧ (o.length : Int) ≤ 4 ∧ ((n.length : Int) < 1 ∨ ((1 : Int) ≤ n.length ∧ 5 < (n.length : Int)) ∨ ((1 : Int) ≤ n.length ∧ (n.length : Int) ≤ 5 ∧ (l ≤ (o.length : Int) ∨ ((o.length : Int) < l ∧ 7 < l) ∨ ((o.length : Int) < l ∧ l ≤ 7 ∧ 8 - (n.length : Int) < l - (o.length : Int)))))))) := by
      cases h1 : Pl.digits o <;> cases h2 : Pl.digits n <;> simp_all
      omega
    clear hall hfin hdd
    rcases hc with h1 | ⟨h1, h2⟩ | ⟨h1, h2, h3 | ⟨h3, h3'⟩ | ⟨h3, h4, h5 | ⟨h5, h5'⟩ | ⟨h5, h6, h7 | ⟨h7, h7'⟩ | ⟨h7, h8, h9⟩⟩⟩⟩
    all_goals
      go_enter Tryz.func49, Tryz.ntmps49
      go_wp2_with (first
        | (go_at_call 42; refine (digits_any _ (by assumption) _).mono ?_; rintro e w' ⟨rfl, rfl⟩))
      go_ret
      exact ⟨ret_bool HF.out.symm, bNew (bStart _) _⟩
/-- plan.Valid's closure: may two codes stand beside each other? -/
theorem differ_eq (a b : Pl.Cd) : Pl.differ a b = (Pl.apart a.old b.old && Pl.apart a.new b.new && Pl.apart a.old b.new && Pl.apart a.new b.old) := rfl
set_option maxRecDepth 100000 in
set_option maxHeartbeats 2000000 in
theorem differ_any (a b : Pl.Cd) (w : World) :
    Calls Tryz.prog 46 #[codeV a, codeV b] w fun e w' => e = .returned (.bool (Pl.differ a b)) ∧ Below w.heap.size w w' := by
  have hc : Pl.apart a.old b.old = false ∨ (Pl.apart a.old b.old = true ∧ Pl.apart a.new b.new = false) ∨ (Pl.apart a.old b.old = true ∧ Pl.apart a.new b.new = true ∧ Pl.apart a.old b.new = false) ∨ (Pl.apart a.old b.old = true ∧ Pl.apart a.new b.new = true ∧ Pl.apart a.old b.new = true) := by
    cases Pl.apart a.old b.old <;> cases Pl.apart a.new b.new <;> cases Pl.apart a.old b.new <;> simp
  have HF := Lib.hid (differ_eq a b)
  unfold codeV
  rcases hc with h1 | ⟨h1, h2⟩ | ⟨h1, h2, h3⟩ | ⟨h1, h2, h3⟩
  all_goals
    go_enter Tryz.func46, Tryz.ntmps46
    go_wp2_with (go_at_call 47; refine (areApart_any _ _ _).mono ?_; rintro e w' ⟨rfl, rfl⟩)
    go_ret
    exact ⟨ret_bool (by rw [HF.out]; simp [h1]; try simp [h2]; try simp [h3]), bNew (bNew (bStart _) _) _⟩
end Go.Proofs.YtpifllonlchhhaaGreatDoor

/- isDigits and eight of package plan. isCode, one and the pairs of codes. dialtoneref12.one; pairs of codes. all, Valid of package plan. Valid of package dialtoneref12. Range of package plan. value and Range of package dialtoneref12. One of package dialtoneref12. Made of package dialtoneref12. text of package dialtonelaw12, Number of package dialtoneref12. entries of package plan. What Read leans on, of no program. Read of package plan. Read of package plan, where the input is in bounds. Package forward: Dial. -/
import Derived.Test.YtlldlkjngcgcjaaGreatDoorQ06
import Derived.Test.YtlldlkjngcgcjaaGreatDoorQ01
import Derived.Test.YtlldlkjngcgcjaaGreatDoorQ02
import Derived.Test.YtlldlkjngcgcjaaGreatDoorQ05
namespace Go.Proofs.YtlldlkjngcgcjaaGreatDoor
set_option linter.unusedVariables false
set_option linter.unusedSimpArgs false
open Go.RowKit
def tenD : List UInt8 := [48, 49, 50, 51, 52, 53, 54, 55, 56, 57]
theorem mem_ten (b : UInt8) : b ∈ tenD ↔ Pl.dig b = true := by
  have : ∀ b : Fin 256, (UInt8.ofNat b.val) ∈ tenD ↔ Pl.dig (UInt8.ofNat b.val) = true := by decide +kernel
  have h := this ⟨b.toNat, b.toNat_lt⟩
  simpa using h
theorem digits_trim (s : List UInt8) : (Lib.trimS s tenD).isEmpty = Pl.digits s := by
  rw [Bool.eq_iff_iff, List.isEmpty_iff, trim_digits]
  simp only [Pl.digits, List.all_eq_true, mem_ten]
theorem isDigits_any (s : List UInt8) (hs : s.length ≤ 1000000) (w : World) :
    Calls Tryz.prog 89 #[.string ⟨s.toArray⟩] w fun e w' => e = .returned (.bool (Pl.digits s)) ∧ Below w.heap.size w w' := by
  go_enter Tryz.func89, Tryz.ntmps89
  go_wp2_with fail
  refine (Trim_any s tenD _ hs (by decide) (by decide)).mono ?_
  rintro e w1 ⟨rfl, hb⟩
  go_wp2
  go_ret
  exact ⟨ret_bool (by rw [← digits_trim]), hb⟩
theorem repeat_zero (k : Nat) : Lib.repeatL [48] k = List.replicate k 48 := by
  induction k with
  | zero => rfl
  | succ k ih => simp [Lib.repeatL, ih, List.replicate_succ]
theorem nDigits_le8 (u : Nat) (h : u < 100000000) : Lib.nDigits u ≤ 8 := by
  rcases Nat.lt_or_ge 8 (Lib.nDigits u) with hlt | hge
  · obtain ⟨k, hk⟩ : ∃ k, Lib.nDigits u = k + 1 := ⟨Lib.nDigits u - 1, by omega⟩
    by_cases h0 : u < 10
    · rw [Lib.nDigits_small h0]; omega
    · have key : ∀ n u : Nat, u < 10 ^ n → 1 ≤ n → Lib.nDigits u ≤ n := by
        intro n
        induction n with
        | zero => intro u _ h; omega
        | succ n ih =>
          intro u hu _
          by_cases h10 : u < 10
          · rw [Lib.nDigits_small h10]; omega
          · rw [Lib.nDigits_big h10]
            rcases Nat.eq_zero_or_pos n with rfl | hn
            · simp at hu; omega
            · have := ih (u / 10) (by rw [Nat.pow_succ] at hu; omega) hn
              omega
      exact key 8 u (by simpa using h) (by omega)
  · exact hge
theorem eight_itoa (n : Nat) (h : n < 100000000) : List.replicate (8 - Lib.nDigits n) 48 ++ Lib.decDigits n = Pl.eight n := by
  have h8 := nDigits_le8 n h
  have hp := Lib.nDigits_pos n
  have hlt := Lib.lt_pow_nDigits n
  apply List.ext_getElem
  · simp [Lib.decDigits_length, Pl.eight_len]; omega
  · intro i h1 h2
    rw [Pl.eight_len] at h2
    have hr : (Pl.eight n)[i]'(by rw [Pl.eight_len]; exact h2) = 48 + UInt8.ofNat (n / 10 ^ (7 - i) % 10) := by
      simp [Pl.eight, Pl.digitAt]
    rw [hr]
    by_cases hi : i < 8 - Lib.nDigits n
    · rw [List.getElem_append_left (by simpa using hi), List.getElem_replicate]
      have : n / 10 ^ (7 - i) = 0 := Nat.div_eq_of_lt (Nat.lt_of_lt_of_le hlt (Nat.pow_le_pow_right (by decide) (by omega)))
      rw [this]; rfl
    · rw [List.getElem_append_right (by simpa using hi)]
      simp only [Lib.decDigits_eq, List.getElem_map, List.getElem_range, List.length_replicate, Lib.dg]
      rw [show Lib.nDigits n - 1 - (i - (8 - Lib.nDigits n)) = 7 - i by omega, UInt8.ofNat_add]
      rfl
theorem eight_any (n : Int) (h0 : 0 ≤ n) (h1 : n ≤ 99999999) (w : World) (hE : Env w) :
    Calls Tryz.prog 37 #[.int .i64 n] w fun e w' => e = .returned (.string ⟨(Pl.eight n.toNat).toArray⟩) ∧ Below w.heap.size w w' := by
  obtain ⟨n, rfl⟩ := Int.eq_ofNat_of_zero_le h0
  have hlen : (Lib.itoa (n : Int)).length = Lib.nDigits n := by
    unfold Lib.itoa; rw [if_neg (by omega)]; simp [Lib.decDigits_length]
  have h8 := nDigits_le8 n (by omega)
  have hp := Lib.nDigits_pos n
  have hfin : List.replicate (8 - (Lib.itoa (n : Int)).length) 48 ++ Lib.itoa (n : Int) = Pl.eight n := by
    rw [hlen]
    unfold Lib.itoa; rw [if_neg (by omega)]; simpa using eight_itoa n (by omega)
  have hl2 : (Lib.itoa (n : Int)).length ≤ 8 := by omega
  have HF := Lib.hid hfin
  clear hfin hlen h8 hp
  go_enter Tryz.func37, Tryz.ntmps37
  go_wp2_with fail
  refine (Itoa_any _ _ (by omega) (by omega) hE).mono ?_
  rintro e w1 ⟨rfl, hb1⟩
  generalize Lib.itoa (n : Int) = s at *
  go_wp2_with fail
  refine (Repeat_any [48] _ _ (by omega) (by omega) (by decide)).mono ?_
  rintro e w2 ⟨rfl, hb2⟩
  have hz : Lib.repeatL [48] ((8 : Int) - s.length).toNat = List.replicate (8 - s.length) 48 := by rw [repeat_zero]; congr 1; omega
  rw [hz]
  have hzl : (List.replicate (8 - s.length) (48 : UInt8)).length ≤ 8 := by simp
  clear hz
  generalize List.replicate (8 - s.length) (48 : UInt8) = z at *
  go_wp2
  go_ret
  exact ⟨ret_str HF.out, hb1.trans (hb2.mono hb1.size)⟩
end Go.Proofs.YtlldlkjngcgcjaaGreatDoor
namespace Go.Proofs.YtlldlkjngcgcjaaGreatDoor
set_option linter.unusedVariables false
set_option linter.unusedSimpArgs false
open Go.RowKit
theorem isCode_eq (o n : List UInt8) (l : Int) : Pl.isCode ⟨o, n, l⟩ = (Pl.digits (o ++ n) && Pl.within o.length 1 4 && Pl.within n.length 1 5 && Pl.within l (o.length + 1) 7 && decide (l - o.length ≤ 8 - n.length) && Pl.apart o n) := rfl
theorem within_true {n a b : Int} (h : Pl.within n a b = true) : a ≤ n ∧ n ≤ b := by simpa [Pl.within] using h
set_option maxHeartbeats 1000000 in
theorem isCode_any (o n : List UInt8) (l : Int) (ho : o.length ≤ 1000) (hn : n.length ≤ 1000) (w : World) :
    Calls Tryz.prog 75 #[.agg #[.string ⟨o.toArray⟩, .string ⟨n.toArray⟩, .int .i64 l]] w fun e w' => e = .returned (.bool (Pl.isCode ⟨o, n, l⟩)) ∧ Below w.heap.size w w' := by
  have hlen : (o ++ n).length ≤ 1000000 := by simp; omega
  by_cases hall : Pl.digits (o ++ n) = true ∧ Pl.within o.length 1 4 = true ∧ Pl.within n.length 1 5 = true ∧ Pl.within l (o.length + 1) 7 = true
  · obtain ⟨h1, h2, h3, h4⟩ := hall
    have b4 := within_true h4
    have b3 := within_true h3
    have e5 : decide (l - (o.length : Int) ≤ 8 - (n.length : Int)) = true ∨ decide (l - (o.length : Int) ≤ 8 - (n.length : Int)) = false := by cases decide (l - (o.length : Int) ≤ 8 - (n.length : Int)) <;> simp
    have hfin : Pl.isCode ⟨o, n, l⟩ = (decide (l - (o.length : Int) ≤ 8 - (n.length : Int)) && Pl.apart o n) := by rw [isCode_eq, h1, h2, h3, h4]; simp
    have HF := Lib.hid hfin
    clear hfin
    rcases e5 with e5 | e5
    all_goals
      go_enter Tryz.func75, Tryz.ntmps75
      go_wp2_with (first
        | (go_at_call 89; refine (isDigits_any _ hlen _).mono ?_; rintro e w1 ⟨rfl, hb1⟩; have hc1 := (bcell hb1).1 w.heap.size)
        | (go_at_call 36; refine (isWithin_any _ _ _ _).mono ?_; rintro e w' ⟨rfl, rfl⟩))
      have g0 := fun d os => cell_regrown (show w1.cell? ⟨w.heap.size, 0, none⟩ = some (.string ⟨o.toArray⟩) by rw [hc1 _ (by simp)]; simp) d os
      have g1 := fun d os => cell_regrown (show w1.cell? ⟨w.heap.size, 1, none⟩ = some (.string ⟨n.toArray⟩) by rw [hc1 _ (by simp)]; simp) d os
      have g2 := fun d os => cell_regrown (show w1.cell? ⟨w.heap.size, 2, none⟩ = some (.int .i64 l) by rw [hc1 _ (by simp)]; simp) d os
      refine wp_region_quiet_below (by kernel_rfl) (by kernel_rfl) ?_
      repeat (go_big_quiet_step (first
        | (go_at_call 39; exact Calls.regrown_of (room_any _ _ _ (by omega) (by omega) _))
        | (go_at_call 77; exact Calls.regrown_of (calls_below (areApart_any _ _ _)))))
      refine wpQuiet_nil ?_
      rintro _ ⟨q, rfl⟩
      go_wp2
      go_ret
      exact ⟨ret_bool (by rw [HF.out, e5]; simp), bAgain (bCall (bNew (bStart _) _) hb1) _ _⟩
  · have hfin : Pl.isCode ⟨o, n, l⟩ = false := by
      rw [isCode_eq]
      cases h1 : Pl.digits (o ++ n) <;> cases h2 : Pl.within o.length 1 4 <;> cases h3 : Pl.within n.length 1 5 <;> cases h4 : Pl.within l (o.length + 1) 7 <;> simp_all
    have HF := Lib.hid hfin
    clear hfin
    have hc : Pl.digits (o ++ n) = false ∨ (Pl.digits (o ++ n) = true ∧ Pl.within o.length 1 4 = false) ∨ (Pl.digits (o ++ n) = true ∧ Pl.within o.length 1 4 = true ∧ Pl.within n.length 1 5 = false) ∨
        (Pl.digits (o ++ n) = true ∧ Pl.within o.length 1 4 = true ∧ Pl.within n.length 1 5 = true ∧ Pl.within l (o.length + 1) 7 = false) := by
      cases h1 : Pl.digits (o ++ n) <;> cases h2 : Pl.within o.length 1 4 <;> cases h3 : Pl.within n.length 1 5 <;> cases h4 : Pl.within l (o.length + 1) 7 <;> simp_all
    clear hall
    rcases hc with h1 | ⟨h1, h2⟩ | ⟨h1, h2, h3⟩ | ⟨h1, h2, h3, h4⟩
    all_goals
      go_enter Tryz.func75, Tryz.ntmps75
      go_wp2_with (first
        | (go_at_call 89; refine (isDigits_any _ hlen _).mono ?_; rintro e w1 ⟨rfl, hb1⟩; have hc1 := (bcell hb1).1 w.heap.size)
        | (go_at_call 36; refine (isWithin_any _ _ _ _).mono ?_; rintro e w' ⟨rfl, rfl⟩))
      go_ret
      exact ⟨ret_bool HF.out.symm, bCall (bNew (bStart _) _) hb1⟩
end Go.Proofs.YtlldlkjngcgcjaaGreatDoor
namespace Go.Proofs.YtlldlkjngcgcjaaGreatDoor
set_option linter.unusedVariables false
set_option linter.unusedSimpArgs false
open Go.RowKit
set_option maxRecDepth 100000 in
set_option maxHeartbeats 2000000 in
theorem one_any (o n : List UInt8) (l : Int) (ho : o.length ≤ 1000) (hn : n.length ≤ 1000) (hl1 : -9223372036854775808 ≤ l) (hl2 : l ≤ 9223372036854775807) (w : World) :
    Calls Tryz.prog 65 #[.agg #[.string ⟨o.toArray⟩, .string ⟨n.toArray⟩, .int .i64 l]] w fun e w' => e = .returned (.bool (Pl.isCode ⟨o, n, l⟩)) ∧ Below w.heap.size w w' := by
  have ho' : o.length ≤ 1000000 := by omega
  have hn' : n.length ≤ 1000000 := by omega
  have hdd : Pl.digits (o ++ n) = (Pl.digits o && Pl.digits n) := by simp [Pl.digits]
  by_cases hall : Pl.digits o = true ∧ Pl.digits n = true ∧ (1 : Int) ≤ o.length ∧ (o.length : Int) ≤ 4 ∧ (1 : Int) ≤ n.length ∧ (n.length : Int) ≤ 5 ∧ (o.length : Int) < l ∧ l ≤ 7 ∧ l - (o.length : Int) ≤ 8 - (n.length : Int)
  · obtain ⟨h1, h2, h3, h4, h5, h6, h7, h8, h9⟩ := hall
    have hfin : Pl.isCode ⟨o, n, l⟩ = Pl.apart o n := by
      rw [isCode_eq, hdd, h1, h2]
      simp [Pl.within, h3, h4, h5, h6, h8, h9]
      intro _; omega
    have HF := Lib.hid hfin
    clear hfin hdd
    go_enter Tryz.func65, Tryz.ntmps65
    go_wp2_with (first
      | (go_at_call 109; refine (digits_any _ (by assumption) _).mono ?_; rintro e w' ⟨rfl, rfl⟩)
      | (go_at_call 66; refine (apart_any _ _ _).mono ?_; rintro e w' ⟨rfl, rfl⟩))
    go_ret
    exact ⟨ret_bool HF.out.symm, bNew (bStart _) _⟩
  · have hfin : Pl.isCode ⟨o, n, l⟩ = false := by
      rw [isCode_eq, hdd]
      cases h1 : Pl.digits o <;> cases h2 : Pl.digits n <;> simp_all [Pl.within]
      intro _ _ _ _ _ _ _
      omega
    have HF := Lib.hid hfin
    have hc : Pl.digits o = false ∨ (Pl.digits o = true ∧ Pl.digits n = false) ∨ (Pl.digits o = true ∧ Pl.digits n = true ∧ ((o.length : Int) < 1 ∨ (1 ≤ (o.length : Int) ∧ 4 < (o.length : Int)) ∨ ((1 : Int) ≤ o.length ∧ (o.length : Int) ≤ 4 ∧ ((n.length : Int) < 1 ∨ ((1 : Int) ≤ n.length ∧ 5 < (n.length : Int)) ∨ ((1 : Int) ≤ n.length ∧ (n.length : Int) ≤ 5 ∧ (l ≤ (o.length : Int) ∨ ((o.length : Int) < l ∧ 7 < l) ∨ ((o.length : Int) < l ∧ l ≤ 7 ∧ 8 - (n.length : Int) < l - (o.length : Int)))))))) := by
      cases h1 : Pl.digits o <;> cases h2 : Pl.digits n <;> simp_all
      omega
    clear hall hfin hdd
    rcases hc with h1 | ⟨h1, h2⟩ | ⟨h1, h2, h3 | ⟨h3, h3'⟩ | ⟨h3, h4, h5 | ⟨h5, h5'⟩ | ⟨h5, h6, h7 | ⟨h7, h7'⟩ | ⟨h7, h8, h9⟩⟩⟩⟩
    all_goals
      go_enter Tryz.func65, Tryz.ntmps65
      go_wp2_with (first
        | (go_at_call 109; refine (digits_any _ (by assumption) _).mono ?_; rintro e w' ⟨rfl, rfl⟩))
      go_ret
      exact ⟨ret_bool HF.out.symm, bNew (bStart _) _⟩
/-- plan.Valid's closure: may two codes stand beside each other? -/
theorem differ_eq (a b : Pl.Cd) : Pl.differ a b = (Pl.apart a.old b.old && Pl.apart a.new b.new && Pl.apart a.old b.new && Pl.apart a.new b.old) := rfl
set_option maxRecDepth 100000 in
set_option maxHeartbeats 2000000 in
theorem differ_any (a b : Pl.Cd) (w : World) :
    Calls Tryz.prog 76 #[codeV a, codeV b] w fun e w' => e = .returned (.bool (Pl.differ a b)) ∧ Below w.heap.size w w' := by
  have hc : Pl.apart a.old b.old = false ∨ (Pl.apart a.old b.old = true ∧ Pl.apart a.new b.new = false) ∨ (Pl.apart a.old b.old = true ∧ Pl.apart a.new b.new = true ∧ Pl.apart a.old b.new = false) ∨ (Pl.apart a.old b.old = true ∧ Pl.apart a.new b.new = true ∧ Pl.apart a.old b.new = true) := by
    cases Pl.apart a.old b.old <;> cases Pl.apart a.new b.new <;> cases Pl.apart a.old b.new <;> simp
  have HF := Lib.hid (differ_eq a b)
  unfold codeV
  rcases hc with h1 | ⟨h1, h2⟩ | ⟨h1, h2, h3⟩ | ⟨h1, h2, h3⟩
  all_goals
    go_enter Tryz.func76, Tryz.ntmps76
    go_wp2_with (go_at_call 77; refine (areApart_any _ _ _).mono ?_; rintro e w' ⟨rfl, rfl⟩)
    go_ret
    exact ⟨ret_bool (by rw [HF.out]; simp [h1]; try simp [h2]; try simp [h3]), bNew (bNew (bStart _) _) _⟩
end Go.Proofs.YtlldlkjngcgcjaaGreatDoor
namespace Go.Proofs.YtlldlkjngcgcjaaGreatDoor
set_option linter.unusedVariables false
set_option linter.unusedSimpArgs false
open Go.RowKit
set_option maxRecDepth 100000 in
set_option maxHeartbeats 2000000 in
theorem all_any (p : List Pl.Cd) (A : Option Addr) (cap : Nat) (w : World) (hA : At 3 codeC w w.heap.size A p) (hn : p.length ≤ cap) (hl : p.length ≤ 1000) :
    Calls Tryz.prog 78 #[.slice A p.length cap, .func (.func 76) #[] #[]] w fun e w' => e = .returned (.bool (Pl.allPairs p)) ∧ Below w.heap.size w w' := by
  go_enter Tryz.func78, Tryz.ntmps78
  go_wp2
  go_loopw [11] (fun i wr => ∃ k : Nat, k ≤ p.length ∧ i = .int .i64 k ∧ Hid (Pl.pairsTo p k = true) ∧ Below w.heap.size w wr) (fun i _ => p.length - (intOf i).toNat)
  case atStart => exact ⟨0, Nat.zero_le _, rfl, Lib.hid (Pl.pairsTo_zero p), bStart _⟩
  case round =>
    obtain ⟨k, hk, rfl, hp, hb⟩ := hrel
    by_cases hlt : k < p.length
    · obtain ⟨b, off, rfl, hbB, hcell⟩ := hA (by omega)
      have hck : p[k]? = some p[k] := List.getElem?_eq_getElem hlt
      have c0 : wr.cell? ⟨b, off + k * 3, none⟩ = some (.string ⟨(p[k]).old.toArray⟩) := (hb.cell (p := ⟨b, _, none⟩) hbB).trans (hcell k _ hck 0 _ rfl)
      have c1 : wr.cell? ⟨b, off + k * 3 + 1, none⟩ = some (.string ⟨(p[k]).new.toArray⟩) := (hb.cell (p := ⟨b, _, none⟩) hbB).trans (hcell k _ hck 1 _ rfl)
      have c2 : wr.cell? ⟨b, off + k * 3 + 2, none⟩ = some (.int .i64 (p[k]).len) := (hb.cell (p := ⟨b, _, none⟩) hbB).trans (hcell k _ hck 2 _ rfl)
      clear hck
      go_wp2
      obtain ⟨wo, rfl⟩ : ∃ wo : World, wo = wr := ⟨_, rfl⟩
      go_loopw [20] (fun j wr => ∃ m : Nat, m ≤ k ∧ j = .int .i64 m ∧ Hid ((p.take m).all (fun b => Pl.differ p[k] b) = true) ∧ Below (wo.alloc (.cells #[.string ⟨(p[k]).old.toArray⟩, .string ⟨(p[k]).new.toArray⟩, .int .i64 (p[k]).len] 63)).heap.size (wo.alloc (.cells #[.string ⟨(p[k]).old.toArray⟩, .string ⟨(p[k]).new.toArray⟩, .int .i64 (p[k]).len] 63)) wr) (fun j _ => k - (intOf j).toNat)
      case atStart => exact ⟨0, Nat.zero_le _, rfl, Lib.hid (by simp), Below.refl _ _⟩
      case round =>
        obtain ⟨m, hm, rfl, hp2, hb2⟩ := hrel
        have hbb := bCall (bNew hb _) hb2
        have a0 : wr.cell? ⟨wo.heap.size, 0, none⟩ = some (.string ⟨(p[k]).old.toArray⟩) := ((bcell hb2).1 _ _ (by simp)).trans (by simp)
        have a1 : wr.cell? ⟨wo.heap.size, 1, none⟩ = some (.string ⟨(p[k]).new.toArray⟩) := ((bcell hb2).1 _ _ (by simp)).trans (by simp)
        have a2 : wr.cell? ⟨wo.heap.size, 2, none⟩ = some (.int .i64 (p[k]).len) := ((bcell hb2).1 _ _ (by simp)).trans (by simp)
        by_cases hlm : m < k
        · have hcm : p[m]? = some p[m] := List.getElem?_eq_getElem (by omega)
          have d0 : wr.cell? ⟨b, off + m * 3, none⟩ = some (.string ⟨(p[m]).old.toArray⟩) := (hbb.cell (p := ⟨b, _, none⟩) hbB).trans (hcell m _ hcm 0 _ rfl)
          have d1 : wr.cell? ⟨b, off + m * 3 + 1, none⟩ = some (.string ⟨(p[m]).new.toArray⟩) := (hbb.cell (p := ⟨b, _, none⟩) hbB).trans (hcell m _ hcm 1 _ rfl)
          have d2 : wr.cell? ⟨b, off + m * 3 + 2, none⟩ = some (.int .i64 (p[m]).len) := (hbb.cell (p := ⟨b, _, none⟩) hbB).trans (hcell m _ hcm 2 _ rfl)
          have hsz : wo.heap.size < wr.heap.size := by have := hb2.size; simp at this; omega
          clear hcm c0 c1 c2
          cases hd : Pl.differ p[k] p[m]
          · go_wp2_with (go_at_call 76; refine (differ_any p[k] p[m] _).mono ?_; rintro e w1 ⟨rfl, hb3⟩)
            go_ret
            exact ⟨ret_bool (Pl.allPairs_bad p k m hlt hlm hd).symm, bCall (bNew hbb _) hb3⟩
          · have HD := Lib.hid hd
            go_wp2_with (go_at_call 76; refine (differ_any p[k] p[m] _).mono ?_; rintro e w1 ⟨rfl, hb3⟩)
            go_roundw
            case rel =>
              refine ⟨m + 1, by omega, by go_num, Lib.hid ?_, bCall (bNew hb2 _) hb3⟩
              rw [Pl.take_snoc p m (by omega), List.all_append, hp2.out]
              simp [HD.out]
            case measure => simp [intOf]; omega
        · go_wp2
          go_roundw
          case rel =>
            refine ⟨k + 1, by omega, by go_num, Lib.hid ?_, hbb⟩
            obtain rfl : m = k := by omega
            rw [Pl.pairsTo_succ p m hlt, hp.out, hp2.out]; rfl
          case measure => simp [intOf]; omega
    · go_wp2
      go_ret
      obtain rfl : k = p.length := by omega
      exact ⟨ret_bool hp.out.symm, hb⟩
set_option maxRecDepth 100000 in
set_option maxHeartbeats 2000000 in
/-- plan.Valid -/
theorem valid_any (p : List Pl.Cd) (A : Option Addr) (cap : Nat) (w : World) (hA : At 3 codeC w w.heap.size A p) (hn : p.length ≤ cap) (hl : p.length ≤ 1000) (hs : ∀ c ∈ p, c.old.length ≤ 1000 ∧ c.new.length ≤ 1000) :
    Calls Tryz.prog 34 #[.slice A p.length cap] w fun e w' => e = .returned (.bool (Pl.valid p)) ∧ Below w.heap.size w w' := by
  go_enter Tryz.func34, Tryz.ntmps34
  go_wp2
  go_loopw [8] (fun i wr => ∃ k : Nat, k ≤ p.length ∧ i = .int .i64 k ∧ Hid ((p.take k).all Pl.isCode = true) ∧ Below w.heap.size w wr) (fun i _ => p.length - (intOf i).toNat)
  case atStart => exact ⟨0, Nat.zero_le _, rfl, Lib.hid (by simp), bStart _⟩
  case round =>
    obtain ⟨k, hk, rfl, hp, hb⟩ := hrel
    by_cases hlt : k < p.length
    · obtain ⟨b, off, rfl, hbB, hcell⟩ := hA (by omega)
      have hck : p[k]? = some p[k] := List.getElem?_eq_getElem hlt
      have c0 : wr.cell? ⟨b, off + k * 3, none⟩ = some (.string ⟨(p[k]).old.toArray⟩) := (hb.cell (p := ⟨b, _, none⟩) hbB).trans (hcell k _ hck 0 _ rfl)
      have c1 : wr.cell? ⟨b, off + k * 3 + 1, none⟩ = some (.string ⟨(p[k]).new.toArray⟩) := (hb.cell (p := ⟨b, _, none⟩) hbB).trans (hcell k _ hck 1 _ rfl)
      have c2 : wr.cell? ⟨b, off + k * 3 + 2, none⟩ = some (.int .i64 (p[k]).len) := (hb.cell (p := ⟨b, _, none⟩) hbB).trans (hcell k _ hck 2 _ rfl)
      obtain ⟨s1, s2⟩ := hs p[k] (List.getElem_mem hlt)
      clear hck
      cases hd : Pl.isCode p[k]
      · have hfin : Pl.valid p = false := by
          unfold Pl.valid
          have : p.all Pl.isCode = false := by simp only [List.all_eq_false]; exact ⟨p[k], List.getElem_mem hlt, by simp [hd]⟩
          rw [this]; rfl
        have HF := Lib.hid hfin
        clear hfin
        go_wp2_with (go_at_call 75; refine (isCode_any (p[k]).old (p[k]).new (p[k]).len s1 s2 _).mono ?_; rintro e w1 ⟨rfl, hb3⟩)
        go_ret
        exact ⟨ret_bool HF.out.symm, bCall (bNew hb _) hb3⟩
      · have HD := Lib.hid hd
        go_wp2_with (go_at_call 75; refine (isCode_any (p[k]).old (p[k]).new (p[k]).len s1 s2 _).mono ?_; rintro e w1 ⟨rfl, hb3⟩)
        go_roundw
        case rel =>
          refine ⟨k + 1, by omega, by go_num, Lib.hid ?_, bCall (bNew hb _) hb3⟩
          rw [Pl.take_snoc p k hlt, List.all_append, hp.out]
          simp [HD.out]
        case measure => simp [intOf]; omega
    · obtain rfl : k = p.length := by omega
      have hpa : p.all Pl.isCode = true := by have := hp.out; rwa [List.take_of_length_le (Nat.le_refl _)] at this
      have HP := Lib.hid hpa
      have hAw := hA.below hb
      clear hpa hp
      by_cases h20 : p.length ≤ 20
      · have HF : Hid (Pl.valid p = Pl.allPairs p) := by unfold Pl.valid; rw [HP.out]; simp [h20]; exact Lib.hid trivial
        go_wp2_with (go_at_call 78; refine (all_any p A cap _ (hAw.more hb.size) hn hl).mono ?_; rintro e w1 ⟨rfl, hb3⟩)
        go_ret
        exact ⟨ret_bool HF.out.symm, bCall hb hb3⟩
      · have HF : Hid (Pl.valid p = false) := by unfold Pl.valid; rw [HP.out]; simp [h20]; exact Lib.hid trivial
        go_wp2
        go_ret
        exact ⟨ret_bool HF.out.symm, hb⟩
end Go.Proofs.YtlldlkjngcgcjaaGreatDoor
namespace Go.Proofs.YtlldlkjngcgcjaaGreatDoor
set_option linter.unusedVariables false
set_option linter.unusedSimpArgs false
open Go.RowKit
theorem differ_cases (a b : Pl.Cd) : (Pl.apart a.old b.old = false ∧ Pl.differ a b = false) ∨ (Pl.apart a.old b.old = true ∧ Pl.apart a.new b.new = false ∧ Pl.differ a b = false) ∨ (Pl.apart a.old b.old = true ∧ Pl.apart a.new b.new = true ∧ Pl.apart a.old b.new = false ∧ Pl.differ a b = false) ∨ (Pl.apart a.old b.old = true ∧ Pl.apart a.new b.new = true ∧ Pl.apart a.old b.new = true ∧ Pl.apart a.new b.old = false ∧ Pl.differ a b = false) ∨ (Pl.apart a.old b.old = true ∧ Pl.apart a.new b.new = true ∧ Pl.apart a.old b.new = true ∧ Pl.apart a.new b.old = true ∧ Pl.differ a b = true) := by
  rw [differ_eq]
  cases Pl.apart a.old b.old <;> cases Pl.apart a.new b.new <;> cases Pl.apart a.old b.new <;> cases Pl.apart a.new b.old <;> simp
theorem valid_bad (p : List Pl.Cd) (k m : Nat) (h : k < p.length) (hm : m < k) (hd : Pl.differ p[k] p[m] = false) : Pl.valid p = false := by
  unfold Pl.valid; rw [Pl.allPairs_bad p k m h hm hd]; simp
set_option maxRecDepth 100000 in
set_option maxHeartbeats 4000000 in
theorem refValid_any (p : List Pl.Cd) (A : Option Addr) (cap : Nat) (w : World) (hA : At 3 codeC w w.heap.size A p) (hn : p.length ≤ cap) (hs : ∀ c ∈ p, c.old.length ≤ 1000 ∧ c.new.length ≤ 1000 ∧ -9223372036854775808 ≤ c.len ∧ c.len ≤ 9223372036854775807) :
    Calls Tryz.prog 25 #[.slice A p.length cap] w fun e w' => e = .returned (.bool (Pl.valid p)) ∧ Below w.heap.size w w' := by
  by_cases h20 : p.length ≤ 20
  · go_enter Tryz.func25, Tryz.ntmps25
    go_wp2
    go_loopw [3] (fun i wr => ∃ k : Nat, k ≤ p.length ∧ i = .int .i64 k ∧ Hid ((p.take k).all Pl.isCode = true ∧ Pl.pairsTo p k = true) ∧ Below w.heap.size w wr) (fun i _ => p.length - (intOf i).toNat)
    case atStart => exact ⟨0, Nat.zero_le _, rfl, Lib.hid ⟨by simp, Pl.pairsTo_zero p⟩, bStart _⟩
    case round =>
      obtain ⟨k, hk, rfl, hp, hb⟩ := hrel
      by_cases hlt : k < p.length
      · obtain ⟨b, off, rfl, hbB, hcell⟩ := hA (by omega)
        have hck : p[k]? = some p[k] := List.getElem?_eq_getElem hlt
        have c0 : wr.cell? ⟨b, off + k * 3, none⟩ = some (.string ⟨(p[k]).old.toArray⟩) := (hb.cell (p := ⟨b, _, none⟩) hbB).trans (hcell k _ hck 0 _ rfl)
        have c1 : wr.cell? ⟨b, off + k * 3 + 1, none⟩ = some (.string ⟨(p[k]).new.toArray⟩) := (hb.cell (p := ⟨b, _, none⟩) hbB).trans (hcell k _ hck 1 _ rfl)
        have c2 : wr.cell? ⟨b, off + k * 3 + 2, none⟩ = some (.int .i64 (p[k]).len) := (hb.cell (p := ⟨b, _, none⟩) hbB).trans (hcell k _ hck 2 _ rfl)
        obtain ⟨s1, s2, s3, s4⟩ := hs p[k] (List.getElem_mem hlt)
        cases hd : Pl.isCode p[k]
        · have hfin : Pl.valid p = false := by
            unfold Pl.valid
            have : p.all Pl.isCode = false := by simp only [List.all_eq_false]; exact ⟨p[k], List.getElem_mem hlt, by simp [hd]⟩
            rw [this]; rfl
          have HF := Lib.hid hfin
          clear hfin hck
          go_wp2_with (go_at_call 65; refine (one_any (p[k]).old (p[k]).new (p[k]).len s1 s2 s3 s4 _).mono ?_; rintro e w1 ⟨rfl, hb3⟩)
          go_ret
          exact ⟨ret_bool HF.out.symm, bCall hb hb3⟩
        · have HD := Lib.hid hd
          clear hck
          go_wp2_with (go_at_call 65; refine (one_any (p[k]).old (p[k]).new (p[k]).len s1 s2 s3 s4 _).mono ?_; rintro e w1 ⟨rfl, hb3⟩)
          have hb1 := bCall hb hb3
          clear c0 c1 c2 hd
          go_loopw [4] (fun j wr => ∃ m : Nat, m ≤ k ∧ j = .int .i64 m ∧ Hid ((p.take m).all (fun b => Pl.differ p[k] b) = true) ∧ Below w.heap.size w wr) (fun j _ => k - (intOf j).toNat)
          case atStart => exact ⟨0, Nat.zero_le _, rfl, Lib.hid (by simp), hb1⟩
          case round =>
            obtain ⟨m, hm, rfl, hp2, hb2⟩ := hrel
            by_cases hlm : m < k
            · have hck : p[k]? = some p[k] := List.getElem?_eq_getElem hlt
              have hcm : p[m]? = some p[m] := List.getElem?_eq_getElem (by omega)
              have d0 := fun d os => cell_regrown ((hb2.cell (p := ⟨b, off + k * 3, none⟩) hbB).trans (hcell k _ hck 0 _ rfl)) d os
              have d1 := fun d os => cell_regrown ((hb2.cell (p := ⟨b, off + k * 3 + 1, none⟩) hbB).trans (hcell k _ hck 1 _ rfl)) d os
              have e0 := fun d os => cell_regrown ((hb2.cell (p := ⟨b, off + m * 3, none⟩) hbB).trans (hcell m _ hcm 0 _ rfl)) d os
              have e1 := fun d os => cell_regrown ((hb2.cell (p := ⟨b, off + m * 3 + 1, none⟩) hbB).trans (hcell m _ hcm 1 _ rfl)) d os
              have hkn : (k : Int) < p.length := by omega
              have hmn : (m : Int) < p.length := by omega
              clear hck hcm
              have hdc := differ_cases p[k] p[m]
              rcases hdc with ⟨h1, hd⟩ | ⟨h1, h2, hd⟩ | ⟨h1, h2, h3, hd⟩ | ⟨h1, h2, h3, h4, hd⟩ | ⟨h1, h2, h3, h4, hd⟩
              all_goals
                have HD2 := Lib.hid hd
                clear hd
                go_wp2
                refine wp_region_quiet_below (by kernel_rfl) (by kernel_rfl) ?_
                repeat (go_big_quiet_step (first | (go_at_call 66; exact Calls.regrown_of (calls_below (apart_any _ _ _)))))
                refine wpQuiet_nil ?_
                rintro _ ⟨q, rfl⟩
                go_wp2
              iterate 4
                · go_ret
                  exact ⟨ret_bool (valid_bad p k m hlt hlm HD2.out).symm, bAgain hb2 _ _⟩
              · go_roundw
                case rel =>
                  refine ⟨m + 1, by omega, by go_num, Lib.hid ?_, bAgain hb2 _ _⟩
                  rw [Pl.take_snoc p m (by omega), List.all_append, hp2.out]
                  simp [HD2.out]
                case measure => simp [intOf]; omega
            · go_wp2
              go_roundw
              case rel =>
                refine ⟨k + 1, by omega, by go_num, Lib.hid ⟨?_, ?_⟩, hb2⟩
                · rw [Pl.take_snoc p k hlt, List.all_append, hp.out.1]
                  simp [HD.out]
                · obtain rfl : m = k := by omega
                  rw [Pl.pairsTo_succ p m hlt, hp.out.2, hp2.out]; rfl
              case measure => simp [intOf]; omega
      · go_wp2
        go_ret
        obtain rfl : k = p.length := by omega
        refine ⟨ret_bool ?_, hb⟩
        have := hp.out.1
        rw [List.take_of_length_le (Nat.le_refl _)] at this
        unfold Pl.valid
        rw [this, Pl.allPairs_eq, hp.out.2]; simp [h20]
  · have HF : Hid (Pl.valid p = false) := by unfold Pl.valid; simp [h20]; exact Lib.hid trivial
    go_enter Tryz.func25, Tryz.ntmps25
    go_wp2
    go_ret
    exact ⟨ret_bool HF.out.symm, bStart _⟩
end Go.Proofs.YtlldlkjngcgcjaaGreatDoor
namespace Go.Proofs.YtlldlkjngcgcjaaGreatDoor
set_option linter.unusedVariables false
set_option linter.unusedSimpArgs false
open Go.RowKit
def rangeV (r : Int × Int × Int) : Value := .tuple #[.agg #[.int .i64 r.1, .int .i64 r.2.1], .int .i64 r.2.2]
theorem range_bad (p : List Pl.Cd) (i ph : Int) (h : Pl.valid p = false ∨ (Pl.valid p = true ∧ Pl.within i 0 ((p.length : Int) - 1) = false) ∨ (Pl.valid p = true ∧ Pl.within i 0 ((p.length : Int) - 1) = true ∧ Pl.isPhase ph = false)) : Pl.range p i ph = (0, 0, 120) := by
  unfold Pl.range
  rcases h with h | ⟨h, h'⟩ | ⟨h, h', h''⟩ <;> simp [*]
theorem range_good (p : List Pl.Cd) (i : Nat) (ph : Int) (hi : i < p.length) (h : Pl.valid p = true) (hp : Pl.isPhase ph = true) :
    Pl.range p i ph = ((numOf (p[i]).new : Int) * 10 ^ (8 - (p[i]).new.length), (numOf (p[i]).new : Int) * 10 ^ (8 - (p[i]).new.length) + (if ph = 1 then 10 ^ ((p[i]).len - (p[i]).old.length).toNat else 10 ^ (8 - (p[i]).new.length)), 0) := by
  unfold Pl.range
  have : Pl.within (i : Int) 0 ((p.length : Int) - 1) = true := by simp [Pl.within]; omega
  rw [h, hp, this]
  simp only [Bool.not_true, Bool.or_self, Bool.false_eq_true, if_false, Int.toNat_natCast, List.getElem?_eq_getElem hi]
  rfl
end Go.Proofs.YtlldlkjngcgcjaaGreatDoor
namespace Go.Proofs.YtlldlkjngcgcjaaGreatDoor
set_option linter.unusedVariables false
set_option linter.unusedSimpArgs false
open Go.RowKit
theorem numOf_snoc (s : List UInt8) (c : UInt8) : numOf (s ++ [c]) = 10 * numOf s + (c.toNat - 48) := by simp [numOf, List.foldl_append]
theorem numOf_take_lt (s : List UInt8) (k : Nat) (h : ∀ c ∈ s, 48 ≤ c.toNat ∧ c.toNat ≤ 57) (hl : s.length ≤ 17) : numOf (s.take k) < 100000000000000000 := by
  have h1 := numOf_lt (s.take k) (fun c hc => (h c (List.mem_of_mem_take hc)).2)
  have h2 : 10 ^ (s.take k).length ≤ 10 ^ 17 := Nat.pow_le_pow_right (by decide) (by simp; omega)
  omega
set_option maxRecDepth 100000 in
theorem value_any (s : List UInt8) (h : ∀ c ∈ s, 48 ≤ c.toNat ∧ c.toNat ≤ 57) (hl : s.length ≤ 17) (w : World) :
    Calls Tryz.prog 73 #[.string ⟨s.toArray⟩] w fun e w' => e = .returned (.int .i64 (numOf s)) ∧ w = w' := by
  go_enter Tryz.func73, Tryz.ntmps73
  go_wp2
  go_loop [3, 4] (fun n i => ∃ k v : Nat, k ≤ s.length ∧ i = .int .i64 k ∧ n = .int .i64 v ∧ Hid (v = numOf (s.take k)) ∧ v < 100000000000000000) (fun _ i => s.length - (intOf i).toNat)
  case atStart => exact ⟨0, 0, Nat.zero_le _, rfl, rfl, Lib.hid rfl, by omega⟩
  case round =>
    obtain ⟨k, v, hk, rfl, rfl, hv, hb⟩ := hrel
    by_cases hlt : k < s.length
    · obtain ⟨c1, c2⟩ := h s[k] (List.getElem_mem hlt)
      have hn := numOf_take_lt s (k + 1) h hl
      have e : numOf (s.take (k + 1)) = 10 * v + (s[k].toNat - 48) := by rw [Pl.take_snoc s k hlt, numOf_snoc, hv.out]
      rw [e] at hn
      have HE := Lib.hid e
      clear e
      go_wp2
      go_round
      case rel => exact ⟨k + 1, 10 * v + (s[k].toNat - 48), by omega, by go_num, val_int (by omega), Lib.hid HE.out.symm, hn⟩
      case measure => simp [intOf]; omega
    · go_wp2
      go_ret
      obtain rfl : k = s.length := by omega
      refine ⟨ret_int ?_, rfl⟩
      rw [hv.out, List.take_of_length_le (Nat.le_refl _)]
set_option maxRecDepth 100000 in
set_option maxHeartbeats 4000000 in
theorem refRange_any (p : List Pl.Cd) (A : Option Addr) (cap : Nat) (i ph : Int) (w : World) (hA : At 3 codeC w w.heap.size A p) (hn : p.length ≤ cap) (hs : ∀ c ∈ p, c.old.length ≤ 1000 ∧ c.new.length ≤ 1000 ∧ -9223372036854775808 ≤ c.len ∧ c.len ≤ 9223372036854775807)  (hl : p.length ≤ 1000) :
    Calls Tryz.prog 33 #[.slice A p.length cap, .int .i64 i, .int .i64 ph] w fun e w' => e = .returned (rangeV (Pl.range p i ph)) ∧ Below w.heap.size w w' := by
  by_cases hall : Pl.valid p = true ∧ 0 ≤ i ∧ i < p.length ∧ Pl.isPhase ph = true
  · obtain ⟨h1, hi0, hi1, h3⟩ := hall
    obtain ⟨i, rfl⟩ := Int.eq_ofNat_of_zero_le hi0
    have hlt : i < p.length := by omega
    have hfin := range_good p i ph hlt h1 h3
    obtain ⟨b, off, rfl, hbB, hcell⟩ := hA (by omega)
    have hci : p[i]? = some p[i] := List.getElem?_eq_getElem hlt
    have hfine := Pl.valid_fine h1 (List.getElem_mem hlt)
    have k0 := hcell i _ hci 0 _ rfl
    have k1 := hcell i _ hci 1 _ rfl
    have k2 := hcell i _ hci 2 _ rfl
    generalize p[i] = c at *
    obtain ⟨o, n, l⟩ := c
    have hd := Pl.digits_mem hfine.dnew
    have hn1 := hfine.n1
    have hn5 := hfine.n5
    have ho4 := hfine.o4
    have hl1 := hfine.l1
    have hl7 := hfine.l7
    have hfit := hfine.fit
    simp only [Pl.room] at hn1 hn5 ho4 hl1 hl7 hfit hd hfin k0 k1 k2
    have hv := numOf_lt n (fun c hc => (hd c hc).2)
    have h5 : 10 ^ n.length ≤ 10 ^ 5 := Nat.pow_le_pow_right (by decide) hn5
    have hv5 : (numOf n : Int) < 100000 := by omega
    have hval := fun W => value_any n hd (by omega) W
    generalize numOf n = v at *
    have hval := Lib.hid hval
    have HF := Lib.hid hfin
    have HS := Lib.hid hs
    have hfit7 : l - (o.length : Int) ≤ 7 := by omega
    have t1 : decide ((i : Int) < 0) = false := by simp
    have t2 : decide (p.length ≤ i) = false := by simp; omega
    clear hs hfit
    clear hfin hd hci hfine hv h5 hcell
    go_enter Tryz.func33, Tryz.ntmps33
    go_wp2_with (first
      | (go_at_call 25; refine (refValid_any p _ cap _ ((hA.below (bNew (bStart _) _)).more (by simp)) hn HS.out).mono ?_; rintro e w1 ⟨rfl, hb1⟩; have j0 := (hb1.cell (p := ⟨b, off + i * 3, none⟩) (by simp; omega)).trans (((World.cell?_alloc_lt w _ ⟨b, off + i * 3, none⟩ hbB)).trans k0); have j1 := (hb1.cell (p := ⟨b, off + i * 3 + 1, none⟩) (by simp; omega)).trans (((World.cell?_alloc_lt w _ ⟨b, off + i * 3 + 1, none⟩ hbB)).trans k1); have j2 := (hb1.cell (p := ⟨b, off + i * 3 + 2, none⟩) (by simp; omega)).trans (((World.cell?_alloc_lt w _ ⟨b, off + i * 3 + 2, none⟩ hbB)).trans k2))
      | (go_at_call 72; refine (phase_any _ _).mono ?_; rintro e w' ⟨rfl, rfl⟩)
      | (go_at_call 73; refine (hval.out _).mono ?_; rintro e w' ⟨rfl, rfl⟩))
    have R1 := (Bx.mk w 72 #[.int .i64 0, .int .i64 0]).call hb1
    have hbt := bCall (bNew (bStart w) _) hb1
    have r0 := R1.cell 0 rfl
    have r1 := R1.cell 1 rfl
    have s0 := R1.frozen 0
    have s1 := R1.frozen 1
    clear hb1 k0 k1 k2
    have hvq : ∀ q : Int, 0 ≤ q → 0 ≤ (v : Int) * q ∧ (v : Int) * q ≤ 100000 * q := fun q hq => ⟨Int.mul_nonneg (by omega) hq, Int.mul_le_mul_of_nonneg_right (by omega) hq⟩
    have HV := Lib.hid hvq
    clear hvq
    go_loop [8, 9, 10] (fun fr sz kk => ∃ m : Nat, ∃ q x : Int, m ≤ 8 ∧ kk = .int .i64 m ∧ fr = .int .i64 x ∧ sz = .int .i64 q ∧ Hid (n.length ≤ m ∧ q = 10 ^ (m - n.length) ∧ x = v * q) ∧ 0 ≤ q ∧ q ≤ 10000000 ∧ 0 ≤ x ∧ x ≤ 100000 * q) (fun _ _ k => 8 - (intOf k).toNat)
    case atStart => exact ⟨n.length, 1, v, by omega, rfl, rfl, rfl, Lib.hid ⟨Nat.le_refl _, by simp, by omega⟩, by omega, by omega, by omega, by omega⟩
    case round =>
      obtain ⟨m, q, x, ht, rfl, rfl, rfl, hq, q0, q1, x0, x1⟩ := hrel
      by_cases hlt8 : m < 8
      · have t3 : decide ((m : Int) < 8) = true := by simp; omega
        go_wp2
        go_round
        case rel =>
          obtain ⟨e0, e1, e2⟩ := hq.out
          have h7 := pow_le (show m + 1 - n.length ≤ 7 by omega)
          have e3 : 10 * q = 10 ^ (m + 1 - n.length) := by rw [e1, show m + 1 - n.length = (m - n.length) + 1 by omega, Int.pow_succ]; omega
          refine ⟨m + 1, 10 * q, 10 * x, by omega, by go_num, rfl, rfl, Lib.hid ⟨by omega, e3, ?_⟩, by omega, by rw [e3]; exact h7, by omega, by omega⟩
          rw [e2, ← Int.mul_assoc, ← Int.mul_assoc, Int.mul_comm 10 (v : Int)]
        case measure => simp [intOf]; omega
      · obtain rfl : m = 8 := by omega
        have hph : (ph == 1) = true ∨ (ph == 1) = false := by cases (ph == 1) <;> simp
        have HX : Kp (q = 10 ^ (8 - n.length) ∧ x = v * q ∧ Pl.range p i ph = ((v : Int) * 10 ^ (8 - n.length), (v : Int) * 10 ^ (8 - n.length) + if ph = 1 then 10 ^ (l - (o.length : Int)).toNat else 10 ^ (8 - n.length), 0)) := ⟨hq.out.2.1, hq.out.2.2, HF.out⟩
        clear HF hq HV HS hval t1 t2 hA
        rcases hph with hph | hph
        · go_wp2
          have hS : ∃ S : Nat, (S : Int) = l - (o.length : Int) ∧ S ≤ 7 := ⟨(l - (o.length : Int)).toNat, by omega, by omega⟩
          obtain ⟨S, hS, hS7⟩ := hS
          have HSk : Kp ((S : Int) = l - (o.length : Int)) := ⟨hS⟩
          clear hS
          go_loopw [9, 11] (fun sz kk wr => ∃ m : Nat, ∃ z : Int, m ≤ S ∧ kk = .int .i64 m ∧ sz = .int .i64 z ∧ Kp (z = 10 ^ m) ∧ 0 ≤ z ∧ z ≤ 10000000 ∧ Below w1.heap.size w1 wr) (fun _ k _ => S - (intOf k).toNat)
          case atStart => exact ⟨0, 1, Nat.zero_le _, rfl, rfl, ⟨rfl⟩, by omega, by omega, bStart _⟩
          case round =>
            obtain ⟨m, z, hm, rfl, rfl, hz, z0, z1, hbr⟩ := hrel
            have i0 := (hbr.cell (p := ⟨b, off + i * 3, none⟩) (Nat.lt_of_lt_of_le hbB hbt.size)).trans j0
            have i1 := (hbr.cell (p := ⟨b, off + i * 3 + 1, none⟩) (Nat.lt_of_lt_of_le hbB hbt.size)).trans j1
            have i2 := (hbr.cell (p := ⟨b, off + i * 3 + 2, none⟩) (Nat.lt_of_lt_of_le hbB hbt.size)).trans j2
            by_cases hlm : m < S
            · have hS := HSk.out
              have t5 : decide ((m : Int) < l - (o.length : Int)) = true := by simp; omega
              clear hS
              go_wp2_with (go_at_call 74; refine (local_any _ _ _ (by omega) (by omega) _).mono ?_; rintro e w4 ⟨rfl, hb4⟩)
              go_roundw
              case rel =>
                have e3 : 10 * z = 10 ^ (m + 1) := by rw [hz.out, Int.pow_succ]; omega
                have h7 := pow_le (show m + 1 ≤ 7 by omega)
                exact ⟨m + 1, 10 * z, by omega, by go_num, rfl, ⟨e3⟩, by omega, by rw [e3]; exact h7, bCall hbr hb4⟩
              case measure => simp [intOf]; omega
            · have hS := HSk.out
              have t5 : decide ((m : Int) < l - (o.length : Int)) = false := by simp; omega
              have HZ : Kp (z = 10 ^ (l - (o.length : Int)).toNat) := ⟨by rw [hz.out]; congr 1; omega⟩
              clear hS hz
              go_wp2_with (go_at_call 74; refine (local_any _ _ _ (by omega) (by omega) _).mono ?_; rintro e w4 ⟨rfl, hb4⟩; have u0 := ((R1.call hbr).call hb4).cell 0 rfl; have u1 := ((R1.call hbr).call hb4).cell 1 rfl; have v0 := ((R1.call hbr).call hb4).frozen 0; have v1 := ((R1.call hbr).call hb4).frozen 1)
              have hq := eq_of_beq hph
              refine bodyPost_ret (v := rangeV (x, x + z, 0)) (by simp [results, Tryz.results33, go_sem, u0, u1, rangeV]) rfl ⟨by rw [HX.out.2.2, if_pos hq, HX.out.2.1, HX.out.1, HZ.out], bSet (bSet (bCall (bCall hbt hbr) hb4) (Nat.le_refl _) _) (Nat.le_refl _) _⟩
        · go_wp2
          have hq := ne_of_beq_false hph
          refine bodyPost_ret (v := rangeV (x, x + q, 0)) (by simp [results, Tryz.results33, go_sem, r0, r1, rangeV]) rfl ⟨by rw [HX.out.2.2, if_neg hq, HX.out.2.1, HX.out.1], bSet (bSet hbt (Nat.le_refl _) _) (Nat.le_refl _) _⟩
  · have hc : Pl.valid p = false ∨ (Pl.valid p = true ∧ i < 0) ∨ (Pl.valid p = true ∧ 0 ≤ i ∧ p.length ≤ i) ∨ (Pl.valid p = true ∧ 0 ≤ i ∧ i < p.length ∧ Pl.isPhase ph = false) := by
      cases h1 : Pl.valid p <;> cases h3 : Pl.isPhase ph <;> simp_all <;> omega
    have hfin : Pl.range p i ph = (0, 0, 120) := by
      apply range_bad
      rcases hc with h | ⟨h, h'⟩ | ⟨h, h', h''⟩ | ⟨h, h', h'', h'''⟩
      · exact .inl h
      · exact .inr (.inl ⟨h, by simp [Pl.within]; omega⟩)
      · exact .inr (.inl ⟨h, by simp [Pl.within]; omega⟩)
      · exact .inr (.inr ⟨h, by simp [Pl.within]; omega, h'''⟩)
    have HF := Lib.hid hfin
    clear hall hfin
    rcases hc with h1 | ⟨h1, h2⟩ | ⟨h1, h2, h2'⟩ | ⟨h1, h2, h2', h3⟩
    all_goals
      go_enter Tryz.func33, Tryz.ntmps33
      go_wp2_with (first
        | (go_at_call 25; refine (refValid_any p A cap _ ((hA.below (bNew (bStart _) _)).more (by simp)) hn hs).mono ?_; rintro e w1 ⟨rfl, hb1⟩; have hc1 := (bcell hb1).1 w.heap.size; have hf1 := (bcell hb1).2 w.heap.size; have hz1 := hb1.size)
        | (go_at_call 72; refine (phase_any _ _).mono ?_; rintro e w' ⟨rfl, rfl⟩))
      refine bodyPost_ret (v := rangeV (0, 0, 120)) (by simp [results, Tryz.results33, go_sem, hc1, rangeV]) rfl ⟨by rw [HF.out], bSet (bSet (bCall (bNew (bStart _) _) hb1) (Nat.le_refl _) _) (Nat.le_refl _) _⟩
end Go.Proofs.YtlldlkjngcgcjaaGreatDoor
namespace Go.Proofs.YtlldlkjngcgcjaaGreatDoor
set_option linter.unusedVariables false
set_option linter.unusedSimpArgs false
open Go.RowKit
theorem pick_lt (c n : Int) (h : 0 < n) : 0 ≤ Pl.pick c n ∧ Pl.pick c n < n := by
  unfold Pl.pick; exact ⟨Int.emod_nonneg _ (by omega), Int.emod_lt_of_pos _ h⟩
theorem pref_len : ∀ (k c : Nat), (Pl.pref c k).length = k
  | 0, _ => rfl
  | k + 1, c => by simp [Pl.pref, pref_len k]
def I64 (x : Int) : Prop := -9223372036854775808 ≤ x ∧ x ≤ 9223372036854775807
theorem tdiv3_in {a : Int} (h : I64 a) : -9223372036854775808 ≤ a.tdiv 3 ∧ a.tdiv 3 ≤ 9223372036854775807 := by
  obtain ⟨h1, h2⟩ := h
  by_cases h : 0 ≤ a
  · rw [Int.tdiv_eq_ediv_of_nonneg h]; omega
  · obtain ⟨b, rfl⟩ : ∃ b, a = -b := ⟨-a, by omega⟩
    rw [Int.neg_tdiv, Int.tdiv_eq_ediv_of_nonneg (by omega)]; omega
theorem alloc_size (w : World) (o : Obj) : (w.alloc o).heap.size = w.heap.size + 1 := by
  show (w.heap.push _).size = _
  simp
set_option maxRecDepth 100000 in
set_option maxHeartbeats 4000000 in
theorem One_any (a b c : Int) (ha : I64 a) (hb : I64 b) (hc : I64 c) (w : World) :
    Calls Tryz.prog 24 #[.agg #[.int .i64 a, .int .i64 b, .int .i64 c]] w fun e w' => e = .returned (codeV (Pl.one ⟨a, b, c⟩)) ∧ Below w.heap.size w w' := by
  obtain ⟨ha1, ha2⟩ := ha
  obtain ⟨hb1, hb2⟩ := hb
  obtain ⟨hc1, hc2⟩ := hc
  have q1 : -9223372036854775808 ≤ a.tdiv 3 ∧ a.tdiv 3 ≤ 9223372036854775807 := tdiv3_in ⟨ha1, ha2⟩
  have q2 : -9223372036854775808 ≤ b.tdiv 3 ∧ b.tdiv 3 ≤ 9223372036854775807 := tdiv3_in ⟨hb1, hb2⟩
  obtain ⟨qa1, qa2⟩ := q1
  obtain ⟨qb1, qb2⟩ := q2
  have p1 := pick_lt (a.tdiv 3) 1000 (by decide)
  have p2 := pick_lt a 3 (by decide)
  have p3 := pick_lt (b.tdiv 3) 1000 (by decide)
  have p4 := pick_lt b 3 (by decide)
  go_enter Tryz.func24, Tryz.ntmps24
  go_wp2
  have B1 := (Bx.mk w 70 #[.int .i64 a, .int .i64 b, .int .i64 c]).new (.cells #[.string ⟨#[]⟩, .string ⟨#[]⟩, .int .i64 0] 63)
  have bb := bNew (bNew (bStart w) (.cells #[.int .i64 a, .int .i64 b, .int .i64 c] 70)) (.cells #[.string ⟨#[]⟩, .string ⟨#[]⟩, .int .i64 0] 63)
  refine wp_region_rgl [Eqv (.pointer (some ⟨w.heap.size, 0, none⟩)), Eqv (.int .i64 a), Eqv (.int .i64 (a.tdiv 3)), Eqv (.int .i64 (Pl.pick (a.tdiv 3) 1000)),
    Eqv (.pointer (some ⟨w.heap.size, 0, none⟩)), Eqv (.int .i64 a), Eqv (.int .i64 (Pl.pick a 3)), Eqv (.int .i64 (1 + Pl.pick a 3)), Eqv (.string ⟨(Pl.pref (Pl.pick (a.tdiv 3) 1000).toNat (1 + Pl.pick a 3).toNat).toArray⟩),
    Eqv (.pointer (some ⟨w.heap.size, 1, none⟩)), Eqv (.int .i64 b), Eqv (.int .i64 (b.tdiv 3)), Eqv (.int .i64 (Pl.pick (b.tdiv 3) 1000)),
    Eqv (.pointer (some ⟨w.heap.size, 1, none⟩)), Eqv (.int .i64 b), Eqv (.int .i64 (Pl.pick b 3)), Eqv (.int .i64 (1 + Pl.pick b 3)), Eqv (.string ⟨(Pl.pref (Pl.pick (b.tdiv 3) 1000).toNat (1 + Pl.pick b 3).toNat).toArray⟩),
    Eqv (.agg #[.string ⟨(Pl.pref (Pl.pick (a.tdiv 3) 1000).toNat (1 + Pl.pick a 3).toNat).toArray⟩, .string ⟨(Pl.pref (Pl.pick (b.tdiv 3) 1000).toNat (1 + Pl.pick b 3).toNat).toArray⟩, .int .i64 0]),
    Fresh (w.heap.size + 2) 63 #[.string ⟨#[]⟩, .string ⟨#[]⟩, .int .i64 0]] 20 42 (by kernel_rfl) rfl rfl (by kernel_rfl) ?_ ?_ ?_
  · simp only [AllS]
    repeat' apply And.intro
    all_goals first | exact stab_eqv _ | exact stab_fresh _ _ _ | trivial
  · simp only [Users, List.take, List.length]
    refine ⟨?_, ?_, ?_, ?_, ?_, ?_, ?_, ?_, ?_, ?_, ?_, ?_, ?_, ?_, ?_, ?_, ?_, ?_, ?_, ?_, trivial⟩
    all_goals (intro vs w1 hb hd; have Cw := B1.call hb; have cc0 := Cw.cell 0 rfl; have cc1 := Cw.cell 1 rfl; clear Cw; simp only [putD, Act.put, List.nil_append, List.cons_append])
    · clear hd; go_wp2; exact ⟨Below.refl _ _, rfl⟩
    · (have hdep0 := hd 0 rfl; conv at hdep0 => whnf); clear hd; go_wp2; exact ⟨Below.refl _ _, rfl⟩
    · (have hdep1 := hd 1 rfl; conv at hdep1 => whnf); clear hd; go_wp2; exact ⟨Below.refl _ _, rfl⟩
    · (have hdep2 := hd 2 rfl; conv at hdep2 => whnf); clear hd; go_wp2_with (go_at_call 32; refine (pickRef_any (a.tdiv 3) 1000 (by decide) (by assumption) (by assumption) _).mono ?_; rintro _ _ ⟨rfl, rfl⟩); exact ⟨Below.refl _ _, rfl⟩
    · clear hd; go_wp2; exact ⟨Below.refl _ _, rfl⟩
    · (have hdep4 := hd 4 rfl; conv at hdep4 => whnf); clear hd; go_wp2; exact ⟨Below.refl _ _, rfl⟩
    · (have hdep5 := hd 5 rfl; conv at hdep5 => whnf); clear hd; go_wp2_with (go_at_call 32; refine (pickRef_any (a) 3 (by decide) (by assumption) (by assumption) _).mono ?_; rintro _ _ ⟨rfl, rfl⟩); exact ⟨Below.refl _ _, rfl⟩
    · (have hdep6 := hd 6 rfl; conv at hdep6 => whnf); clear hd; go_wp2; exact ⟨Below.refl _ _, rfl⟩
    · (have hdep3 := hd 3 rfl; conv at hdep3 => whnf); (have hdep7 := hd 7 rfl; conv at hdep7 => whnf); clear hd; go_wp2_with (go_at_call 64; refine (prefix_any (Pl.pick (a.tdiv 3) 1000) (1 + Pl.pick a 3) (by omega) (by omega) (by omega) (by omega) _).mono ?_; rintro _ w9 ⟨rfl, hb9⟩); rfl
    · clear hd; go_wp2; exact ⟨Below.refl _ _, rfl⟩
    · (have hdep9 := hd 9 rfl; conv at hdep9 => whnf); clear hd; go_wp2; exact ⟨Below.refl _ _, rfl⟩
    · (have hdep10 := hd 10 rfl; conv at hdep10 => whnf); clear hd; go_wp2; exact ⟨Below.refl _ _, rfl⟩
    · (have hdep11 := hd 11 rfl; conv at hdep11 => whnf); clear hd; go_wp2_with (go_at_call 32; refine (pickRef_any (b.tdiv 3) 1000 (by decide) (by assumption) (by assumption) _).mono ?_; rintro _ _ ⟨rfl, rfl⟩); exact ⟨Below.refl _ _, rfl⟩
    · clear hd; go_wp2; exact ⟨Below.refl _ _, rfl⟩
    · (have hdep13 := hd 13 rfl; conv at hdep13 => whnf); clear hd; go_wp2; exact ⟨Below.refl _ _, rfl⟩
    · (have hdep14 := hd 14 rfl; conv at hdep14 => whnf); clear hd; go_wp2_with (go_at_call 32; refine (pickRef_any (b) 3 (by decide) (by assumption) (by assumption) _).mono ?_; rintro _ _ ⟨rfl, rfl⟩); exact ⟨Below.refl _ _, rfl⟩
    · (have hdep15 := hd 15 rfl; conv at hdep15 => whnf); clear hd; go_wp2; exact ⟨Below.refl _ _, rfl⟩
    · (have hdep12 := hd 12 rfl; conv at hdep12 => whnf); (have hdep16 := hd 16 rfl; conv at hdep16 => whnf); clear hd; go_wp2_with (go_at_call 64; refine (prefix_any (Pl.pick (b.tdiv 3) 1000) (1 + Pl.pick b 3) (by omega) (by omega) (by omega) (by omega) _).mono ?_; rintro _ w9 ⟨rfl, hb9⟩); rfl
    · (have hdep8 := hd 8 rfl; conv at hdep8 => whnf); (have hdep17 := hd 17 rfl; conv at hdep17 => whnf); clear hd; go_wp2; exact ⟨Below.refl _ _, rfl⟩
    · clear hd; go_wp2; exact ⟨(Below.refl _ _).alloc (Nat.le_refl _) _, _, rfl, by have := hb.size; rw [alloc_size, alloc_size] at this; exact this, Bx.mk _ _ _⟩
  · intro vs w1 hb hR
    simp only [AllR, Eqv] at hR
    obtain ⟨e0, e1, e2, e3, e4, e5, e6, e7, e8, e9, e10, e11, e12, e13, e14, e15, e16, e17, e18, ⟨g, e19, hg, Bg⟩, -⟩ := hR
    simp only [List.drop, List.take, List.map, putD, Act.put, e0, e1, e2, e3, e4, e5, e6, e7, e8, e9, e10, e11, e12, e13, e14, e15, e16, e17, e18, e19]
    clear e0 e1 e2 e3 e4 e5 e6 e7 e8 e9 e10 e11 e12 e13 e14 e15 e16 e17 e18 e19
    have Bp := B1.call hb
    have Br := (Bx.mk (w.alloc (.cells #[.int .i64 a, .int .i64 b, .int .i64 c] 70)) 63 #[.string ⟨#[]⟩, .string ⟨#[]⟩, .int .i64 0]).call hb
    have b1 := bCall bb hb
    rw [alloc_size] at Br
    clear B1 bb
    have l1 := pref_len (1 + Pl.pick a 3).toNat (Pl.pick (a.tdiv 3) 1000).toNat
    have l2 := pref_len (1 + Pl.pick b 3).toNat (Pl.pick (b.tdiv 3) 1000).toNat
    have hone : Pl.one ⟨a, b, c⟩ = ⟨Pl.pref (Pl.pick (a.tdiv 3) 1000).toNat (1 + Pl.pick a 3).toNat, Pl.pref (Pl.pick (b.tdiv 3) 1000).toNat (1 + Pl.pick b 3).toNat, ((Pl.pref (Pl.pick (a.tdiv 3) 1000).toNat (1 + Pl.pick a 3).toNat).length : Int) + 1 + Pl.pick c (min (7 - ((Pl.pref (Pl.pick (a.tdiv 3) 1000).toNat (1 + Pl.pick a 3).toNat).length : Int)) (8 - ((Pl.pref (Pl.pick (b.tdiv 3) 1000).toNat (1 + Pl.pick b 3).toNat).length : Int)))⟩ := rfl
    have hone := Kp.mk hone
    generalize Pl.pref (Pl.pick (a.tdiv 3) 1000).toNat (1 + Pl.pick a 3).toNat = old at *
    generalize Pl.pref (Pl.pick (b.tdiv 3) 1000).toNat (1 + Pl.pick b 3).toNat = new at *
    have lo : 1 ≤ old.length ∧ old.length ≤ 3 := by constructor <;> omega
    have ln : 1 ≤ new.length ∧ new.length ≤ 3 := by constructor <;> omega
    have p5 := pick_lt c (min (7 - (old.length : Int)) (8 - (new.length : Int))) (by omega)
    clear l1 l2
    have g0 := Bg.cell 0 rfl
    have g1 := Bg.cell 1 rfl
    have g2 := Bg.cell 2 rfl
    have f0 := Bg.frozen 0
    have f1 := Bg.frozen 1
    have f2 := Bg.frozen 2
    go_wp2
    clear g0 g1 g2 f0 f1 f2
    have hg2 : g ≠ w.heap.size ∧ g ≠ w.heap.size + 1 ∧ w.heap.size ≤ g := by omega
    obtain ⟨hga, hgb, hgc⟩ := hg2
    have b2 := bSet (bSet (bSet b1 (p := ⟨g, 0, none⟩) hgc (.string ⟨old.toArray⟩)) (p := ⟨g, 1, none⟩) hgc (.string ⟨new.toArray⟩)) (p := ⟨g, 2, none⟩) hgc (.int .i64 0)
    have Br2 := ((Br.far (p := ⟨g, 0, none⟩) (Ne.symm hgb) (.string ⟨old.toArray⟩)).far (p := ⟨g, 1, none⟩) (Ne.symm hgb) (.string ⟨new.toArray⟩)).far (p := ⟨g, 2, none⟩) (Ne.symm hgb) (.int .i64 0)
    have Bp2 := ((Bp.far (p := ⟨g, 0, none⟩) (Ne.symm hga) (.string ⟨old.toArray⟩)).far (p := ⟨g, 1, none⟩) (Ne.symm hga) (.string ⟨new.toArray⟩)).far (p := ⟨g, 2, none⟩) (Ne.symm hga) (.int .i64 0)
    have Bg2 : Bx (((w1.setCell ⟨g, 0, none⟩ (.string ⟨old.toArray⟩)).setCell ⟨g, 1, none⟩ (.string ⟨new.toArray⟩)).setCell ⟨g, 2, none⟩ (.int .i64 0)) g 63 #[.string ⟨old.toArray⟩, .string ⟨new.toArray⟩, .int .i64 0] := ((Bg.set 0 _).set 1 _).set 2 _
    clear b1 Br Bp Bg hb
    generalize ((w1.setCell ⟨g, 0, none⟩ (.string ⟨old.toArray⟩)).setCell ⟨g, 1, none⟩ (.string ⟨new.toArray⟩)).setCell ⟨g, 2, none⟩ (.int .i64 0) = W at *
    have G0 := fun d os => (Bg2.again d os).cell 0 rfl
    have G1 := fun d os => (Bg2.again d os).cell 1 rfl
    have G2 := fun d os => (Bp2.again d os).cell 2 rfl
    have hmin : min (7 - (old.length : Int)) (8 - (new.length : Int)) = 7 - old.length ∨ min (7 - (old.length : Int)) (8 - (new.length : Int)) = 8 - new.length := by omega
    refine wp_region_below_tail 17 (by kernel_rfl) (by kernel_rfl) ?_
    simp only [List.take, List.drop]
    repeat (go_big_quiet_step (first | (go_at_call 32; exact Calls.regrown_of (calls_below (pickRef_any c _ (by omega) (by assumption) (by assumption) _)))))
    refine wpQuiet_nil ?_
    rintro _ ⟨q, rfl⟩
    have b3 := bAgain b2 q.d q.os
    have Br3 := Br2.again q.d q.os
    have Bg3 := Bg2.again q.d q.os
    clear b2 Br2 Bp2 Bg2 G0 G1 G2
    generalize Sort.grow (redrawn W q.d) q.os = W2 at *
    generalize hL : ((old.length : Int) + 1 + Pl.pick c (min (7 - (old.length : Int)) (8 - (new.length : Int)))) = L at *
    have hone' : Kp (Pl.one ⟨a, b, c⟩ = ⟨old, new, L⟩) := hone
    clear hone hL
    have h2 := Bg3.cell 2 rfl
    have f2 := Bg3.frozen 2
    have Bg4 : Bx (W2.setCell ⟨g, 2, none⟩ (.int .i64 L)) g 63 #[.string ⟨old.toArray⟩, .string ⟨new.toArray⟩, .int .i64 L] := Bg3.set 2 _
    have Br4 := Br3.far (p := ⟨g, 2, none⟩) (Ne.symm hgb) (.int .i64 L)
    have b4 := bSet b3 (p := ⟨g, 2, none⟩) hgc (.int .i64 L)
    clear Bg3 Br3 b3
    have h3 := Bg4.cell 0 rfl
    have h4 := Bg4.cell 1 rfl
    have h5 := Bg4.cell 2 rfl
    have r0 := Br4.cell 0 rfl
    have r1 := Br4.cell 1 rfl
    have r2 := Br4.cell 2 rfl
    have k0 := Br4.frozen 0
    have k1 := Br4.frozen 1
    have k2 := Br4.frozen 2
    have Br5 : Bx ((((W2.setCell ⟨g, 2, none⟩ (.int .i64 L)).setCell ⟨w.heap.size + 1, 0, none⟩ (.string ⟨old.toArray⟩)).setCell ⟨w.heap.size + 1, 1, none⟩ (.string ⟨new.toArray⟩)).setCell ⟨w.heap.size + 1, 2, none⟩ (.int .i64 L)) (w.heap.size + 1) 63 #[.string ⟨old.toArray⟩, .string ⟨new.toArray⟩, .int .i64 L] := ((Br4.set 0 _).set 1 _).set 2 _
    have b5 := bSet (bSet (bSet b4 (p := ⟨w.heap.size + 1, 0, none⟩) (Nat.le_succ _) (.string ⟨old.toArray⟩)) (p := ⟨w.heap.size + 1, 1, none⟩) (Nat.le_succ _) (.string ⟨new.toArray⟩)) (p := ⟨w.heap.size + 1, 2, none⟩) (Nat.le_succ _) (.int .i64 L)
    clear Br4 Bg4 b4
    go_wp2
    clear h2 h3 h4 h5 r0 r1 r2 k0 k1 k2 f2
    generalize (((W2.setCell ⟨g, 2, none⟩ (.int .i64 L)).setCell ⟨w.heap.size + 1, 0, none⟩ (.string ⟨old.toArray⟩)).setCell ⟨w.heap.size + 1, 1, none⟩ (.string ⟨new.toArray⟩)).setCell ⟨w.heap.size + 1, 2, none⟩ (.int .i64 L) = W3 at *
    have r0 := Br5.cell 0 rfl
    have r1 := Br5.cell 1 rfl
    have r2 := Br5.cell 2 rfl
    refine bodyPost_ret (v := codeV ⟨old, new, L⟩) (by simp [results, Tryz.results24, go_sem, r0, r1, r2, codeV]) rfl ?_
    exact ⟨by rw [hone'.out], b5⟩
end Go.Proofs.YtlldlkjngcgcjaaGreatDoor
namespace Go.Proofs.YtlldlkjngcgcjaaGreatDoor
set_option linter.unusedVariables false
set_option linter.unusedSimpArgs false
open Go.RowKit
def t3C (t : Pl.T3) : List Value := [.int .i64 t.a, .int .i64 t.b, .int .i64 t.c]
/-- a value that is a plan -/
def PlanV (p : List Pl.Cd) (v : Value) (w : World) : Prop := ∃ A cap, v = .slice A p.length cap ∧ At 3 codeC w w.heap.size A p ∧ p.length ≤ cap ∧ cap ≤ maxLen
theorem codeC_len (c : Pl.Cd) : (codeC c).length = 3 := rfl
theorem codeC_one (c : Pl.Cd) : ∀ u ∈ codeC c, u.oneCell' = true := by
  intro u hu
  simp only [codeC, List.mem_cons, List.not_mem_nil, or_false] at hu
  rcases hu with rfl | rfl | rfl <;> rfl
theorem codeI : ∃ i z, Tryz.prog.info? 63 = some i ∧ i.zero = some z ∧ i.size = 3 ∧ z.cells.size = 3 ∧ i.bytes = 40 := by
  have h : (Tryz.prog.info? 63).map (fun i => (i.size, i.bytes, i.zero.map (·.cells.size))) = some (3, 40, some 3) := by kernel_rfl
  cases hi : Tryz.prog.info? 63 with
  | none => rw [hi] at h; cases h
  | some i =>
    rw [hi] at h
    simp only [Option.map_some, Option.some.injEq, Prod.mk.injEq] at h
    obtain ⟨h1, h2, h3⟩ := h
    cases hz : i.zero with
    | none => rw [hz] at h3; cases h3
    | some z => rw [hz] at h3; exact ⟨i, z, rfl, hz, h1, by simpa using h3, h2⟩
theorem codesT : Tryz.prog.underlying 26 = some (.slice 63) := Tryz.underlying26
theorem wpList_append_codes {w : World} {ops : Array Oper} {rest : List Oper} {o : Oper} {a : Act} {Q : Exit → Act → World → Prop} (hgd : o.guard = none) (s y : Operand) (ho : o.op = .call { callee := .builtin .append, args := #[s, y], argTypes := #[26, 26] })
    (B cap n m : Nat) (flat news : List Value) (v x : Value) (hes : a.eval s = v) (hey : a.eval y = x) (hv : RowC 63 3 B cap n flat v w) (hB : B ≤ w.heap.size) (hs : Src Tryz.prog 3 26 x m news w) (hcm : cap ≤ maxLen) (h63 : n + m ≤ 1000000)
    (h : ∀ v' w' cap', Below B w w' → (n = cap → Below w.heap.size w w') → RowC 63 3 B cap' (n + m) (flat ++ news) v' w' → cap' ≤ maxLen → wpList Tryz.prog ops Q rest (a.put o.dst v') w') : wpList Tryz.prog ops Q (o :: rest) a w := by
  obtain ⟨i, z, hi, hz, hs3, hz3, hby⟩ := codeI
  exact wpList_append_row hgd s y _ _ ho i z 3 B cap n m flat news v x codesT hi hz hs3 hz3 hes hey hv hB hs hcm (by unfold maxLen; omega) (by rw [hby]; omega) h
theorem foldl_full (l : List Pl.T3) (p : List Pl.Cd) (h : 8 ≤ p.length) : l.foldl Pl.madeStep p = p := by
  induction l with
  | nil => rfl
  | cons x l ih => rw [List.foldl_cons]; unfold Pl.madeStep; rw [if_neg (by omega)]; exact ih
def Small (p : List Pl.Cd) : Prop := ∀ c ∈ p, c.old.length ≤ 1000 ∧ c.new.length ≤ 1000 ∧ -9223372036854775808 ≤ c.len ∧ c.len ≤ 9223372036854775807
theorem one_small (x : Pl.T3) : (Pl.one x).old.length ≤ 1000 ∧ (Pl.one x).new.length ≤ 1000 ∧ -9223372036854775808 ≤ (Pl.one x).len ∧ (Pl.one x).len ≤ 9223372036854775807 := by
  have p2 := pick_lt x.a 3 (by decide)
  have p4 := pick_lt x.b 3 (by decide)
  have l1 := pref_len (1 + Pl.pick x.a 3).toNat (Pl.pick (x.a.tdiv 3) 1000).toNat
  have l2 := pref_len (1 + Pl.pick x.b 3).toNat (Pl.pick (x.b.tdiv 3) 1000).toNat
  unfold Pl.one
  simp only
  generalize Pl.pref (Pl.pick (x.a.tdiv 3) 1000).toNat (1 + Pl.pick x.a 3).toNat = o at *
  generalize Pl.pref (Pl.pick (x.b.tdiv 3) 1000).toNat (1 + Pl.pick x.b 3).toNat = n at *
  have p5 := pick_lt x.c (min (7 - (o.length : Int)) (8 - (n.length : Int))) (by omega)
  omega
set_option maxRecDepth 100000 in
set_option maxHeartbeats 4000000 in
theorem Made_any (x : List Pl.T3) (A : Option Addr) (cap : Nat) (w : World) (hA : At 3 t3C w w.heap.size A x) (hn : x.length ≤ cap) (hlen : x.length ≤ maxLen) (hx : ∀ t ∈ x, I64 t.a ∧ I64 t.b ∧ I64 t.c) :
    Calls Tryz.prog 5 #[.slice A x.length cap] w fun e w' => ∃ v, e = .returned v ∧ Below w.heap.size w w' ∧ PlanV (Pl.made x) v w' := by
  go_enter Tryz.func5, Tryz.ntmps5
  go_wp2
  go_loopw [3, 4, 5] (fun s3 s4 s5 wr => ∃ (k : Nat) (p : List Pl.Cd), k ≤ x.length ∧ k ≤ 16 ∧ s4 = .int .i64 k ∧ PlanV p s3 wr ∧ p.length ≤ 8 ∧ Kp (p = (x.take k).foldl Pl.madeStep []) ∧ Kp (Small p) ∧ Below w.heap.size w wr) (fun s3 s4 s5 _ => x.length - (intOf s4).toNat)
  case atStart => exact ⟨0, [], Nat.zero_le _, Nat.zero_le _, rfl, ⟨none, 0, rfl, At.nil, Nat.le_refl _, Nat.zero_le _⟩, Nat.zero_le _, ⟨rfl⟩, ⟨fun c hc => by cases hc⟩, bStart _⟩
  case round =>
    obtain ⟨k, p, hk, hk16, rfl, ⟨Ap, capp, rfl, hAp, hpc, hcm⟩, hp8, hfold, hsm, hb⟩ := hrel
    rcases (show (¬ k < x.length ∨ (k < x.length ∧ ¬ k < 16) ∨ (k < x.length ∧ k < 16 ∧ ¬ p.length < 8)) ∨ (k < x.length ∧ k < 16 ∧ p.length < 8) by omega) with hd | ⟨g1, g2, g3⟩
    · have hfin : Kp (Pl.made x = p) := by
        constructor
        unfold Pl.made
        rcases hd with h | ⟨_, h⟩ | ⟨_, _, h⟩
        · rw [hfold.out, show k = x.length by omega, List.take_of_length_le (Nat.le_refl _), List.take_of_length_le (by omega)]
        · rw [hfold.out, show k = 16 by omega]
        · have : x.take 16 = x.take k ++ (x.take 16).drop k := by
            have h3 := List.take_append_drop k (x.take 16)
            rw [List.take_take, Nat.min_eq_left hk16] at h3
            exact h3.symm
          rw [this, List.foldl_append, ← hfold.out]
          exact foldl_full _ _ (by omega)
      rcases hd with h | ⟨h', h⟩ | ⟨h', h'', h⟩
      · have t1 : decide ((k : Int) < (x.length : Int)) = false := by simp; omega
        go_wp2
        go_ret
        exact ⟨_, rfl, hb, by rw [hfin.out]; exact ⟨Ap, capp, rfl, hAp, hpc, hcm⟩⟩
      · have t1 : decide ((k : Int) < (x.length : Int)) = true := by simp; omega
        have t2 : decide ((k : Int) < 16) = false := by simp; omega
        go_wp2
        go_ret
        exact ⟨_, rfl, hb, by rw [hfin.out]; exact ⟨Ap, capp, rfl, hAp, hpc, hcm⟩⟩
      · have t1 : decide ((k : Int) < (x.length : Int)) = true := by simp; omega
        have t2 : decide ((k : Int) < 16) = true := by simp; omega
        have t3 : decide ((p.length : Int) < 8) = false := by simp; omega
        go_wp2
        go_ret
        exact ⟨_, rfl, hb, by rw [hfin.out]; exact ⟨Ap, capp, rfl, hAp, hpc, hcm⟩⟩
    · have t1 : decide ((k : Int) < (x.length : Int)) = true := by simp; omega
      have t2 : decide ((k : Int) < 16) = true := by simp; omega
      have t3 : decide ((p.length : Int) < 8) = true := by simp; omega
      obtain ⟨b, off, rfl, hbB, hcell⟩ := hA (by omega)
      have hck : x[k]? = some x[k] := List.getElem?_eq_getElem g1
      have c0 : wr.cell? ⟨b, off + k * 3, none⟩ = some (.int .i64 (x[k]).a) := (hb.cell (p := ⟨b, _, none⟩) hbB).trans (hcell k _ hck 0 _ rfl)
      have c1 : wr.cell? ⟨b, off + k * 3 + 1, none⟩ = some (.int .i64 (x[k]).b) := (hb.cell (p := ⟨b, _, none⟩) hbB).trans (hcell k _ hck 1 _ rfl)
      have c2 : wr.cell? ⟨b, off + k * 3 + 2, none⟩ = some (.int .i64 (x[k]).c) := (hb.cell (p := ⟨b, _, none⟩) hbB).trans (hcell k _ hck 2 _ rfl)
      have hbw : b < wr.heap.size := Nat.lt_of_lt_of_le hbB hb.size
      obtain ⟨x1, x2, x3⟩ := hx x[k] (List.getElem_mem g1)
      generalize x[k] = t at *
      go_wp2
      have cc := fun w1 (hb1 : Below wr.heap.size wr w1) => (hb1.cell (p := ⟨b, off + k * 3, none⟩) hbw).trans c0
      have cd := fun w1 (hb1 : Below wr.heap.size wr w1) => (hb1.cell (p := ⟨b, off + k * 3 + 1, none⟩) hbw).trans c1
      have ce := fun w1 (hb1 : Below wr.heap.size wr w1) => (hb1.cell (p := ⟨b, off + k * 3 + 2, none⟩) hbw).trans c2
      have hone := one_small t
      refine wp_region_rgl [RowC 63 3 wr.heap.size 0 0 [], Eqv (.slice Ap p.length capp), RowN 63 3 wr.heap.size p.length (p.flatMap codeC), Eqv (.slice (some ⟨b, off, none⟩) x.length cap), Eqv (.int .i64 k),
        Eqv (.pointer (some ⟨b, off + k * 3, none⟩)), Eqv (.agg #[.int .i64 t.a, .int .i64 t.b, .int .i64 t.c]), Eqv (codeV (Pl.one t)), RowC 63 3 wr.heap.size 1 1 (codeC (Pl.one t))] 9 35 (by kernel_rfl) rfl rfl (by kernel_rfl) ?_ ?_ ?_
      · simp only [AllS]
        repeat' apply And.intro
        all_goals first | exact stab_eqv _ | exact stab_rowC _ _ _ _ _ _ | exact stab_rowN _ _ _ _ _ | trivial
      · simp only [Users, List.take, List.length]
        refine ⟨?_, ?_, ?_, ?_, ?_, ?_, ?_, ?_, ?_, trivial⟩
        all_goals (intro vs w1 hb1 hd; have c3 := cc w1 hb1; have c4 := cd w1 hb1; have c5 := ce w1 hb1; clear cc cd ce c0 c1 c2 t1 t2 t3 hcell hA hx hone; simp only [putD, Act.put, List.nil_append, List.cons_append, List.setIfInBounds_toArray, List.set_cons_succ, List.set_cons_zero, Nat.reduceAdd])
        · clear hd c3 c4 c5; go_wp2; exact ⟨(Below.refl _ _).alloc (Nat.le_refl _) _, _, _, rfl, hb1.size, Nat.le_refl _, Bx.mk _ _ _, rfl, rfl⟩
        · clear hd; go_wp2; exact ⟨Below.refl _ _, rfl⟩
        · have h0 : RowC 63 3 wr.heap.size 0 0 [] (vs 0) w1 := hd 0 rfl
          have h1 : vs 1 = .slice Ap p.length capp := hd 1 rfl
          clear hd
          rw [h1]
          refine wpList_append_codes rfl (.tmp 21) (.tmp 22) rfl wr.heap.size 0 0 p.length [] (p.flatMap codeC) (vs 0) (.slice Ap p.length capp) rfl rfl h0 hb1.size ((hAp.below hb1).src codeC_len codeC_one codesT capp) (by decide) (by omega) ?_
          intro v' w' cap' e1 e2 e3 e4
          exact ⟨rfl, rfl, e2 rfl, ⟨cap', by rw [Nat.zero_add, List.nil_append] at e3; exact e3, e4⟩⟩
        · clear hd; go_wp2; exact ⟨Below.refl _ _, rfl⟩
        · clear hd; go_wp2; exact ⟨Below.refl _ _, rfl⟩
        · (have hdep3 := hd 3 rfl; conv at hdep3 => whnf); (have hdep4 := hd 4 rfl; conv at hdep4 => whnf)
          clear hd; go_wp2; exact ⟨Below.refl _ _, rfl⟩
        · (have hdep5 := hd 5 rfl; conv at hdep5 => whnf)
          clear hd; go_wp2; exact ⟨Below.refl _ _, rfl⟩
        · (have hdep6 := hd 6 rfl; conv at hdep6 => whnf)
          clear hd
          go_wp2_with (go_at_call 24; refine (One_any t.a t.b t.c x1 x2 x3 _).mono ?_; rintro _ w9 ⟨rfl, hb9⟩)
          rfl
        · have h7 : vs 7 = .agg #[.string ⟨(Pl.one t).old.toArray⟩, .string ⟨(Pl.one t).new.toArray⟩, .int .i64 (Pl.one t).len] := hd 7 rfl
          clear hd
          rw [h7]
          go_wp2
          exact ⟨(Below.refl _ _).alloc (Nat.le_refl _) _, _, _, rfl, hb1.size, Nat.le_refl _, Bx.mk _ _ _, rfl, rfl⟩
      · clear cc cd ce c0 c1 c2 hcell hA hx
        intro vs w1 hb1 hR
        simp only [AllR, Eqv] at hR
        obtain ⟨e0, e1, ⟨cap2, e2, hm2⟩, e3, e4, e5, e6, e7, e8, -⟩ := hR
        simp only [List.drop, List.take, List.map, putD, Act.put, List.setIfInBounds_toArray, List.set_cons_succ, List.set_cons_zero, Nat.reduceAdd]
        refine wpList_append_codes rfl (.tmp 23) (.tmp 29) rfl wr.heap.size cap2 p.length 1 (p.flatMap codeC) (codeC (Pl.one t)) (vs 2) (vs 8) rfl rfl e2 hb1.size (e8.src (codeC_one _) codesT) hm2 (by omega) ?_
        intro v' w' cap' f1 f2 f3 f4
        have f5 : RowC 63 3 wr.heap.size cap' (p ++ [Pl.one t]).length ((p ++ [Pl.one t]).flatMap codeC) v' w' := by simpa using f3
        obtain ⟨A2, rfl, hA2, hlen2⟩ := f5.at codeC_len
        have hb2 := hb1.trans f1
        clear f1 f2 f3 f5 e0 e1 e2 e3 e4 e5 e6 e7 e8
        obtain ⟨q, hq⟩ : ∃ q, Kp (q = p ++ [Pl.one t]) := ⟨_, ⟨rfl⟩⟩
        rw [← hq.out] at hA2 hlen2 ⊢
        have hql : q.length = p.length + 1 := by rw [hq.out]; simp
        have hqs : Kp (Small q) := ⟨by
          intro c hc
          rw [hq.out] at hc
          rcases List.mem_append.1 hc with h | h
          · exact hsm.out c h
          · obtain rfl : c = Pl.one t := by simpa using h
            exact hone⟩
        have hAp2 := (hAp.below hb2).more hb2.size
        have hfs : Kp ((x.take (k + 1)).foldl Pl.madeStep [] = if Pl.valid q then q else p) := ⟨by
          rw [List.take_add_one, hck]
          simp only [Option.toList_some, List.foldl_append, List.foldl_cons, List.foldl_nil]
          rw [← hfold.out, hq.out]
          unfold Pl.madeStep
          rw [if_pos g3]⟩
        have hq8 : q.length ≤ 8 := by omega
        have hbw2 := bCall hb hb2
        clear hfold hql hq hb1 hm2 hck hb2 hAp hb t1 t2 t3 hone
        simp only [Act.put, List.setIfInBounds_toArray, List.set_cons_succ, List.set_cons_zero]
        generalize vs 0 = z0, vs 1 = z1, vs 2 = z2, vs 3 = z3, vs 4 = z4, vs 5 = z5, vs 6 = z6, vs 7 = z7, vs 8 = z8
        have hc := fun w0 (h0 : At 3 codeC w0 w0.heap.size A2 q) => refValid_any q A2 cap' w0 h0 hlen2 hqs.out
        cases hv : Pl.valid q
        · rw [hv] at hfs hc
          simp only [Bool.false_eq_true, if_false] at hfs
          clear hv
          go_wp2_with (go_at_call 25; refine (hc _ (by assumption)).mono ?_; rintro e w8 ⟨rfl, hb8⟩)
          go_roundw
          case rel => exact ⟨k + 1, p, by omega, by omega, by go_num, ⟨Ap, capp, rfl, (hAp2.below hb8).more hb8.size, hpc, hcm⟩, by omega, ⟨hfs.out.symm⟩, ‹_›, bCall hbw2 hb8⟩
          case measure => simp [intOf]; omega
        · rw [hv] at hfs hc
          simp only [if_true] at hfs
          clear hv
          go_wp2_with (go_at_call 25; refine (hc _ (by assumption)).mono ?_; rintro e w8 ⟨rfl, hb8⟩)
          go_roundw
          case rel => exact ⟨k + 1, q, by omega, by omega, by go_num, ⟨A2, cap', rfl, (hA2.below hb8).more hb8.size, hlen2, f4⟩, hq8, ⟨hfs.out.symm⟩, hqs, bCall hbw2 hb8⟩
          case measure => simp [intOf]; omega
end Go.Proofs.YtlldlkjngcgcjaaGreatDoor
namespace Go.Proofs.YtlldlkjngcgcjaaGreatDoor
set_option linter.unusedVariables false
set_option linter.unusedSimpArgs false
open Go.RowKit
def intC (c : Int) : List Value := [.int .i64 c]
theorem tdiv16_in {a : Int} (h : I64 a) : -9223372036854775808 ≤ a.tdiv 16 ∧ a.tdiv 16 ≤ 9223372036854775807 := by
  obtain ⟨h1, h2⟩ := h
  by_cases h : 0 ≤ a
  · rw [Int.tdiv_eq_ediv_of_nonneg h]; omega
  · obtain ⟨b, rfl⟩ : ∃ b, a = -b := ⟨-a, by omega⟩
    rw [Int.neg_tdiv, Int.tdiv_eq_ediv_of_nonneg (by omega)]; omega
structure PickK (c n z : Int) : Prop where
  pos : 0 < n
  lo : -9223372036854775808 ≤ c
  hi : c ≤ 9223372036854775807
  eq : Pl.pick c n = z
theorem pickRef_k {c n z : Int} {w : World} (h : PickK c n z) : Calls Tryz.prog 32 #[.int .i64 c, .int .i64 n] w fun e w' => e = .returned (.int .i64 z) ∧ w = w' := by
  have := pickRef_any c n h.pos h.lo h.hi w
  rwa [h.eq] at this
set_option maxRecDepth 100000 in
set_option maxHeartbeats 4000000 in
theorem Number_any (p : List Pl.Cd) (A : Option Addr) (cap : Nat) (which n : Int) (w : World) (hA : At 3 codeC w w.heap.size A p) (hn : p.length ≤ cap) (hs : Small p) (hl : p.length ≤ 1000) (h1 : I64 which) (h2 : I64 n)
    (hr : 0 < p.length → ∀ i ph : Int, 0 ≤ i → i < p.length → 1 ≤ ph → ph ≤ 3 → 0 ≤ (Pl.range p i ph).1 ∧ (Pl.range p i ph).1 < (Pl.range p i ph).2.1 ∧ (Pl.range p i ph).2.1 ≤ 1000000000) :
    Calls Tryz.prog 8 #[.slice A p.length cap, .int .i64 which, .int .i64 n] w fun e w' => e = .returned (.int .i64 (Pl.number p which n)) ∧ Below w.heap.size w w' := by
  have q := tdiv16_in h1
  obtain ⟨a1, a2⟩ := h1
  obtain ⟨b1, b2⟩ := h2
  obtain ⟨c1, c2⟩ := q
  have hp16 : PickK which 16 (Pl.pick which 16) := ⟨by decide, a1, a2, rfl⟩
  have hpn : PickK n 100000000 (Pl.pick n 100000000) := ⟨by decide, b1, b2, rfl⟩
  by_cases h0 : p.length = 0
  · have hfin : Kp (Pl.number p which n = Pl.pick n 100000000) := ⟨by unfold Pl.number; rw [if_pos (.inl h0)]⟩
    have t1 : ((p.length : Int) == 0) = true := by simp [h0]
    clear hr hp16 hs
    go_enter Tryz.func8, Tryz.ntmps8
    go_wp2_with (go_at_call 32; refine (pickRef_k (by assumption)).mono ?_; rintro e w8 ⟨rfl, rfl⟩)
    go_ret
    exact ⟨ret_int hfin.out.symm, Below.refl _ _⟩
  · have t1 : ((p.length : Int) == 0) = false := by simp [h0]
    by_cases h15 : Pl.pick which 16 = 15
    · have hfin : Kp (Pl.number p which n = Pl.pick n 100000000) := ⟨by unfold Pl.number; rw [if_pos (.inr h15)]⟩
      rw [h15] at hp16
      clear hr h15
      go_enter Tryz.func8, Tryz.ntmps8
      go_wp2_with (go_at_call 32; refine (pickRef_k (by assumption)).mono ?_; rintro e w8 ⟨rfl, rfl⟩)
      go_ret
      exact ⟨ret_int hfin.out.symm, Below.refl _ _⟩
    · have t2 : (Pl.pick which 16 == 15) = false := by simp [h15]
      have hpos : 0 < p.length := by omega
      have k1 := pick_lt (which.tdiv 16) p.length (by omega)
      have k2 := pick_lt which 3 (by decide)
      have k3 := hr hpos (Pl.pick (which.tdiv 16) p.length) (1 + Pl.pick which 3) k1.1 k1.2 (by omega) (by omega)
      have hfin : Kp (Pl.number p which n = (Pl.range p (Pl.pick (which.tdiv 16) p.length) (1 + Pl.pick which 3)).1 + Pl.pick n ((Pl.range p (Pl.pick (which.tdiv 16) p.length) (1 + Pl.pick which 3)).2.1 - (Pl.range p (Pl.pick (which.tdiv 16) p.length) (1 + Pl.pick which 3)).1)) := ⟨by unfold Pl.number; rw [if_neg (by omega)]⟩
      have hpl : PickK (which.tdiv 16) p.length (Pl.pick (which.tdiv 16) p.length) := ⟨by omega, c1, c2, rfl⟩
      have hp3 : PickK which 3 (Pl.pick which 3) := ⟨by decide, a1, a2, rfl⟩
      generalize Pl.pick (which.tdiv 16) p.length = i at *
      generalize Pl.pick which 3 = j at *
      generalize Pl.pick which 16 = m16 at *
      have hrg := fun w0 (h : At 3 codeC w0 w0.heap.size A p) => refRange_any p A cap i (1 + j) w0 h hn hs hl
      generalize Pl.range p i (1 + j) = r at *
      obtain ⟨ra, rb, re⟩ := r
      simp only at k3 hfin
      simp only [rangeV] at hrg
      have k4 := pick_lt n (rb - ra) (by omega)
      have hpr : PickK n (rb - ra) (Pl.pick n (rb - ra)) := ⟨by omega, b1, b2, rfl⟩
      generalize Pl.pick n (rb - ra) = z at *
      clear h15 hr hpn h0 hpos hs
      go_enter Tryz.func8, Tryz.ntmps8
      go_wp2_with (first
        | (go_at_call 32; refine (pickRef_k (by assumption)).mono ?_; rintro e w8 ⟨rfl, rfl⟩)
        | (go_at_call 33; refine (hrg _ (by assumption)).mono ?_; rintro e w8 ⟨rfl, hb8⟩))
      have B1 := (Bx.mk w8 72 #[.int .i64 ra, .int .i64 rb])
      have b1 := bNew hb8 (.cells #[.int .i64 ra, .int .i64 rb] 72)
      have g0 := fun d os => (B1.again d os).cell 0 rfl
      have g1 := fun d os => (B1.again d os).cell 1 rfl
      have hs : Kp (Pl.number p which n = ra + z) := ⟨hfin.out⟩
      clear hfin hb8 hA hrg hp16 hpl hp3
      refine wp_region_quiet_below (by kernel_rfl) (by kernel_rfl) ?_
      repeat (go_big_quiet_step (first | (go_at_call 32; exact Calls.regrown_of (calls_below (pickRef_k hpr)))))
      refine wpQuiet_nil ?_
      rintro _ ⟨q, rfl⟩
      go_wp2
      go_ret
      exact ⟨ret_int hs.out.symm, bAgain b1 q.d q.os⟩
end Go.Proofs.YtlldlkjngcgcjaaGreatDoor
namespace Pl
theorem apart_ne {a b : S} (h : apart a b = true) : a ≠ b := by
  intro e
  subst e
  have h2 : a.isPrefixOf a = true := List.isPrefixOf_iff_prefix.2 (List.prefix_refl a)
  unfold apart at h
  rw [h2] at h
  cases h
theorem valid_differ {p : List Cd} (h : valid p = true) (k : Nat) (c : Cd) (hc : p[k]? = some c) (b : Cd) (hb : b ∈ p.take k) : differ c b = true := by
  simp only [valid, Bool.and_eq_true] at h
  have h2 := h.2
  unfold allPairs at h2
  have hk : k < p.length := (List.getElem?_eq_some_iff.1 hc).1
  have h3 := List.all_eq_true.1 h2 k (List.mem_range.2 hk)
  have h4 := List.all_eq_true.1 h3 b hb
  simpa [hc] using h4
def entOf (ph : Int) (c : Cd) (i : Nat) : List (S × Ent) :=
  (if ph ≠ 3 then [(c.old, ⟨(i : Int), c.len, c.new ++ zeros (8 - c.new.length - room c).toNat⟩)] else []) ++
    (if ph ≠ 1 then [(c.new, ⟨(i : Int), 8, c.new⟩)] else [])
theorem ents_succ (p : List Cd) (ph : Int) (k : Nat) (c : Cd) (hc : p[k]? = some c) : ents (p.take (k + 1)) ph = ents (p.take k) ph ++ entOf ph c k := by
  have hk : k < p.length := (List.getElem?_eq_some_iff.1 hc).1
  unfold ents
  rw [List.take_add_one, hc, Option.toList_some, List.zipIdx_append, List.flatMap_append]
  simp [entOf, Nat.min_eq_left (Nat.le_of_lt hk)]
theorem ents_len (p : List Cd) (ph : Int) : ∀ k, k ≤ p.length → (ents (p.take k) ph).length ≤ 2 * k
  | 0, _ => by simp [ents]
  | k + 1, h => by
    have ih := ents_len p ph k (by omega)
    rw [ents_succ p ph k p[k] (List.getElem?_eq_getElem (by omega)), List.length_append]
    have : (entOf ph p[k] k).length ≤ 2 := by unfold entOf; split <;> split <;> simp
    omega
theorem ents_key {p : List Cd} {ph : Int} {s : S} {x : Ent} (h : (s, x) ∈ ents p ph) : ∃ b ∈ p, s = b.old ∨ s = b.new := by
  unfold ents at h
  obtain ⟨⟨b, i⟩, h1, h2⟩ := List.mem_flatMap.1 h
  have hb : b ∈ p := (List.mem_zipIdx' h1).2 ▸ List.getElem_mem _
  refine ⟨b, hb, ?_⟩
  simp only [List.mem_append] at h2
  rcases h2 with h2 | h2
  · split at h2
    · simp at h2; exact .inl h2.1
    · simp at h2
  · split at h2
    · simp at h2; exact .inr h2.1
    · simp at h2
theorem lookup_none {α : Type} {es : List (S × α)} {s : S} (h : ∀ x, (s, x) ∉ es) : es.lookup s = none := by
  rw [List.lookup_eq_none_iff]
  intro q hq
  have : s ≠ q.1 := fun e => h q.2 (by rw [e]; exact hq)
  simpa using this
theorem ents_fresh {p : List Cd} (h : valid p = true) (ph : Int) (k : Nat) (c : Cd) (hc : p[k]? = some c) : (ents (p.take k) ph).lookup c.old = none ∧ (ents (p.take k) ph).lookup c.new = none ∧ c.old ≠ c.new := by
  refine ⟨lookup_none fun x hx => ?_, lookup_none fun x hx => ?_, apart_ne (valid_fine h (List.mem_of_getElem? hc)).ap⟩
  all_goals
    obtain ⟨b, hb, hs⟩ := ents_key hx
    have hd := valid_differ h k c hc b hb
    simp only [differ, Bool.and_eq_true] at hd
    obtain ⟨⟨⟨d1, d2⟩, d3⟩, d4⟩ := hd
    rcases hs with hs | hs
  · exact apart_ne d1 hs
  · exact apart_ne d3 hs
  · exact apart_ne d4 hs
  · exact apart_ne d2 hs
end Pl
namespace Go.Proofs.YtlldlkjngcgcjaaGreatDoor
set_option linter.unusedVariables false
set_option linter.unusedSimpArgs false
open Go.RowKit
def entV (x : Pl.Ent) : Value := .agg #[.int .i64 x.code, .int .i64 x.length, .string ⟨x.stands.toArray⟩]
/-- block b is the map of these entries -/
abbrev EntsIs (es : List (List UInt8 × Pl.Ent)) (b : Nat) (w : World) : Prop := MapIs Tryz.prog 9 entV es b w
set_option maxRecDepth 100000 in
set_option maxHeartbeats 4000000 in
theorem entries_any (p : List Pl.Cd) (A : Option Addr) (cap : Nat) (ph : Int) (w : World) (hA : At 3 codeC w w.heap.size A p) (hn : p.length ≤ cap) (hv : Pl.valid p = true) (hph : ph = 1 ∨ ph = 2 ∨ ph = 3) :
    Calls Tryz.prog 90 #[.slice A p.length cap, .int .i64 ph] w fun e w' => ∃ b, e = .returned (.map (some b)) ∧ Below w.heap.size w w' ∧ w.heap.size ≤ b ∧ EntsIs (Pl.ents p ph) b w' := by
  have hl20 := Pl.valid_len hv
  go_enter Tryz.func90, Tryz.ntmps90
  have hmk := run_makeMap (P := Tryz.prog) 133 w
  go_wp2
  clear hmk
  go_loopw [6, 7, 11] (fun s6 s7 s11 wr => ∃ k : Nat, k ≤ p.length ∧ s11 = .int .i64 k ∧ EntsIs (Pl.ents (p.take k) ph) w.heap.size wr ∧ Below w.heap.size w wr) (fun _ _ s11 _ => p.length - (intOf s11).toNat)
  case atStart => exact ⟨0, Nat.zero_le _, rfl, by simpa [Pl.ents] using MapIs.made w, bNew (bStart w) _⟩
  case round =>
    obtain ⟨k, hk, rfl, hM, hb⟩ := hrel
    by_cases hlt : k < p.length
    · have t0 : decide ((k : Int) < (p.length : Int)) = true := by simp; omega
      obtain ⟨b, off, rfl, hbB, hcell⟩ := hA (by omega)
      have hck : p[k]? = some p[k] := List.getElem?_eq_getElem hlt
      have c0 : wr.cell? ⟨b, off + k * 3, none⟩ = some (.string ⟨(p[k]).old.toArray⟩) := (hb.cell (p := ⟨b, _, none⟩) hbB).trans (hcell k _ hck 0 _ rfl)
      have c1 : wr.cell? ⟨b, off + k * 3 + 1, none⟩ = some (.string ⟨(p[k]).new.toArray⟩) := (hb.cell (p := ⟨b, _, none⟩) hbB).trans (hcell k _ hck 1 _ rfl)
      have c2 : wr.cell? ⟨b, off + k * 3 + 2, none⟩ = some (.int .i64 (p[k]).len) := (hb.cell (p := ⟨b, _, none⟩) hbB).trans (hcell k _ hck 2 _ rfl)
      have hF := Pl.valid_fine hv (List.getElem_mem hlt)
      have hfr := Pl.ents_fresh hv ph k p[k] hck
      have hsucc := Kp.mk (Pl.ents_succ p ph k p[k] hck)
      have hel : (Pl.ents (p.take k) ph).length ≤ 1000 := by have := Pl.ents_len p ph k (by omega); omega
      clear hck hcell hA
      generalize p[k] = c at *
      obtain ⟨o, nw, l⟩ := c
      obtain ⟨_, _, ho1, ho4, hn1, hn5, hl1, hl7, hfit, _⟩ := hF
      simp only [Pl.room] at *
      have Bc := Bx.mk wr 63 #[.string ⟨o.toArray⟩, .string ⟨nw.toArray⟩, .int .i64 l]
      have hM1 := hM.below (B := wr.heap.size) ((Below.refl wr.heap.size wr).alloc (Nat.le_refl _) (.cells #[.string ⟨o.toArray⟩, .string ⟨nw.toArray⟩, .int .i64 l] 63)) hM.lt
      have hb1 := bNew hb (.cells #[.string ⟨o.toArray⟩, .string ⟨nw.toArray⟩, .int .i64 l] 63)
      have g0 := fun d os => (Bc.again d os).cell 0 rfl
      have g1 := fun d os => (Bc.again d os).cell 1 rfl
      have g2 := fun d os => (Bc.again d os).cell 2 rfl
      have r0 := Bc.cell 0 rfl
      have r1 := Bc.cell 1 rfl
      have r2 := Bc.cell 2 rfl
      have hstr : Tryz.prog.underlying 9 = some .string := Tryz.underlying9
      have hmap : Tryz.prog.underlying 133 = some (.map 9 136) := Tryz.underlying133
      have hR := fun w0 => Repeat_any [48] (8 - (nw.length : Int) - (l - (o.length : Int))) w0 (by omega) (by omega) (by decide)
      have hz := repeat_zero (8 - (nw.length : Int) - (l - (o.length : Int))).toNat
      have hzl : (Lib.repeatL [48] (8 - (nw.length : Int) - (l - (o.length : Int))).toNat).length ≤ 8 := by rw [hz]; simp; omega
      rw [show List.replicate (8 - (nw.length : Int) - (l - (o.length : Int))).toNat 48 = Pl.zeros (8 - (nw.length : Int) - (l - (o.length : Int))).toNat from rfl] at hz
      replace hz := Kp.mk hz
      generalize Lib.repeatL [48] (8 - (nw.length : Int) - (l - (o.length : Int))).toNat = z at *
      have hcat : ¬ (9223372036854775807 < nw.length + z.length) := by omega
      rcases hph with rfl | rfl | rfl
      · clear r0 r1 r2
        go_wp2
        refine wp_region_below_tail 18 (by kernel_rfl) (by kernel_rfl) ?_
        simp only [List.take, List.drop]
        repeat (go_big_quiet_step (first
          | (go_at_call 39; exact Calls.regrown_of (room_any _ _ _ (by omega) (by omega) _))
          | (go_at_call 80; exact Calls.regrown_of (hR _))))
        refine wpQuiet_nil ?_
        rintro _ ⟨q, rfl⟩
        have hM2 := hM1.below (below_regrown _ q.d q.os) hM1.lt
        have hb2 := bAgain hb1 q.d q.os
        clear g0 g1 g2 hM1 hb1 Bc hM hb hR
        generalize Sort.grow _ q.os = W2 at *
        refine wpList_put rfl (.tmp 18) (.tmp 20) (.tmp 35) rfl hstr hmap rfl hM2 (by unfold maxLen; omega) o ⟨k, l, nw ++ z⟩ rfl rfl (by unfold maxLen; omega) hfr.1 ?_
        intro w3 hM3 hg3
        have hb3 := below_grownBy hg3 (fun b hb => by cases hb; exact Nat.le_refl _) hb2.size hb2
        clear hM2 hb2 hg3
        go_wp2
        refine ⟨⟨k + 1, by omega, by go_num, ?_, hb3⟩, by simp [intOf]; omega⟩
        rw [hsucc.out]
        have hz' := hz.out; simpa [Pl.entOf, Pl.room, ← hz'] using hM3
      · clear r0 r1 r2
        go_wp2
        refine wp_region_below_tail 18 (by kernel_rfl) (by kernel_rfl) ?_
        simp only [List.take, List.drop]
        repeat (go_big_quiet_step (first
          | (go_at_call 39; exact Calls.regrown_of (room_any _ _ _ (by omega) (by omega) _))
          | (go_at_call 80; exact Calls.regrown_of (hR _))))
        refine wpQuiet_nil ?_
        rintro _ ⟨q, rfl⟩
        have hM2 := hM1.below (below_regrown _ q.d q.os) hM1.lt
        have hb2 := bAgain hb1 q.d q.os
        have Bc2 := Bc.again q.d q.os
        have hne : w.heap.size < wr.heap.size := hM.lt
        clear g0 g1 g2 hM1 hb1 Bc hM hb hR
        generalize Sort.grow _ q.os = W2 at *
        refine wpList_put rfl (.tmp 18) (.tmp 20) (.tmp 35) rfl hstr hmap rfl hM2 (by unfold maxLen; omega) o ⟨k, l, nw ++ z⟩ rfl rfl (by unfold maxLen; omega) hfr.1 ?_
        intro w3 hM3 hg3
        have hb3 := below_grownBy hg3 (fun b hb => by cases hb; exact Nat.le_refl _) hb2.size hb2
        have Bc3 : Bx w3 wr.heap.size 63 #[.string ⟨o.toArray⟩, .string ⟨nw.toArray⟩, .int .i64 l] := (hg3.block wr.heap.size Bc2.lt (by intro h; injection h with h; omega)).trans Bc2
        have r1 := Bc3.cell 1 rfl
        have hnew : (Pl.ents (p.take k) 2 ++ [(o, (⟨(k : Int), l, nw ++ z⟩ : Pl.Ent))]).lookup nw = none := by
          rw [List.lookup_append, hfr.2.1]
          simp [List.lookup, beq_eq_false_iff_ne.2 (Ne.symm hfr.2.2)]
        clear hM2 hb2 hg3 Bc2 Bc3 hne
        go_wp2_with (at_mapUpdate; refine wpList_put rfl (.tmp 38) (.tmp 40) (.tmp 44) rfl hstr hmap rfl hM3 (by simp; unfold maxLen; omega) nw ⟨k, 8, nw⟩ rfl rfl (by unfold maxLen; omega) hnew ?_; intro w5 hM5 hg5)
        have hb5 := below_grownBy hg5 (fun b hb => by cases hb; exact Nat.le_refl _) hb3.size hb3
        refine ⟨⟨k + 1, by omega, by go_num, ?_, hb5⟩, by simp [intOf]; omega⟩
        rw [hsucc.out]
        have hz' := hz.out
        simpa [Pl.entOf, Pl.room, ← hz'] using hM5
      · clear g0 g1 g2 hR
        have hnew := hfr.2.1
        go_wp2_with (at_mapUpdate; refine wpList_put rfl (.tmp 38) (.tmp 40) (.tmp 44) rfl hstr hmap rfl hM1 (by unfold maxLen; omega) nw ⟨k, 8, nw⟩ rfl rfl (by unfold maxLen; omega) hnew ?_; intro w5 hM5 hg5)
        have hb5 := below_grownBy hg5 (fun b hb => by cases hb; exact Nat.le_refl _) hb1.size hb1
        refine ⟨⟨k + 1, by omega, by go_num, ?_, hb5⟩, by simp [intOf]; omega⟩
        rw [hsucc.out]
        simpa [Pl.entOf] using hM5
    · obtain rfl : k = p.length := by omega
      have t0 : decide ((p.length : Int) < (p.length : Int)) = false := by simp
      rw [List.take_of_length_le (Nat.le_refl _)] at hM
      go_wp2
      go_ret
      exact ⟨_, rfl, hb, Nat.le_refl _, hM⟩
end Go.Proofs.YtlldlkjngcgcjaaGreatDoor
namespace Pl
structure EntOk (key : S) (x : Ent) : Prop where
  dig : digits x.stands = true
  s1 : 1 ≤ x.stands.length
  s8 : x.stands.length ≤ 8
  k : (key.length : Int) ≤ x.length
  k1 : 1 ≤ key.length
  l8 : x.length ≤ 8
  c0 : 0 ≤ x.code
  c20 : x.code ≤ 20
theorem lookup_mem {α : Type} : ∀ (es : List (S × α)) (s : S) (x : α), es.lookup s = some x → (s, x) ∈ es
  | [], _, _, h => by cases h
  | (k, y) :: es, s, x, h => by
    rw [List.lookup_cons] at h
    by_cases hk : (s == k) = true
    · rw [hk] at h
      have : s = k := by simpa using hk
      subst this
      simp at h; subst h; simp
    · rw [Bool.not_eq_true] at hk
      rw [hk] at h
      exact List.mem_cons_of_mem _ (lookup_mem es s x h)
theorem ents_ok {p : List Cd} (hv : valid p = true) {ph : Int} {s : S} {x : Ent} (h : (ents p ph).lookup s = some x) : EntOk s x := by
  have hm := lookup_mem _ _ _ h
  unfold ents at hm
  obtain ⟨⟨b, i⟩, h1, h2⟩ := List.mem_flatMap.1 hm
  have hb : b ∈ p := (List.mem_zipIdx' h1).2 ▸ List.getElem_mem _
  have hi : i < p.length := (List.mem_zipIdx' h1).1
  have hl := valid_len hv
  obtain ⟨d1, d2, o1, o4, n1, n5, l1, l7, fit, _⟩ := valid_fine hv hb
  have hz : ∀ n, digits (zeros n) = true := by
    intro n
    unfold digits zeros
    rw [List.all_eq_true]
    intro c hc
    rw [(List.mem_replicate.1 hc).2]
    decide
  simp only [List.mem_append] at h2
  rcases h2 with h2 | h2
  · split at h2
    · simp only [List.mem_singleton, Prod.mk.injEq] at h2
      obtain ⟨rfl, rfl⟩ := h2
      simp only [room] at fit
      refine ⟨?_, ?_, ?_, by simp only; omega, by omega, by simp only; omega, by simp only; omega, by simp only; omega⟩
      · simp only [digits, List.all_append, Bool.and_eq_true]
        exact ⟨d2, hz _⟩
      · simp only [List.length_append]; omega
      · simp only [List.length_append, zeros, List.length_replicate, room]; omega
    · simp at h2
  · split at h2
    · simp only [List.mem_singleton, Prod.mk.injEq] at h2
      obtain ⟨rfl, rfl⟩ := h2
      refine ⟨d2, by simp only; omega, by simp only; omega, by simp only; omega, by omega, by simp only; omega, by simp only; omega, by simp only; omega⟩
    · simp at h2
theorem begun_hit {es : List (S × Ent)} {s : S} {k : Nat} {x : Ent} (hk : k ≤ s.length) (hb : ∀ j, j < k → es.lookup (s.take j) = none) (hx : es.lookup (s.take k) = some x) : begun es s = some (k, x) := by
  unfold begun
  rw [List.findSome?_eq_some_iff]
  refine ⟨List.range k, k, List.range' (k + 1) (s.length - k), ?_, by rw [hx]; rfl, fun j hj => by rw [hb j (List.mem_range.1 hj)]; rfl⟩
  rw [List.range_eq_range', List.range_eq_range', show s.length + 1 = k + (s.length - k + 1) by omega, ← List.range'_append, List.range'_succ]
  simp
theorem begun_none {es : List (S × Ent)} {s : S} (hb : ∀ j, j ≤ s.length → es.lookup (s.take j) = none) : begun es s = none := by
  unfold begun
  rw [List.findSome?_eq_none_iff]
  intro j hj
  rw [hb j (by have := List.mem_range.1 hj; omega)]; rfl
end Pl
namespace Go.Proofs.YtlldlkjngcgcjaaGreatDoor
set_option linter.unusedVariables false
set_option linter.unusedSimpArgs false
open Go.RowKit
def readV (r : Pl.Dialled × Int) : Value := .tuple #[.agg #[.int .i64 r.1.kind, .int .i64 r.1.number, .int .i64 r.1.code, .int .i64 r.1.used], .int .i64 r.2]
theorem B4 {w : World} {g : Nat} {x y z u : Value} (h : Bx w g 87 #[x, y, z, u]) (a b c d : Value) : Bx ((((w.setCell ⟨g, 0, none⟩ a).setCell ⟨g, 1, none⟩ b).setCell ⟨g, 2, none⟩ c).setCell ⟨g, 3, none⟩ d) g 87 #[a, b, c, d] := (((h.set 0 a).set 1 b).set 2 c).set 3 d
theorem b4 {a w : World} (h : Below a.heap.size a w) (p q r t : Value) : Below a.heap.size a ((((w.setCell ⟨a.heap.size, 0, none⟩ p).setCell ⟨a.heap.size, 1, none⟩ q).setCell ⟨a.heap.size, 2, none⟩ r).setCell ⟨a.heap.size, 3, none⟩ t) :=
  bSet (bSet (bSet (bSet h (p := ⟨_, 0, none⟩) (Nat.le_refl _) p) (p := ⟨_, 1, none⟩) (Nat.le_refl _) q) (p := ⟨_, 2, none⟩) (Nat.le_refl _) r) (p := ⟨_, 3, none⟩) (Nat.le_refl _) t
set_option maxRecDepth 100000 in
set_option maxHeartbeats 4000000 in
theorem read_bad (p : List Pl.Cd) (A : Option Addr) (cap : Nat) (s : List UInt8) (ph : Int) (w : World) (hA : At 3 codeC w w.heap.size A p) (hn : p.length ≤ cap) (hl : p.length ≤ 1000) (hs : ∀ c ∈ p, c.old.length ≤ 1000 ∧ c.new.length ≤ 1000) (hsl : s.length ≤ 1000)
    (hbad : Pl.valid p = false ∨ (Pl.valid p = true ∧ Pl.digits s = false) ∨ (Pl.valid p = true ∧ Pl.digits s = true ∧ 16 < s.length) ∨ (Pl.valid p = true ∧ Pl.digits s = true ∧ s.length ≤ 16 ∧ Pl.isPhase ph = false)) :
    Calls Tryz.prog 41 #[.slice A p.length cap, .string ⟨s.toArray⟩, .int .i64 ph] w fun e w' => e = .returned (readV (Pl.read p s ph)) ∧ Below w.heap.size w w' := by
  have hfin : Kp (readV (Pl.read p s ph) = .tuple #[.agg #[.int .i64 0, .int .i64 0, .int .i64 0, .int .i64 0], .int .i64 120]) := by
    constructor
    unfold Pl.read
    rcases hbad with h | ⟨h, h2⟩ | ⟨h, h2, h3⟩ | ⟨h, h2, h3, h4⟩
    · rw [h]; rfl
    · rw [h, h2]; rfl
    · rw [h, h2, decide_eq_false (by omega)]; rfl
    · rw [h, h2, decide_eq_true h3, h4]; rfl
  have hV := fun w0 (h0 : At 3 codeC w0 w0.heap.size A p) => valid_any p A cap w0 h0 hn hl hs
  have hD := fun w0 => isDigits_any s (by omega) w0
  have hP := fun w0 => isPhase_any ph w0
  have hA1 := (hA.below ((Below.refl w.heap.size w).alloc (Nat.le_refl _) (.cells #[.int .i64 0, .int .i64 0, .int .i64 0, .int .i64 0] 87))).more (show w.heap.size ≤ (w.alloc (.cells #[.int .i64 0, .int .i64 0, .int .i64 0, .int .i64 0] 87)).heap.size by rw [alloc_size]; omega)
  have B1 := Bx.mk w 87 #[.int .i64 0, .int .i64 0, .int .i64 0, .int .i64 0]
  have hb0 := bNew (bStart w) (.cells #[.int .i64 0, .int .i64 0, .int .i64 0, .int .i64 0] 87)
  clear hA hs
  rcases hbad with h | ⟨h, h2⟩ | ⟨h, h2, h3⟩ | ⟨h, h2, h3, h4⟩
  · rw [h] at hV
    clear h
    go_enter Tryz.func41, Tryz.ntmps41
    go_wp2_with (go_at_call 34; refine (hV _ (by assumption)).mono ?_; rintro e w1 ⟨rfl, hb1⟩; have R0 := (B1.call hb1).cell 0 rfl; have R1 := (B1.call hb1).cell 1 rfl; have R2 := (B1.call hb1).cell 2 rfl; have R3 := (B1.call hb1).cell 3 rfl; have S0 := (B1.call hb1).frozen 0; have S1 := (B1.call hb1).frozen 1; have S2 := (B1.call hb1).frozen 2; have S3 := (B1.call hb1).frozen 3)
    have E := B4 (B1.call hb1) (.int .i64 0) (.int .i64 0) (.int .i64 0) (.int .i64 0)
    have hb9 := b4 (bCall hb0 hb1) (.int .i64 0) (.int .i64 0) (.int .i64 0) (.int .i64 0)
    clear R0 R1 R2 R3 S0 S1 S2 S3
    generalize ((((w1.setCell _ _).setCell _ _).setCell _ _).setCell _ _) = W at *
    have R0 := E.cell 0 rfl
    have R1 := E.cell 1 rfl
    have R2 := E.cell 2 rfl
    have R3 := E.cell 3 rfl
    refine bodyPost_ret (v := .tuple #[.agg #[.int .i64 0, .int .i64 0, .int .i64 0, .int .i64 0], .int .i64 120]) (by simp [results, Tryz.results41, go_sem, R0, R1, R2, R3]) rfl ?_
    exact ⟨by rw [hfin.out], hb9⟩
  · rw [h] at hV; rw [h2] at hD; clear h h2
    go_enter Tryz.func41, Tryz.ntmps41
    go_wp2_with (first
      | (go_at_call 34; refine (hV _ (by assumption)).mono ?_; rintro e w1 ⟨rfl, hb1⟩)
      | (go_at_call 89; refine (hD _).mono ?_; rintro e w2 ⟨rfl, hb2⟩; have R0 := ((B1.call hb1).call hb2).cell 0 rfl; have R1 := ((B1.call hb1).call hb2).cell 1 rfl; have R2 := ((B1.call hb1).call hb2).cell 2 rfl; have R3 := ((B1.call hb1).call hb2).cell 3 rfl; have S0 := ((B1.call hb1).call hb2).frozen 0; have S1 := ((B1.call hb1).call hb2).frozen 1; have S2 := ((B1.call hb1).call hb2).frozen 2; have S3 := ((B1.call hb1).call hb2).frozen 3)
      | (go_at_call 35; refine (hP _).mono ?_; rintro e w3 ⟨rfl, rfl⟩))
    have E := B4 ((B1.call hb1).call hb2) (.int .i64 0) (.int .i64 0) (.int .i64 0) (.int .i64 0)
    have hb9 := b4 (bCall (bCall hb0 hb1) hb2) (.int .i64 0) (.int .i64 0) (.int .i64 0) (.int .i64 0)
    clear R0 R1 R2 R3 S0 S1 S2 S3
    generalize ((((w2.setCell _ _).setCell _ _).setCell _ _).setCell _ _) = W at *
    have R0 := E.cell 0 rfl
    have R1 := E.cell 1 rfl
    have R2 := E.cell 2 rfl
    have R3 := E.cell 3 rfl
    refine bodyPost_ret (v := .tuple #[.agg #[.int .i64 0, .int .i64 0, .int .i64 0, .int .i64 0], .int .i64 120]) (by simp [results, Tryz.results41, go_sem, R0, R1, R2, R3]) rfl ?_
    exact ⟨by rw [hfin.out], hb9⟩
  · rw [h] at hV; rw [h2] at hD; clear h h2
    have t3 : decide ((16 : Int) < (s.length : Int)) = true := by simp; omega
    go_enter Tryz.func41, Tryz.ntmps41
    go_wp2_with (first
      | (go_at_call 34; refine (hV _ (by assumption)).mono ?_; rintro e w1 ⟨rfl, hb1⟩)
      | (go_at_call 89; refine (hD _).mono ?_; rintro e w2 ⟨rfl, hb2⟩; have R0 := ((B1.call hb1).call hb2).cell 0 rfl; have R1 := ((B1.call hb1).call hb2).cell 1 rfl; have R2 := ((B1.call hb1).call hb2).cell 2 rfl; have R3 := ((B1.call hb1).call hb2).cell 3 rfl; have S0 := ((B1.call hb1).call hb2).frozen 0; have S1 := ((B1.call hb1).call hb2).frozen 1; have S2 := ((B1.call hb1).call hb2).frozen 2; have S3 := ((B1.call hb1).call hb2).frozen 3)
      | (go_at_call 35; refine (hP _).mono ?_; rintro e w3 ⟨rfl, rfl⟩))
    have E := B4 ((B1.call hb1).call hb2) (.int .i64 0) (.int .i64 0) (.int .i64 0) (.int .i64 0)
    have hb9 := b4 (bCall (bCall hb0 hb1) hb2) (.int .i64 0) (.int .i64 0) (.int .i64 0) (.int .i64 0)
    clear R0 R1 R2 R3 S0 S1 S2 S3
    generalize ((((w2.setCell _ _).setCell _ _).setCell _ _).setCell _ _) = W at *
    have R0 := E.cell 0 rfl
    have R1 := E.cell 1 rfl
    have R2 := E.cell 2 rfl
    have R3 := E.cell 3 rfl
    refine bodyPost_ret (v := .tuple #[.agg #[.int .i64 0, .int .i64 0, .int .i64 0, .int .i64 0], .int .i64 120]) (by simp [results, Tryz.results41, go_sem, R0, R1, R2, R3]) rfl ?_
    exact ⟨by rw [hfin.out], hb9⟩
  · rw [h] at hV; rw [h2] at hD; rw [h4] at hP; clear h h2 h4
    have t3 : decide ((16 : Int) < (s.length : Int)) = false := by simp; omega
    go_enter Tryz.func41, Tryz.ntmps41
    go_wp2_with (first
      | (go_at_call 34; refine (hV _ (by assumption)).mono ?_; rintro e w1 ⟨rfl, hb1⟩)
      | (go_at_call 89; refine (hD _).mono ?_; rintro e w2 ⟨rfl, hb2⟩; have R0 := ((B1.call hb1).call hb2).cell 0 rfl; have R1 := ((B1.call hb1).call hb2).cell 1 rfl; have R2 := ((B1.call hb1).call hb2).cell 2 rfl; have R3 := ((B1.call hb1).call hb2).cell 3 rfl; have S0 := ((B1.call hb1).call hb2).frozen 0; have S1 := ((B1.call hb1).call hb2).frozen 1; have S2 := ((B1.call hb1).call hb2).frozen 2; have S3 := ((B1.call hb1).call hb2).frozen 3)
      | (go_at_call 35; refine (hP _).mono ?_; rintro e w3 ⟨rfl, rfl⟩))
    have E := B4 ((B1.call hb1).call hb2) (.int .i64 0) (.int .i64 0) (.int .i64 0) (.int .i64 0)
    have hb9 := b4 (bCall (bCall hb0 hb1) hb2) (.int .i64 0) (.int .i64 0) (.int .i64 0) (.int .i64 0)
    clear R0 R1 R2 R3 S0 S1 S2 S3
    generalize ((((w2.setCell _ _).setCell _ _).setCell _ _).setCell _ _) = W at *
    have R0 := E.cell 0 rfl
    have R1 := E.cell 1 rfl
    have R2 := E.cell 2 rfl
    have R3 := E.cell 3 rfl
    refine bodyPost_ret (v := .tuple #[.agg #[.int .i64 0, .int .i64 0, .int .i64 0, .int .i64 0], .int .i64 120]) (by simp [results, Tryz.results41, go_sem, R0, R1, R2, R3]) rfl ?_
    exact ⟨by rw [hfin.out], hb9⟩
end Go.Proofs.YtlldlkjngcgcjaaGreatDoor
namespace Go.Proofs.YtlldlkjngcgcjaaGreatDoor
set_option linter.unusedVariables false
set_option linter.unusedSimpArgs false
open Go.RowKit
def entZ : Value := .agg #[.int .i64 0, .int .i64 0, .string ⟨#[]⟩]
theorem zeroEnt (w : World) : (zeroValue 136).run Tryz.prog w = .ok entZ w := by
  have h : (Tryz.prog.info? 136).bind (·.zero) = some entZ := by kernel_rfl
  cases hi : Tryz.prog.info? 136 with
  | none => rw [hi] at h; cases h
  | some i =>
    rw [hi] at h
    have hz : i.zero = some entZ := h
    simp [zeroValue, typeInfo, hi, hz]
set_option maxRecDepth 100000 in
set_option maxHeartbeats 4000000 in
theorem read_good (p : List Pl.Cd) (A : Option Addr) (cap : Nat) (s : List UInt8) (ph : Int) (w : World) (hA : At 3 codeC w w.heap.size A p) (hn : p.length ≤ cap) (hl : p.length ≤ 1000) (hs : ∀ c ∈ p, c.old.length ≤ 1000 ∧ c.new.length ≤ 1000)
    (hv : Pl.valid p = true) (hd : Pl.digits s = true) (h16 : s.length ≤ 16) (h4 : Pl.isPhase ph = true) :
    Calls Tryz.prog 41 #[.slice A p.length cap, .string ⟨s.toArray⟩, .int .i64 ph] w fun e w' => e = .returned (readV (Pl.read p s ph)) ∧ Below w.heap.size w w' := by
  have hph : ph = 1 ∨ ph = 2 ∨ ph = 3 := by simp [Pl.isPhase, Pl.within] at h4; omega
  have hV := fun w0 (h0 : At 3 codeC w0 w0.heap.size A p) => valid_any p A cap w0 h0 hn hl hs
  have hD := fun w0 => isDigits_any s (by omega) w0
  have hP := fun w0 => isPhase_any ph w0
  have hE := fun w0 (h0 : At 3 codeC w0 w0.heap.size A p) => entries_any p A cap ph w0 h0 hn hv hph
  rw [hv] at hV; rw [hd] at hD; rw [h4] at hP
  have hA1 := (hA.below ((Below.refl w.heap.size w).alloc (Nat.le_refl _) (.cells #[.int .i64 0, .int .i64 0, .int .i64 0, .int .i64 0] 87))).more (show w.heap.size ≤ (w.alloc (.cells #[.int .i64 0, .int .i64 0, .int .i64 0, .int .i64 0] 87)).heap.size by rw [alloc_size]; omega)
  have B1 := Bx.mk w 87 #[.int .i64 0, .int .i64 0, .int .i64 0, .int .i64 0]
  have hb0 := bNew (bStart w) (.cells #[.int .i64 0, .int .i64 0, .int .i64 0, .int .i64 0] 87)
  have t3 : decide ((16 : Int) < (s.length : Int)) = false := by simp; omega
  have hread : Kp (Pl.read p s ph = match Pl.begun (Pl.ents p ph) s with
      | some (k, x) => if (s.length : Int) < x.length then (⟨1, 0, 0, 0⟩, 0) else (⟨2, Pl.val (x.stands ++ (s.take x.length.toNat).drop k), x.code, x.length⟩, 0)
      | none => if (Pl.ents p ph).any fun e => s.isPrefixOf e.1 then (⟨1, 0, 0, 0⟩, 0) else (⟨0, 0, 0, 0⟩, 0)) := by
    constructor
    rw [Pl.read, hv, hd, h4, decide_eq_true h16]
    rfl
  have hok := fun (k : List UInt8) x (h : (Pl.ents p ph).lookup k = some x) => Pl.ents_ok hv h
  generalize hes : Pl.ents p ph = es at *
  clear hes hA hs hv h4 hph
  go_enter Tryz.func41, Tryz.ntmps41
  go_wp2_with (first
    | (go_at_call 34; refine (hV _ (by assumption)).mono ?_; rintro e w1 ⟨rfl, hb1⟩; have hA2 := (hA1.below hb1).more hb1.size)
    | (go_at_call 89; refine (hD _).mono ?_; rintro e w2 ⟨rfl, hb2⟩; have hA3 := (hA2.below hb2).more hb2.size)
    | (go_at_call 35; refine (hP _).mono ?_; rintro e w3 ⟨rfl, rfl⟩)
    | (go_at_call 90; refine (hE _ hA3).mono ?_; rintro e w4 ⟨mb, rfl, hb4, hmb, hM⟩))
  have hbb := bCall (bCall (bCall hb0 hb1) hb2) hb4
  have BR := ((B1.call hb1).call hb2).call hb4
  have hmb2 : w.heap.size < mb := by have h1 := hb1.size; have h2 := hb2.size; rw [alloc_size] at h1; omega
  clear hb0 hb1 hb2 hb4 hA1 hA2 hA3 hV hD hP hE B1 hmb t3
  have hstr : Tryz.prog.underlying 9 = some .string := Tryz.underlying9
  have hmap : Tryz.prog.underlying 133 = some (.map 9 136) := Tryz.underlying133
  go_loopw [9, 10, 11, 12, 13, 40] (fun s9 s10 s11 s12 s13 s40 wr => ∃ k : Nat, k ≤ s.length + 1 ∧ s40 = .int .i64 k ∧ Kp (∀ j, j < k → es.lookup (s.take j) = none) ∧ EntsIs es mb wr ∧ Below w.heap.size w wr ∧ Bx wr w.heap.size 87 #[.int .i64 0, .int .i64 0, .int .i64 0, .int .i64 0]) (fun _ _ _ _ _ s40 _ => s.length + 1 - (intOf s40).toNat)
  case atStart => exact ⟨0, Nat.zero_le _, rfl, ⟨fun j h => by omega⟩, hM, hbb, BR⟩
  case round =>
    clear hbb BR hM
    obtain ⟨k, hk, rfl, hno, hM, hb, BR⟩ := hrel
    by_cases hlt : k < s.length + 1
    · have t0 : decide ((k : Int) < (s.length : Int) + 1) = true := by simp; omega
      have hks : k ≤ s.length := by omega
      cases hlk : es.lookup (s.take k) with
      | none =>
        go_wp2_with (at_lookup; refine wpList_look (s := s.take k) rfl (.tmp 44) (.tmp 47) rfl hstr hmap (zeroEnt _) rfl hM rfl (by simp; unfold maxLen; omega) ?_; rw [hlk]; simp only [entZ, Option.isSome_none])
        go_roundw
        case rel => exact ⟨k + 1, by omega, by go_num, ⟨fun j hj => by
          rcases Nat.lt_or_ge j k with h | h
          · exact hno.out j h
          · obtain rfl : j = k := by omega
            exact hlk⟩, hM.below (B := wr.heap.size) ((Below.refl wr.heap.size wr).alloc (Nat.le_refl _) _) hM.lt, bNew hb _, BR.new _⟩
        case measure => simp [intOf]; omega
      | some x =>
        have hx := hok _ x hlk
        have hbeg := Pl.begun_hit hks hno.out hlk
        obtain ⟨d1, d2, d3, d4, d5, d6, d7, d8⟩ := hx
        rw [hbeg] at hread
        clear hno hok hbeg
        obtain ⟨xc, xl, xs⟩ := x
        simp only at *
        have B2 := BR.new (.cells #[.int .i64 xc, .int .i64 xl, .string ⟨xs.toArray⟩] 136)
        have E2 := Bx.mk wr 136 #[.int .i64 xc, .int .i64 xl, .string ⟨xs.toArray⟩]
        have hb2 := bNew hb (.cells #[.int .i64 xc, .int .i64 xl, .string ⟨xs.toArray⟩] 136)
        have e1 := E2.cell 1 rfl
        by_cases hm : (s.length : Int) < xl
        · rw [if_pos hm] at hread
          have R0 := B2.cell 0 rfl
          have R1 := B2.cell 1 rfl
          have R2 := B2.cell 2 rfl
          have R3 := B2.cell 3 rfl
          have S0 := B2.frozen 0
          have S1 := B2.frozen 1
          have S2 := B2.frozen 2
          have S3 := B2.frozen 3
          go_wp2_with (at_lookup; refine wpList_look (s := s.take k) rfl (.tmp 44) (.tmp 47) rfl hstr hmap (zeroEnt _) rfl hM rfl (by simp; unfold maxLen; omega) ?_; rw [hlk]; simp only [entV, Option.isSome_some])
          have E := B4 B2 (.int .i64 1) (.int .i64 0) (.int .i64 0) (.int .i64 0)
          have hb9 := b4 hb2 (.int .i64 1) (.int .i64 0) (.int .i64 0) (.int .i64 0)
          clear R0 R1 R2 R3 S0 S1 S2 S3
          generalize (((((wr.alloc _).setCell _ _).setCell _ _).setCell _ _).setCell _ _) = W at *
          have R0 := E.cell 0 rfl
          have R1 := E.cell 1 rfl
          have R2 := E.cell 2 rfl
          have R3 := E.cell 3 rfl
          refine bodyPost_ret (v := .tuple #[.agg #[.int .i64 1, .int .i64 0, .int .i64 0, .int .i64 0], .int .i64 0]) (by simp [results, Tryz.results41, go_sem, R0, R1, R2, R3]) rfl ?_
          exact ⟨by rw [hread.out]; rfl, hb9⟩
        · rw [if_neg hm] at hread
          have g0 := fun d os => (E2.again d os).cell 0 rfl
          have g1 := fun d os => (E2.again d os).cell 1 rfl
          have g2 := fun d os => (E2.again d os).cell 2 rfl
          obtain ⟨L, rfl⟩ : ∃ L : Nat, xl = L := ⟨xl.toNat, by omega⟩
          have hkL : k ≤ L := by rw [List.length_take] at d4; omega
          have hLs : L ≤ s.length := by omega
          have hkL2 : (k : Int) ≤ (L : Int) := by omega
          have hLs2 : (L : Int) ≤ (s.length : Int) := by omega
          have hsz : (xs ++ (s.drop k).take (L - k)).length ≤ 18 := by simp; omega
          have hne : xs ++ (s.drop k).take (L - k) ≠ [] := by
            intro h; have h9 := congrArg List.length h; rw [List.length_append] at h9; simp only [List.length_nil] at h9; omega
          have hdg : ∀ c ∈ xs ++ (s.drop k).take (L - k), 48 ≤ c.toNat ∧ c.toNat ≤ 57 := by
            intro c hc
            rcases List.mem_append.1 hc with h | h
            · exact Pl.digits_mem d1 c h
            · exact Pl.digits_mem hd c (List.mem_of_mem_drop (List.mem_of_mem_take h))
          have hat := fun w0 => Atoi_any (xs ++ (s.drop k).take (L - k)) _ w0 (by omega) (atoi_digits _ hdg hne hsz)
          have hcat : ¬ (9223372036854775807 < xs.length + ((s.drop k).take (L - k)).length) := by simp; omega
          have hcat2 : ¬ (9223372036854775807 < xs.length + min (L - k) (s.length - k)) := by omega
          rw [show ((L : Int).toNat) = L from rfl, List.drop_take] at hread
          go_wp2_with (at_lookup; refine wpList_look (s := s.take k) rfl (.tmp 44) (.tmp 47) rfl hstr hmap (zeroEnt _) rfl hM rfl (by simp; unfold maxLen; omega) ?_; rw [hlk]; simp only [entV, Option.isSome_some])
          refine wp_region_quiet_below (by kernel_rfl) (by kernel_rfl) ?_
          repeat (go_big_quiet_step (first | (go_at_call 91; exact Calls.regrown_of (hat _))))
          refine wpQuiet_nil ?_
          rintro _ ⟨q, rfl⟩
          have hb3 := bAgain hb2 q.d q.os
          have B3 := B2.again q.d q.os
          have E3 := E2.again q.d q.os
          clear g0 g1 g2 e1 hb2 B2 E2 hat
          generalize Sort.grow _ q.os = W2 at *
          have R0 := B3.cell 0 rfl
          have R1 := B3.cell 1 rfl
          have R2 := B3.cell 2 rfl
          have R3 := B3.cell 3 rfl
          have S0 := B3.frozen 0
          have S1 := B3.frozen 1
          have S2 := B3.frozen 2
          have S3 := B3.frozen 3
          have e0 := E3.cell 0 rfl
          have e1 := E3.cell 1 rfl
          generalize hN : numOf (xs ++ (s.drop k).take (L - k)) = N at *
          go_wp2
          have E := B4 B3 (.int .i64 2) (.int .i64 N) (.int .i64 xc) (.int .i64 L)
          have hb9 := b4 hb3 (.int .i64 2) (.int .i64 N) (.int .i64 xc) (.int .i64 L)
          clear R0 R1 R2 R3 S0 S1 S2 S3
          generalize ((((W2.setCell _ _).setCell _ _).setCell _ _).setCell _ _) = W at *
          have R0 := E.cell 0 rfl
          have R1 := E.cell 1 rfl
          have R2 := E.cell 2 rfl
          have R3 := E.cell 3 rfl
          refine bodyPost_ret (v := .tuple #[.agg #[.int .i64 2, .int .i64 N, .int .i64 xc, .int .i64 L], .int .i64 0]) (by simp [results, Tryz.results41, go_sem, R0, R1, R2, R3]) rfl ?_
          exact ⟨by rw [hread.out, ← hN]; rfl, hb9⟩
    · have t0 : decide ((k : Int) < (s.length : Int) + 1) = false := by simp; omega
      have hbeg := Pl.begun_none (es := es) (s := s) fun j hj => hno.out j (by omega)
      rw [hbeg] at hread
      simp only at hread
      clear hbeg hno hok hd
      go_wp2_with (refine wpList_range_k rfl (.tmp 78) rfl hstr hmap rfl hM ?_; intro w5 left cnt hR hleft hg5 hs5)
      have hgb : Below wr.heap.size wr w5 := below_grownBy hg5 (fun b hb => by cases hb) (Nat.le_refl _) (Below.refl _ _)
      have hb5 := bCall hb hgb
      have BR5 := BR.call hgb
      have hmr : mb < wr.heap.size := hM.lt
      have hrl5 : wr.heap.size < w5.heap.size := by omega
      clear hg5 hs5 hgb hb BR hM
      generalize wr.heap.size = r at *
      simp only [Act.put, List.setIfInBounds_toArray, List.set_cons_succ, List.set_cons_zero]
      go_loopw [14] (fun s14 wq => ∃ lf ct, RangeIs Tryz.prog 9 entV es mb r wq lf ct ∧ Kp (∀ key x, es.lookup key = some x → lf (.string key) = true ∨ s.isPrefixOf key = false) ∧ Below w.heap.size w wq ∧ Bx wq w.heap.size 87 #[.int .i64 0, .int .i64 0, .int .i64 0, .int .i64 0] ∧ r < wq.heap.size) (fun _ wq => wq.rangeLeft mb r)
      case atStart => exact ⟨left, cnt, hR, ⟨fun key x h => .inl (by rw [hleft, h]; rfl)⟩, hb5, BR5, hrl5⟩
      case round =>
        clear hb5 BR5 hR hleft hrl5
        obtain ⟨lf, ct, hR, hno, hb, BR, hrl⟩ := hrel
        have R0 := BR.cell 0 rfl
        have R1 := BR.cell 1 rfl
        have R2 := BR.cell 2 rfl
        have R3 := BR.cell 3 rfl
        have S0 := BR.frozen 0
        have S1 := BR.frozen 1
        have S2 := BR.frozen 2
        have S3 := BR.frozen 3
        go_wp2_with (first | ((refine wpList_next_k rfl (.tmp 79) rfl hstr r lf ct rfl hR (fun h0 => ?_) (fun key y w6 ct6 hl6 hx6 hR6 hlt6 hg6 hs6 hen6 => ?_)) <;> try (have BR6 := (hg6.block w.heap.size BR.lt (by intro h; injection h with h; omega)).trans BR; have T0 := Bx.cell BR6 0 rfl; have T1 := Bx.cell BR6 1 rfl; have T2 := Bx.cell BR6 2 rfl; have T3 := Bx.cell BR6 3 rfl; have U0 := Bx.frozen BR6 0; have U1 := Bx.frozen BR6 1; have U2 := Bx.frozen BR6 2; have U3 := Bx.frozen BR6 3)) | (go_at_call 38; cases hpre : s.isPrefixOf key <;> (refine (HasPrefix_any s key _).mono ?_; rintro e w7 ⟨rfl, rfl⟩; rw [hpre])))
        · have hany : (es.any fun e => s.isPrefixOf e.1) = false := by
            rw [List.any_eq_false]
            intro e he
            cases hl : es.lookup e.1 with
            | none => rw [List.lookup_eq_none_iff] at hl; have := hl e he; simp at this
            | some x =>
              rcases hno.out e.1 x hl with h | h
              · rw [h0] at h; cases h
              · simp [h]
          rw [hany] at hread
          have E := B4 BR (.int .i64 0) (.int .i64 0) (.int .i64 0) (.int .i64 0)
          have hb9 := b4 hb (.int .i64 0) (.int .i64 0) (.int .i64 0) (.int .i64 0)
          clear R0 R1 R2 R3 S0 S1 S2 S3
          generalize ((((wr.setCell _ _).setCell _ _).setCell _ _).setCell _ _) = W at *
          have R0 := E.cell 0 rfl
          have R1 := E.cell 1 rfl
          have R2 := E.cell 2 rfl
          have R3 := E.cell 3 rfl
          refine bodyPost_ret (v := .tuple #[.agg #[.int .i64 0, .int .i64 0, .int .i64 0, .int .i64 0], .int .i64 0]) (by simp [results, Tryz.results41, go_sem, R0, R1, R2, R3]) rfl ?_
          exact ⟨by rw [hread.out]; rfl, hb9⟩
        · have hb6 := below_grownBy hg6 (fun b hb => by cases hb; omega) hb.size hb
          obtain ⟨D1, hD1, _⟩ := id hR
          obtain ⟨D2, hD2, _⟩ := id hR6
          refine ⟨⟨_, ct6, hR6, ⟨fun key' x h => ?_⟩, hb6, BR6, by omega⟩, by rw [hD1.left_eq, hD2.left_eq]; exact hlt6⟩
          by_cases hkk : key' = key
          · subst hkk; exact .inr hpre
          · rcases hno.out key' x h with h9 | h9
            · left; simp [h9, Lit.sameKey, hkk]
            · exact .inr h9
        · have hany : (es.any fun e => s.isPrefixOf e.1) = true := by
            rw [List.any_eq_true]
            exact ⟨_, Pl.lookup_mem _ _ _ hx6, hpre⟩
          rw [hany] at hread
          have hb6 := below_grownBy hg6 (fun b hb => by cases hb; omega) hb.size hb
          have E := B4 BR6 (.int .i64 1) (.int .i64 0) (.int .i64 0) (.int .i64 0)
          have hb9 := b4 hb6 (.int .i64 1) (.int .i64 0) (.int .i64 0) (.int .i64 0)
          clear R0 R1 R2 R3 S0 S1 S2 S3 T0 T1 T2 T3 U0 U1 U2 U3
          generalize ((((w6.setCell _ _).setCell _ _).setCell _ _).setCell _ _) = W at *
          have R0 := E.cell 0 rfl
          have R1 := E.cell 1 rfl
          have R2 := E.cell 2 rfl
          have R3 := E.cell 3 rfl
          refine bodyPost_ret (v := .tuple #[.agg #[.int .i64 1, .int .i64 0, .int .i64 0, .int .i64 0], .int .i64 0]) (by simp [results, Tryz.results41, go_sem, R0, R1, R2, R3]) rfl ?_
          exact ⟨by rw [hread.out]; rfl, hb9⟩
end Go.Proofs.YtlldlkjngcgcjaaGreatDoor
namespace Go.Proofs.YtlldlkjngcgcjaaGreatDoor
set_option linter.unusedVariables false
set_option linter.unusedSimpArgs false
open Go.RowKit Go.Shelf
attribute [local go_sem] Oper.semAt_some
open Classical in
/-- what Dial makes of a reading -/
noncomputable def dialR (r : Pl.Dialled × Int) (len : Nat) (n k f e : Int) : Tw.St × Int := if r.2 = 0 ∧ r.1.kind = 2 ∧ r.1.used = len ∧ Tw.Fm ⟨n, k, r.1.number, f, e⟩ then (⟨n, k, r.1.number, f, e⟩, 0) else (⟨0, 0, 0, 0, 0⟩, 220)
theorem dialR_t {r : Pl.Dialled × Int} {len : Nat} {n k f e : Int} (h : r.2 = 0 ∧ r.1.kind = 2 ∧ r.1.used = len ∧ Tw.Fm ⟨n, k, r.1.number, f, e⟩) : dialR r len n k f e = (⟨n, k, r.1.number, f, e⟩, 0) := if_pos h
theorem dialR_f {r : Pl.Dialled × Int} {len : Nat} {n k f e : Int} (h : ¬ (r.2 = 0 ∧ r.1.kind = 2 ∧ r.1.used = len ∧ Tw.Fm ⟨n, k, r.1.number, f, e⟩)) : dialR r len n k f e = (⟨0, 0, 0, 0, 0⟩, 220) := if_neg h
theorem results_D {fn : Func} {t u : Tmp} {g : Nat} {a b c d e f : Value} (hf : fn.results = #[.cell t 33, .tmp u]) (tmps : Array Value) (w : World) (ht : tmps.getD t undef = .pointer (some ⟨g, 0, none⟩)) (hu : tmps.getD u undef = f) (hB : Bx w g 33 #[a, b, c, d, e]) :
    (results fn tmps).run Tryz.prog w = .ok (.tuple #[.agg #[a, b, c, d, e], f]) w := by
  have h0 := hB.cell 0 rfl
  have h1 := hB.cell 1 rfl
  have h2 := hB.cell 2 rfl
  have h3 := hB.cell 3 rfl
  have h4 := hB.cell 4 rfl
  have ht' : tmps[t]?.getD undef = .pointer (some ⟨g, 0, none⟩) := by simpa using ht
  have hu' : tmps[u]?.getD undef = f := by simpa using hu
  simp only [results, hf]
  simp [go_sem, ht', hu', h0, h1, h2, h3, h4, loadVar]
set_option maxRecDepth 100000 in
set_option maxHeartbeats 4000000 in
theorem dial_any (p : List Pl.Cd) (A : Option Addr) (cap : Nat) (s : List UInt8) (ph n k f e : Int) (w : World) (hA : At 3 codeC w w.heap.size A p) (hn : p.length ≤ cap) (hl : p.length ≤ 1000) (hs : ∀ c ∈ p, c.old.length ≤ 1000 ∧ c.new.length ≤ 1000)
    (hv : Pl.valid p = true) (hd : Pl.digits s = true) (h16 : s.length ≤ 16) (h4 : Pl.isPhase ph = true) :
    Calls Tryz.prog 10 #[.slice A p.length cap, .int .i64 ph, .int .i64 n, .int .i64 k, .string ⟨s.toArray⟩, .agg #[.int .i64 f, .int .i64 e]] w fun e' w' => e' = .returned (.tuple #[.agg (stC (dialR (Pl.read p s ph) s.length n k f e).1).toArray, .int .i64 (dialR (Pl.read p s ph) s.length n k f e).2]) ∧ Below w.heap.size w w' := by
  have hR := fun w0 (hb : Below w.heap.size w w0) => read_good p A cap s ph w0 (hA.callx hb) hn hl hs hv hd h16 h4
  clear hA hn hl hs hv hd h4
  generalize Pl.read p s ph = r at *
  obtain ⟨⟨rk, rn, rc, ru⟩, er⟩ := r
  have hF := fun w0 => wFormed_any ⟨n, k, rn, f, e⟩ w0
  simp only [readV] at hR
  dsimp only at hF
  obtain ⟨st, hst⟩ : ∃ st, Kp (dialR (⟨rk, rn, rc, ru⟩, er) s.length n k f e = st) := ⟨_, ⟨rfl⟩⟩
  rw [hst.out]
  have hb1 := bNew (bNx w (.cells #[.int .i64 f, .int .i64 e] 31)) (.cells #[.int .i64 0, .int .i64 0, .int .i64 0, .int .i64 0, .int .i64 0] 33)
  have BS := (Bx.mk w 31 #[.int .i64 f, .int .i64 e]).new (.cells #[.int .i64 0, .int .i64 0, .int .i64 0, .int .i64 0, .int .i64 0] 33)
  have BR := Bx.mk (w.alloc (.cells #[.int .i64 f, .int .i64 e] 31)) 33 #[.int .i64 0, .int .i64 0, .int .i64 0, .int .i64 0, .int .i64 0]
  go_enter Tryz.func10, Tryz.ntmps10
  go_wp2_with fail
  refine (hR _ hb1).mono ?_
  rintro _ w2 ⟨rfl, hb2⟩
  replace BS := BS.call hb2
  replace BR := BR.call hb2
  have hb3 := bCall hb1 hb2
  have hs2 : w.heap.size + 1 < w2.heap.size := by have := BR.lt; simp only [World.size_alloc] at this; omega
  simp only [World.size_alloc] at BR
  clear hR hb1 hb2
  have BD := (Bx.mk w2 87 #[.int .i64 rk, .int .i64 rn, .int .i64 rc, .int .i64 ru]).new (.cells #[.int .i64 n, .int .i64 k, .int .i64 rn, .int .i64 f, .int .i64 e] 33)
  have BT := Bx.mk (w2.alloc (.cells #[.int .i64 rk, .int .i64 rn, .int .i64 rc, .int .i64 ru] 87)) 33 #[.int .i64 n, .int .i64 k, .int .i64 rn, .int .i64 f, .int .i64 e]
  have hbn := bNew (bNx w2 (.cells #[.int .i64 rk, .int .i64 rn, .int .i64 rc, .int .i64 ru] 87)) (.cells #[.int .i64 n, .int .i64 k, .int .i64 rn, .int .i64 f, .int .i64 e] 33)
  have BS1 := BS.call (bNx w2 (.cells #[.int .i64 rk, .int .i64 rn, .int .i64 rc, .int .i64 ru] 87))
  have s0 := BS1.cell 0 rfl
  have s1 := BS1.cell 1 rfl
  replace BR := BR.call hbn
  have hb4 := bCall hb3 hbn
  simp only [World.size_alloc] at BT
  have d0 := BD.cell 0 rfl
  have d1 := BD.cell 1 rfl
  have d2 := BD.cell 2 rfl
  have d3 := BD.cell 3 rfl
  have t0 := BT.cell 0 rfl
  have t1 := BT.cell 1 rfl
  have t2 := BT.cell 2 rfl
  have t3 := BT.cell 3 rfl
  have t4 := BT.cell 4 rfl
  by_cases he : er = 0
  · have tb : (er == 0) = true := by simpa using he
    by_cases hk2 : rk = 2
    · subst hk2
      have tb2 : ((2 : Int) == 2) = true := rfl
      by_cases hu : ru = (s.length : Int)
      · subst hu
        have tb3 : ((s.length : Int) == (s.length : Int)) = true := by simp
        go_wp2_with fail
        refine (hF _).mono ?_
        rintro _ w5 ⟨rfl, hb5⟩
        replace BR := BR.call hb5
        replace BT := BT.call hb5
        have hb6 := bCall hb4 hb5
        clear s0 s1 d0 d1 d2 d3 t0 t1 t2 t3 t4 hF hb5
        by_cases hfm : Tw.Fm ⟨n, k, rn, f, e⟩
        · rw [fmB_t hfm]
          have t0 := BT.cell 0 rfl
          have t1 := BT.cell 1 rfl
          have t2 := BT.cell 2 rfl
          have t3 := BT.cell 3 rfl
          have t4 := BT.cell 4 rfl
          have r0 := BR.cell 0 rfl; have r1 := BR.cell 1 rfl; have r2 := BR.cell 2 rfl; have r3 := BR.cell 3 rfl; have r4 := BR.cell 4 rfl; have f0 := BR.frozen 0; have f1 := BR.frozen 1; have f2 := BR.frozen 2; have f3 := BR.frozen 3; have f4 := BR.frozen 4
          go_wp2_with fail
          exact bodyPost_ret (results_D rfl _ _ rfl rfl (((((BR.set 0 (.int .i64 n)).set 1 (.int .i64 k)).set 2 (.int .i64 rn)).set 3 (.int .i64 f)).set 4 (.int .i64 e))) rfl ⟨by rw [← hst.out, dialR_t ⟨he, rfl, rfl, hfm⟩]; rfl, bSet (bSet (bSet (bSet (bSet hb6 (p := ⟨w.heap.size + 1, 0, none⟩) (by show _ ≤ w.heap.size + 1; omega) _) (p := ⟨w.heap.size + 1, 1, none⟩) (by show _ ≤ w.heap.size + 1; omega) _) (p := ⟨w.heap.size + 1, 2, none⟩) (by show _ ≤ w.heap.size + 1; omega) _) (p := ⟨w.heap.size + 1, 3, none⟩) (by show _ ≤ w.heap.size + 1; omega) _) (p := ⟨w.heap.size + 1, 4, none⟩) (by show _ ≤ w.heap.size + 1; omega) _⟩
        · rw [fmB_f hfm]
          have r0 := BR.cell 0 rfl; have r1 := BR.cell 1 rfl; have r2 := BR.cell 2 rfl; have r3 := BR.cell 3 rfl; have r4 := BR.cell 4 rfl; have f0 := BR.frozen 0; have f1 := BR.frozen 1; have f2 := BR.frozen 2; have f3 := BR.frozen 3; have f4 := BR.frozen 4
          go_wp2_with fail
          exact bodyPost_ret (results_D rfl _ _ rfl rfl (((((BR.set 0 (.int .i64 0)).set 1 (.int .i64 0)).set 2 (.int .i64 0)).set 3 (.int .i64 0)).set 4 (.int .i64 0))) rfl ⟨by rw [← hst.out, dialR_f fun h => hfm h.2.2.2]; rfl, bSet (bSet (bSet (bSet (bSet hb6 (p := ⟨w.heap.size + 1, 0, none⟩) (by show _ ≤ w.heap.size + 1; omega) _) (p := ⟨w.heap.size + 1, 1, none⟩) (by show _ ≤ w.heap.size + 1; omega) _) (p := ⟨w.heap.size + 1, 2, none⟩) (by show _ ≤ w.heap.size + 1; omega) _) (p := ⟨w.heap.size + 1, 3, none⟩) (by show _ ≤ w.heap.size + 1; omega) _) (p := ⟨w.heap.size + 1, 4, none⟩) (by show _ ≤ w.heap.size + 1; omega) _⟩
      · have tb3 : (ru == (s.length : Int)) = false := by simpa using hu
        have r0 := BR.cell 0 rfl; have r1 := BR.cell 1 rfl; have r2 := BR.cell 2 rfl; have r3 := BR.cell 3 rfl; have r4 := BR.cell 4 rfl; have f0 := BR.frozen 0; have f1 := BR.frozen 1; have f2 := BR.frozen 2; have f3 := BR.frozen 3; have f4 := BR.frozen 4
        clear hF
        go_wp2_with fail
        exact bodyPost_ret (results_D rfl _ _ rfl rfl (((((BR.set 0 (.int .i64 0)).set 1 (.int .i64 0)).set 2 (.int .i64 0)).set 3 (.int .i64 0)).set 4 (.int .i64 0))) rfl ⟨by rw [← hst.out, dialR_f fun h => hu h.2.2.1]; rfl, bSet (bSet (bSet (bSet (bSet hb4 (p := ⟨w.heap.size + 1, 0, none⟩) (by show _ ≤ w.heap.size + 1; omega) _) (p := ⟨w.heap.size + 1, 1, none⟩) (by show _ ≤ w.heap.size + 1; omega) _) (p := ⟨w.heap.size + 1, 2, none⟩) (by show _ ≤ w.heap.size + 1; omega) _) (p := ⟨w.heap.size + 1, 3, none⟩) (by show _ ≤ w.heap.size + 1; omega) _) (p := ⟨w.heap.size + 1, 4, none⟩) (by show _ ≤ w.heap.size + 1; omega) _⟩
    · have tb2 : (rk == 2) = false := by simpa using hk2
      have r0 := BR.cell 0 rfl; have r1 := BR.cell 1 rfl; have r2 := BR.cell 2 rfl; have r3 := BR.cell 3 rfl; have r4 := BR.cell 4 rfl; have f0 := BR.frozen 0; have f1 := BR.frozen 1; have f2 := BR.frozen 2; have f3 := BR.frozen 3; have f4 := BR.frozen 4
      clear hF
      go_wp2_with fail
      exact bodyPost_ret (results_D rfl _ _ rfl rfl (((((BR.set 0 (.int .i64 0)).set 1 (.int .i64 0)).set 2 (.int .i64 0)).set 3 (.int .i64 0)).set 4 (.int .i64 0))) rfl ⟨by rw [← hst.out, dialR_f fun h => hk2 h.2.1]; rfl, bSet (bSet (bSet (bSet (bSet hb4 (p := ⟨w.heap.size + 1, 0, none⟩) (by show _ ≤ w.heap.size + 1; omega) _) (p := ⟨w.heap.size + 1, 1, none⟩) (by show _ ≤ w.heap.size + 1; omega) _) (p := ⟨w.heap.size + 1, 2, none⟩) (by show _ ≤ w.heap.size + 1; omega) _) (p := ⟨w.heap.size + 1, 3, none⟩) (by show _ ≤ w.heap.size + 1; omega) _) (p := ⟨w.heap.size + 1, 4, none⟩) (by show _ ≤ w.heap.size + 1; omega) _⟩
  · have tb : (er == 0) = false := by simpa using he
    have r0 := BR.cell 0 rfl; have r1 := BR.cell 1 rfl; have r2 := BR.cell 2 rfl; have r3 := BR.cell 3 rfl; have r4 := BR.cell 4 rfl; have f0 := BR.frozen 0; have f1 := BR.frozen 1; have f2 := BR.frozen 2; have f3 := BR.frozen 3; have f4 := BR.frozen 4
    clear hF
    go_wp2_with fail
    exact bodyPost_ret (results_D rfl _ _ rfl rfl (((((BR.set 0 (.int .i64 0)).set 1 (.int .i64 0)).set 2 (.int .i64 0)).set 3 (.int .i64 0)).set 4 (.int .i64 0))) rfl ⟨by rw [← hst.out, dialR_f fun h => he h.1]; rfl, bSet (bSet (bSet (bSet (bSet hb4 (p := ⟨w.heap.size + 1, 0, none⟩) (by show _ ≤ w.heap.size + 1; omega) _) (p := ⟨w.heap.size + 1, 1, none⟩) (by show _ ≤ w.heap.size + 1; omega) _) (p := ⟨w.heap.size + 1, 2, none⟩) (by show _ ≤ w.heap.size + 1; omega) _) (p := ⟨w.heap.size + 1, 3, none⟩) (by show _ ≤ w.heap.size + 1; omega) _) (p := ⟨w.heap.size + 1, 4, none⟩) (by show _ ≤ w.heap.size + 1; omega) _⟩
end Go.Proofs.YtlldlkjngcgcjaaGreatDoor

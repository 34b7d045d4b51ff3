/- Go's library at this dump: strings.Trim, strings.Repeat, strconv.Itoa, strconv.Atoi, said of lists of bytes. -/
import Derived.Test.YtllnepdighhkdaaGreatDoorShelf
import Derived.Test.YtllnepdighhkdaaGreatDoorMK
namespace Go.Proofs.YtllnepdighhkdaaGreatDoor
set_option linter.unusedVariables false
set_option linter.unusedSimpArgs false
open Go.RowKit
/-- the one table of the library's that is read -/
def Env (w : World) : Prop := Lib.TabIs Tryz.prog w "internal/strconv.uint64pow10" .u64 Lib.pow10Tab
theorem Env.below {w w' : World} (h : Env w) (hb : Below w.heap.size w w') : Env w' := by
  unfold Env Lib.TabIs at *
  unfold World.var? at *
  cases hg : Tryz.prog.globalNamed "internal/strconv.uint64pow10" with
  | none => rw [hg] at h; cases h
  | some g =>
    rw [hg] at h
    simp only [Option.bind_some] at h ⊢
    have hlt : g < w.heap.size := by
      rcases Nat.lt_or_ge g w.heap.size with h1 | h1
      · exact h1
      · rw [Array.getElem?_eq_none h1] at h; cases h
    rw [hb.block g hlt]
    exact h
theorem Env.drewN {w : World} (h : Env w) (n : Nat) : Env (w.drewN n) := h.below (below_drewN (Below.refl _ _) n)
theorem Env.regrown {w : World} (h : Env w) (d : Nat) (os : Array Obj) : Env (Sort.grow (redrawn w d) os) := h.below (below_regrown w d os)
theorem below_grow (w : World) (k : Nat) (os : Array Obj) : Below w.heap.size w (Sort.grow (w.drewN k) os) := below_regrown w _ os
theorem Trim_any (s cs : List UInt8) (w : World) (hs : s.length ≤ 1000000) (hc : cs.length ≤ 1000) (ha : ∀ b ∈ cs, b.toNat < 128) :
    Calls Tryz.prog 128 #[.string ⟨s.toArray⟩, .string ⟨cs.toArray⟩] w fun e w' => e = .returned (.string ⟨(Lib.trimS s cs).toArray⟩) ∧ Below w.heap.size w w' := by
  refine (Any.strings_Trim_laid Tryz.laysTrim (by kernel_rfl) ⟨s.toArray⟩ ⟨cs.toArray⟩ w (show s.length ≤ _ by omega) (show cs.length < _ by omega) (fun j b hb => ha b ?_)).mono fun e w' h => h
  exact List.mem_of_getElem? hb
theorem Repeat_any (s : List UInt8) (c : Int) (w : World) (h0 : 0 ≤ c) (hc : c ≤ 1000000) (hs : s.length ≤ 1000000) :
    Calls Tryz.prog 149 #[.string ⟨s.toArray⟩, .int .i64 c] w fun e w' => e = .returned (.string ⟨(Lib.repeatL s c.toNat).toArray⟩) ∧ Below w.heap.size w w' := by
  obtain ⟨c, rfl⟩ := Int.eq_ofNat_of_zero_le h0
  have : s.length * c ≤ 1000000 * 1000000 := Nat.mul_le_mul hs (by omega)
  exact Tryz.strings_Repeat ⟨s.toArray⟩ c w (by omega) (show s.length * c ≤ _ by omega)
theorem Itoa_any (n : Int) (w : World) (h0 : -9223372036854775808 ≤ n) (h1 : n ≤ 9223372036854775807) (hE : Env w) :
    Calls Tryz.prog 105 #[.int .i64 n] w fun e w' => e = .returned (.string ⟨(Lib.itoa n).toArray⟩) ∧ Below w.heap.size w w' :=
  (Tryz.strconv_Itoa n h0 h1 w hE).mono fun _ _ ⟨he, k, os, hw⟩ => ⟨he, by rw [hw]; exact below_grow w k os⟩
theorem Atoi_any (s : List UInt8) (v : Int) (w : World) (hs : s.length ≤ 1000000) (h : Lib.atoiAll s = .ok v) :
    Calls Tryz.prog 103 #[.string ⟨s.toArray⟩] w fun e w' => e = .returned (.tuple #[.int .i64 v, .nilIface]) ∧ Below w.heap.size w w' :=
  (Tryz.strconv_Atoi_ok ⟨s.toArray⟩ (show s.length ≤ _ by omega) v h w).mono fun _ _ ⟨he, hw⟩ => ⟨he, by
    rcases hw with rfl | ⟨t, rfl⟩
    · exact Below.refl _ _
    · exact Lib.bytesWorld_below _ _ _⟩
/-! ### digits -/
theorem trim_digits (s cs : List UInt8) : Lib.trimS s cs = [] ↔ ∀ b ∈ s, b ∈ cs := by
  have hd : ∀ l : List UInt8, l.dropWhile (cs.contains ·) = [] ↔ ∀ b ∈ l, b ∈ cs := by
    intro l
    induction l with
    | nil => simp
    | cons x l ih =>
      rw [List.dropWhile_cons]
      by_cases hx : x ∈ cs
      · simp [hx]; simpa using ih
      · simp [hx]
  unfold Lib.trimS Lib.trimLeftS
  rw [hd]
  unfold Lib.trimRightS
  constructor
  · intro h b hb
    by_cases hall : ∀ b ∈ s, b ∈ cs
    · exact hall b hb
    · have hne : s.reverse.dropWhile (cs.contains ·) ≠ [] := fun he => hall (fun b hb => ((hd s.reverse).1 he) b (by simpa using hb))
      obtain ⟨x, l, hl⟩ := List.exists_cons_of_ne_nil hne
      have hx := h x (by rw [hl]; simp)
      have : cs.contains x = true := by simpa using hx
      have h2 := List.head?_dropWhile_not (cs.contains ·) s.reverse
      rw [hl] at h2
      simp at h2
      exact absurd hx h2
  · intro h b hb
    exact h b (by
      have := (List.dropWhile_suffix (cs.contains ·) (l := s.reverse)).subset (by simpa using hb)
      simpa using this)
/-- the number that digits say -/
def numOf (s : List UInt8) : Nat := s.foldl (fun n c => 10 * n + (c.toNat - 48)) 0
def numFrom (n : Nat) (s : List UInt8) : Nat := s.foldl (fun n c => 10 * n + (c.toNat - 48)) n
theorem numFrom_lt : ∀ (s : List UInt8) (n : Nat), (∀ c ∈ s, c.toNat ≤ 57) → numFrom n s < (n + 1) * 10 ^ s.length
  | [], n, _ => by simp [numFrom]
  | c :: s, n, h => by
    have h1 := numFrom_lt s (10 * n + (c.toNat - 48)) (fun d hd => h d (by simp [hd]))
    have h2 := h c (by simp)
    have h3 : (10 * n + (c.toNat - 48) + 1) * 10 ^ s.length ≤ ((n + 1) * 10) * 10 ^ s.length := Nat.mul_le_mul_right _ (by omega)
    show numFrom (10 * n + (c.toNat - 48)) s < _
    rw [List.length_cons, Nat.pow_succ, Nat.mul_comm (10 ^ s.length) 10, ← Nat.mul_assoc]
    omega
theorem numOf_lt (s : List UInt8) (h : ∀ c ∈ s, c.toNat ≤ 57) : numOf s < 10 ^ s.length := by
  have := numFrom_lt s 0 h
  show numFrom 0 s < _
  simpa using this
theorem numFrom_ge : ∀ (s : List UInt8) (n : Nat), n ≤ numFrom n s
  | [], n => Nat.le_refl _
  | c :: s, n => Nat.le_trans (by omega) (numFrom_ge s (10 * n + (c.toNat - 48)))
theorem parse_digits : ∀ (s : List UInt8) (n : Nat), (∀ c ∈ s, 48 ≤ c.toNat ∧ c.toNat ≤ 57) → numFrom n s < 1000000000000000000 → Lib.parseUint10 n s = .ok (numFrom n s)
  | [], n, _, _ => rfl
  | c :: s, n, h, hb => by
    have hc := h c (by simp)
    have hge := numFrom_ge s (10 * n + (c.toNat - 48))
    have hb' : numFrom (10 * n + (c.toNat - 48)) s < 1000000000000000000 := hb
    have e : n * 10 + (c.toNat - 48) = 10 * n + (c.toNat - 48) := by omega
    rw [Lib.parseUint10, if_pos hc, if_neg (by omega), if_neg (by omega), e]
    exact parse_digits s _ (fun d hd => h d (by simp [hd])) hb'
theorem atoi_digits (s : List UInt8) (h : ∀ c ∈ s, 48 ≤ c.toNat ∧ c.toNat ≤ 57) (hne : s ≠ []) (hl : s.length ≤ 18) : Lib.atoiAll s = .ok (numOf s : Int) := by
  have hlt := numOf_lt s (fun c hc => (h c hc).2)
  have h18 : 10 ^ s.length ≤ 10 ^ 18 := Nat.pow_le_pow_right (by decide) hl
  have hp := parse_digits s 0 h (by show numOf s < _; omega)
  match s, hne with
  | c :: r, _ =>
    have hc := h c (by simp)
    have hm : Lib.parseMag (c :: r) = .ok (numOf (c :: r)) := by unfold Lib.parseMag; rw [if_neg (by simp)]; exact hp
    have e1 : (if c.toNat = 43 ∨ c.toNat = 45 then r else c :: r) = c :: r := if_neg (by omega)
    have hb : numOf (c :: r) < 1000000000000000000 := by omega
    rw [Lib.atoiAll]
    simp only [e1, hm]
    rw [if_neg (by omega), if_neg (by omega), if_neg (by omega)]
end Go.Proofs.YtllnepdighhkdaaGreatDoor

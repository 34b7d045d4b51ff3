/- Plain mathematics of tariffs: no Go in sight. Plain mathematics of tariffs: where prices can change, sorted and without repetitions. Plain mathematics of tariffs: what integers determine; scaled and lowered prices. Plain mathematics of chapter 35: windows of sorted times. Plain mathematics of chapter 35: the times that integers determine. -/
import Derived.Lib.SlicesCompact
import Derived.Test.YtklelhkcbdajpaaGreatDoorQ00
namespace Tp
set_option linter.unusedVariables false
structure Rate where
  days : Int
  lo : Int
  hi : Int
  price : Int
def within (n lo hi : Int) : Bool := decide (lo ≤ n) && decide (n ≤ hi)
theorem within_iff {n lo hi : Int} : within n lo hi = true ↔ lo ≤ n ∧ n ≤ hi := by simp [within]
def okRate (r : Rate) : Bool := within r.days 1 127 && decide (0 ≤ r.lo) && within r.hi (r.lo + 1) 86400 && decide (r.lo < 86400) && within r.price 0 1000000
structure Ok (r : Rate) : Prop where
  d1 : 1 ≤ r.days
  d2 : r.days ≤ 127
  l0 : 0 ≤ r.lo
  lh : r.lo < r.hi
  h1 : r.hi ≤ 86400
  p0 : 0 ≤ r.price
  p1 : r.price ≤ 1000000
theorem okRate_iff {r : Rate} : okRate r = true ↔ Ok r := by
  simp only [okRate, Bool.and_eq_true, within_iff, decide_eq_true_eq]
  constructor
  · rintro ⟨⟨⟨⟨⟨a, b⟩, c⟩, d, e⟩, f⟩, g, h⟩
    exact ⟨a, b, c, by omega, e, g, h⟩
  · rintro ⟨a, b, c, d, e, f, g⟩
    exact ⟨⟨⟨⟨⟨a, b⟩, c⟩, by omega, e⟩, by omega⟩, f, g⟩
def valid (base : Int) (l : List Rate) : Bool := within base 0 1000000 && decide (l.length ≤ 10) && l.all okRate
theorem valid_iff {base : Int} {l : List Rate} : valid base l = true ↔ (0 ≤ base ∧ base ≤ 1000000) ∧ l.length ≤ 10 ∧ ∀ r ∈ l, Ok r := by
  simp only [valid, Bool.and_eq_true, within_iff, decide_eq_true_eq, List.all_eq_true, okRate_iff, and_assoc]
/-- the second of a local week -/
def sec (off t : Int) : Int := (t + off + 604800) % 604800
theorem sec_lt (off t : Int) : 0 ≤ sec off t ∧ sec off t < 604800 := by unfold sec; omega
/-- the bit of a day -/
def bit (days : Int) (k : Nat) : Bool := decide (days / 2 ^ k % 2 = 1)
def hits (s : Int) (r : Rate) : Bool := bit r.days (s / 86400).toNat && within (s % 86400) r.lo (r.hi - 1)
def rated (base : Int) (l : List Rate) (s : Int) : Int := match l.find? (hits s) with | some r => r.price | none => base
def price (base : Int) (l : List Rate) (off t : Int) : Int := rated base l (sec off t)
/-- the sum of a function over n seconds, from a on -/
def sumN (f : Int → Int) (a : Int) : Nat → Int
  | 0 => 0
  | n + 1 => sumN f a n + f (a + n)
def sumF (f : Int → Int) (a b : Int) : Int := sumN f a (b - a).toNat
theorem sumN_add (f : Int → Int) (a : Int) (m n : Nat) : sumN f a (m + n) = sumN f a m + sumN f (a + m) n := by
  induction n with
  | zero => simp [sumN]
  | succ n ih =>
    rw [← Nat.add_assoc, sumN, ih, sumN, show a + ((m + n : Nat) : Int) = a + m + n by omega]
    omega
theorem sumF_add (f : Int → Int) {a b c : Int} (h1 : a ≤ b) (h2 : b ≤ c) : sumF f a c = sumF f a b + sumF f b c := by
  unfold sumF
  have : (c - a).toNat = (b - a).toNat + (c - b).toNat := by omega
  rw [this, sumN_add, show a + ((b - a).toNat : Int) = b by omega]
theorem sumN_congr {f g : Int → Int} {a b : Int} {n : Nat} (h : ∀ i : Nat, i < n → f (a + i) = g (b + i)) : sumN f a n = sumN g b n := by
  induction n with
  | zero => rfl
  | succ n ih => rw [sumN, sumN, ih (fun i hi => h i (by omega)), h n (by omega)]
theorem sumF_const {f : Int → Int} {a b p : Int} (hab : a ≤ b) (h : ∀ t, a ≤ t → t < b → f t = p) : sumF f a b = p * (b - a) := by
  unfold sumF
  obtain ⟨n, hn⟩ := Int.eq_ofNat_of_zero_le (show 0 ≤ b - a by omega)
  rw [hn, Int.toNat_natCast]
  have : ∀ k : Nat, k ≤ n → sumN f a k = p * k := by
    intro k
    induction k with
    | zero => intro _; simp [sumN]
    | succ k ih =>
      intro hk
      rw [sumN, ih (by omega), h _ (by omega) (by omega)]
      rw [Int.natCast_add, Int.mul_add]
      simp
  exact this n (Nat.le_refl _)
theorem sumF_self (f : Int → Int) (a : Int) : sumF f a a = 0 := by simp [sumF, sumN]
theorem sumN_le {f g : Int → Int} {a : Int} {n : Nat} (h : ∀ i : Nat, i < n → f (a + i) ≤ g (a + i)) : sumN f a n ≤ sumN g a n := by
  induction n with
  | zero => exact Int.le_refl _
  | succ n ih =>
    have h1 := ih (fun i hi => h i (by omega))
    have h2 := h n (by omega)
    rw [sumN, sumN]; omega
theorem sumN_mul (f : Int → Int) (m a : Int) (n : Nat) : sumN (fun t => m * f t) a n = m * sumN f a n := by
  induction n with
  | zero => simp [sumN]
  | succ n ih => rw [sumN, sumN, ih, Int.mul_add]
theorem sumN_bound {f : Int → Int} {a M : Int} (n : Nat) (h0 : ∀ t, 0 ≤ f t) (h1 : ∀ t, f t ≤ M) : 0 ≤ sumN f a n ∧ sumN f a n ≤ M * n := by
  induction n with
  | zero => simp [sumN]
  | succ n ih =>
    have := h0 (a + n); have := h1 (a + n)
    rw [sumN, Int.natCast_add, Int.mul_add]
    simp only [Int.natCast_one, Int.mul_one]
    omega
theorem price_week (base : Int) (l : List Rate) (off t k : Int) : price base l off (t + 604800 * k) = price base l off t := by
  unfold price sec
  rw [show t + 604800 * k + off + 604800 = t + off + 604800 + 604800 * k by omega, Int.add_mul_emod_self_left]
theorem sumN_shift {f : Int → Int} {d : Int} (h : ∀ t, f (t + d) = f t) (a : Int) (n : Nat) : sumN f (a + d) n = sumN f a n :=
  sumN_congr fun i _ => by rw [show a + d + (i : Int) = a + i + d by omega, h]
theorem price_shift (base : Int) (l : List Rate) (off t k : Int) : price base l (off - k) (t + k) = price base l off t := by
  unfold price sec
  rw [show t + k + (off - k) + 604800 = t + off + 604800 by omega]
theorem price_bound {base : Int} {l : List Rate} (hv : valid base l = true) (off t : Int) : 0 ≤ price base l off t ∧ price base l off t ≤ 1000000 := by
  obtain ⟨⟨b0, b1⟩, -, hr⟩ := valid_iff.1 hv
  unfold price rated
  split
  · next r h =>
    have := hr r (List.mem_of_find?_eq_some h)
    exact ⟨this.p0, this.p1⟩
  · exact ⟨b0, b1⟩
/-- any whole number of weeks sums to so many times a week -/
theorem sumN_period {f : Int → Int} {d : Nat} (h : ∀ t, f (t + d) = f t) (a : Int) (k : Nat) : sumN f a (d * k) = k * sumN f a d := by
  induction k with
  | zero => simp [sumN]
  | succ k ih =>
    rw [Nat.mul_succ, sumN_add, ih, Int.natCast_add, Int.add_mul]
    have : sumN f (a + ((d * k : Nat) : Int)) d = sumN f a d := by
      refine sumN_congr fun i _ => ?_
      have hk : ∀ (k : Nat) (t : Int), f (t + ((d * k : Nat) : Int)) = f t := by
        intro k
        induction k with
        | zero => intro t; simp
        | succ k ih2 =>
          intro t
          rw [Nat.mul_succ, Int.natCast_add, ← Int.add_assoc, h, ih2]
      rw [show a + ((d * k : Nat) : Int) + (i : Int) = a + i + ((d * k : Nat) : Int) by omega, hk]
    rw [this]
    simp
/-- all windows of a period's length have one sum -/
theorem sumN_window {f : Int → Int} {d : Nat} (h : ∀ t, f (t + d) = f t) (a : Int) (k : Nat) : sumN f (a + k) d = sumN f a d := by
  have h1 := sumN_add f a k d
  have h2 := sumN_add f a d k
  rw [Nat.add_comm] at h1
  have h3 : sumN f (a + d) k = sumN f a k := sumN_shift h a k
  omega
theorem sumF_window {f : Int → Int} {d : Nat} (h : ∀ t, f (t + d) = f t) (a b : Int) : sumN f a d = sumN f b d := by
  rcases Int.le_total a b with hl | hl
  · obtain ⟨k, hk⟩ := Int.eq_ofNat_of_zero_le (show 0 ≤ b - a by omega)
    rw [show b = a + k by omega, sumN_window h]
  · obtain ⟨k, hk⟩ := Int.eq_ofNat_of_zero_le (show 0 ≤ a - b by omega)
    rw [show a = b + k by omega, sumN_window h]
/-! ### where prices change -/
/-- the first change behind a second of the day -/
def nextC (C : List Int) (d : Int) : Int := match C.find? (fun c => decide (d < c)) with | some c => c | none => 86400
structure Cuts (l : List Rate) (C : List Int) : Prop where
  los : ∀ r ∈ l, r.lo ∈ C
  his : ∀ r ∈ l, r.hi % 86400 ∈ C
  rg : ∀ c ∈ C, 0 ≤ c ∧ c < 86400
  so : C.Pairwise (· < ·)
theorem nextC_gt {C : List Int} {d : Int} (hd : d < 86400) : d < nextC C d := by
  unfold nextC
  split
  · next c h => simpa using List.find?_some h
  · exact hd
theorem nextC_le {C : List Int} {d : Int} (hr : ∀ c ∈ C, 0 ≤ c ∧ c < 86400) : nextC C d ≤ 86400 := by
  unfold nextC
  split
  · next c h => have := hr c (List.mem_of_find?_eq_some h); omega
  · exact Int.le_refl _
theorem find_least {C : List Int} (hs : C.Pairwise (· < ·)) {p : Int → Bool} {c : Int} (h : C.find? p = some c) : ∀ x ∈ C, p x = true → c ≤ x := by
  induction C with
  | nil => simp at h
  | cons a C ih =>
    rw [List.pairwise_cons] at hs
    rw [List.find?_cons] at h
    cases hp : p a with
    | true =>
      rw [hp] at h
      obtain rfl : a = c := by simpa using h
      intro x hx _
      rcases List.mem_cons.1 hx with rfl | hx
      · exact Int.le_refl _
      · exact Int.le_of_lt (hs.1 x hx)
    | false =>
      rw [hp] at h
      intro x hx hpx
      rcases List.mem_cons.1 hx with rfl | hx
      · rw [hp] at hpx; cases hpx
      · exact ih hs.2 h x hx hpx
/-- no change lies between a second of the day and the next change -/
theorem nextC_none {C : List Int} (hs : C.Pairwise (· < ·)) {d : Int} : ∀ x ∈ C, d < x → nextC C d ≤ x := by
  intro x hx hd
  unfold nextC
  split
  · next c h => exact find_least hs h x hx (by simpa using hd)
  · next h => rw [List.find?_eq_none] at h; exact absurd hd (by simpa using h x hx)
theorem hits_same {l : List Rate} {C : List Int} (hC : Cuts l C) {base : Int} (hl : ∀ r ∈ l, Ok r) {s : Int} (h0 : 0 ≤ s) {k : Int} (hk0 : 0 ≤ k) (hk : s % 86400 + k < nextC C (s % 86400)) : rated base l (s + k) = rated base l s := by
  have hle := nextC_le (d := s % 86400) hC.rg
  have hd : (s + k) / 86400 = s / 86400 := by omega
  have hm : (s + k) % 86400 = s % 86400 + k := by omega
  have key : ∀ r ∈ l, hits (s + k) r = hits s r := by
    intro r hr
    have ho := hl r hr
    have n1 := nextC_none hC.so (d := s % 86400) _ (hC.los r hr)
    have n2 := nextC_none hC.so (d := s % 86400) _ (hC.his r hr)
    unfold hits
    rw [hd, hm]
    congr 1
    rw [Bool.eq_iff_iff, within_iff, within_iff]
    obtain ⟨d1, d2, l0, lh, h1, p0, p1⟩ := ho
    rcases (show r.hi < 86400 ∨ r.hi = 86400 by omega) with h | h
    · have : r.hi % 86400 = r.hi := by omega
      rw [this] at n2
      constructor <;> rintro ⟨a, b⟩ <;> constructor <;> omega
    · constructor <;> rintro ⟨a, b⟩ <;> constructor <;> omega
  unfold rated
  have : l.find? (hits (s + k)) = l.find? (hits s) := by
    clear hl hC
    induction l with
    | nil => rfl
    | cons r l ih =>
      rw [List.find?_cons, List.find?_cons, key r (by simp), ih (fun x hx => key x (by simp [hx]))]
  rw [this]
/-- where the piece that begins at a second ends -/
def stop (C : List Int) (off a b : Int) : Int := min (a + nextC C (sec off a % 86400) - sec off a % 86400) b
theorem stop_gt {C : List Int} {off a b : Int} (h : a < b) : a < stop C off a b := by
  have h1 := nextC_gt (C := C) (d := sec off a % 86400) (by omega)
  unfold stop; omega
theorem stop_le {C : List Int} {off a b : Int} : stop C off a b ≤ b := by unfold stop; omega
theorem price_piece {l : List Rate} {C : List Int} (hC : Cuts l C) {base : Int} (hl : ∀ r ∈ l, Ok r) {off a b t : Int} (h1 : a ≤ t) (h2 : t < stop C off a b) : price base l off t = price base l off a := by
  have hle := nextC_le (d := sec off a % 86400) hC.rg
  have hs := sec_lt off a
  obtain ⟨k, rfl⟩ : ∃ k, t = a + k := ⟨t - a, by omega⟩
  have hk : sec off a % 86400 + k < nextC C (sec off a % 86400) := by unfold stop at h2; omega
  unfold price
  rw [← hits_same hC hl hs.1 (by omega) hk]
  congr 1
  unfold sec at *
  omega
/-- the pieces of a spell: each from where, to where, at which price -/
structure Pc where
  lo : Int
  hi : Int
  price : Int
def pieces (base : Int) (l : List Rate) (C : List Int) (off : Int) : Nat → Int → Int → List Pc
  | 0, _, _ => []
  | n + 1, a, b => if a < b then ⟨a, stop C off a b, price base l off a⟩ :: pieces base l C off n (stop C off a b) b else []
def worth (L : List Pc) : Int := L.foldl (fun n p => n + p.price * (p.hi - p.lo)) 0
theorem foldl_worth (L : List Pc) (n : Int) : L.foldl (fun n p => n + p.price * (p.hi - p.lo)) n = n + worth L := by
  unfold worth
  induction L generalizing n with
  | nil => simp
  | cons p L ih => rw [List.foldl_cons, List.foldl_cons, ih, ih (0 + _)]; omega
theorem pieces_worth {l : List Rate} {C : List Int} (hC : Cuts l C) {base : Int} (hl : ∀ r ∈ l, Ok r) {off : Int} : ∀ (n : Nat) (a b : Int), a ≤ b → b - a ≤ n → worth (pieces base l C off n a b) = sumF (price base l off) a b
  | 0, a, b, h1, h2 => by
    obtain rfl : a = b := by omega
    rw [sumF_self]; rfl
  | n + 1, a, b, h1, h2 => by
    rw [pieces]
    split
    · next h =>
      have g := stop_gt (C := C) (off := off) h
      have g2 := stop_le (C := C) (off := off) (a := a) (b := b)
      have ih := pieces_worth hC (base := base) hl (off := off) n (stop C off a b) b g2 (by omega)
      rw [worth, List.foldl_cons, foldl_worth, ih, sumF_add _ (Int.le_of_lt g) g2]
      rw [sumF_const (Int.le_of_lt g) fun t ht1 ht2 => price_piece hC hl ht1 ht2]
      simp
    · next h =>
      obtain rfl : a = b := by omega
      rw [sumF_self]; rfl
/-! ### the cheapest window -/
theorem piece_start {l : List Rate} {C : List Int} (hC : Cuts l C) {base : Int} (hl : ∀ r ∈ l, Ok r) {off : Int} : ∀ (n : Nat) (a b t : Int), a < t → t < b → b - a ≤ n → (∀ p ∈ pieces base l C off n a b, p.lo ≠ t) → price base l off (t - 1) = price base l off t
  | 0, a, b, t, h1, h2, h3, _ => by omega
  | n + 1, a, b, t, h1, h2, h3, h => by
    have hab : a < b := by omega
    have g := stop_gt (C := C) (off := off) hab
    rw [pieces, if_pos hab] at h
    rcases Int.lt_trichotomy t (stop C off a b) with hs | hs | hs
    · rw [price_piece hC hl (b := b) (a := a) (t := t - 1) (by omega) (by omega), price_piece hC hl (b := b) (a := a) (t := t) (by omega) hs]
    · subst hs
      cases n with
      | zero => omega
      | succ n =>
        have := h ⟨stop C off a b, stop C off (stop C off a b) b, price base l off (stop C off a b)⟩ (by rw [pieces, if_pos h2]; simp)
        simp at this
    · exact piece_start hC hl n (stop C off a b) b t hs h2 (by omega) (fun p hp => h p (by simp [hp]))
section
variable {W : Int → Int} {T : Int → Prop} {A B : Int} (hA : T A) (hB : T B) (hlin : ∀ t, A < t → t < B → ¬ T t → W (t + 1) - W t = W t - W (t - 1))
include hA hB hlin
theorem go_left : ∀ (k : Nat) (t : Int), t - A ≤ k → A ≤ t → t ≤ B → (T t ∨ W (t - 1) ≤ W t) → ∃ u, T u ∧ A ≤ u ∧ u ≤ t ∧ W u ≤ W t
  | k, t, hk, h1, h2, h => by
    by_cases hT : T t
    · exact ⟨t, hT, h1, Int.le_refl _, Int.le_refl _⟩
    · have hd : W (t - 1) ≤ W t := h.resolve_left hT
      have hne : t ≠ A := fun e => hT (e ▸ hA)
      have hne2 : t ≠ B := fun e => hT (e ▸ hB)
      cases k with
      | zero => omega
      | succ k =>
        by_cases hT1 : T (t - 1)
        · exact ⟨t - 1, hT1, by omega, by omega, hd⟩
        · have hne3 : t - 1 ≠ A := fun e => hT1 (e ▸ hA)
          have hl := hlin (t - 1) (by omega) (by omega) hT1
          rw [show t - 1 + 1 = t by omega] at hl
          obtain ⟨u, a, b, c, d⟩ := go_left k (t - 1) (by omega) (by omega) (by omega) (.inr (by omega))
          exact ⟨u, a, b, by omega, by omega⟩
theorem go_right : ∀ (k : Nat) (t : Int), B - t ≤ k → A ≤ t → t ≤ B → (T t ∨ W t < W (t - 1)) → ∃ u, T u ∧ t ≤ u ∧ u ≤ B ∧ W u ≤ W t
  | k, t, hk, h1, h2, h => by
    by_cases hT : T t
    · exact ⟨t, hT, Int.le_refl _, h2, Int.le_refl _⟩
    · have hd : W t < W (t - 1) := h.resolve_left hT
      have hne : t ≠ A := fun e => hT (e ▸ hA)
      have hne2 : t ≠ B := fun e => hT (e ▸ hB)
      cases k with
      | zero => omega
      | succ k =>
        have hl := hlin t (by omega) (by omega) hT
        obtain ⟨u, a, b, c, d⟩ := go_right k (t + 1) (by omega) (by omega) (by omega) (.inr (by rw [show t + 1 - 1 = t by omega]; omega))
        exact ⟨u, a, by omega, c, by omega⟩
theorem reach (t : Int) (h1 : A ≤ t) (h2 : t ≤ B) : ∃ u, T u ∧ A ≤ u ∧ u ≤ B ∧ (W u < W t ∨ (W u = W t ∧ u ≤ t)) := by
  by_cases hT : T t
  · exact ⟨t, hT, h1, h2, .inr ⟨rfl, Int.le_refl _⟩⟩
  · rcases Int.lt_or_le (W t) (W (t - 1)) with hd | hd
    · have hne : t ≠ A := fun e => hT (e ▸ hA)
      have hne2 : t ≠ B := fun e => hT (e ▸ hB)
      have hl := hlin t (by omega) (by omega) hT
      obtain ⟨u, a, b, c, d⟩ := go_right hA hB hlin (B - (t + 1)).toNat (t + 1) (by omega) (by omega) (by omega) (.inr (by rw [show t + 1 - 1 = t by omega]; omega))
      exact ⟨u, a, by omega, c, .inl (by omega)⟩
    · obtain ⟨u, a, b, c, d⟩ := go_left hA hB hlin (t - A).toNat t (by omega) h1 h2 (.inr hd)
      exact ⟨u, a, b, by omega, by omega⟩
end
/-- one try -/
def tryS (W : Int → Int) (A B : Int) (s : Int × Int) (t : Int) : Int × Int := if within t A B then (if W t < s.2 ∨ (W t = s.2 ∧ t < s.1) then (t, W t) else s) else s
structure Tried (W : Int → Int) (A B : Int) (T : Int → Prop) (s : Int × Int) : Prop where
  w : s.2 = W s.1
  a : A ≤ s.1
  b : s.1 ≤ B
  le : ∀ u, T u → A ≤ u → u ≤ B → W s.1 < W u ∨ (W s.1 = W u ∧ s.1 ≤ u)
theorem Tried.step {W : Int → Int} {A B : Int} {T : Int → Prop} {s : Int × Int} (h : Tried W A B T s) (t : Int) : Tried W A B (fun u => T u ∨ u = t) (tryS W A B s t) := by
  unfold tryS
  obtain ⟨hw, ha, hb, hle⟩ := h
  split
  · next hin =>
    obtain ⟨i1, i2⟩ := within_iff.1 hin
    split
    · next hlt =>
      refine ⟨rfl, i1, i2, fun u hu h1 h2 => ?_⟩
      rcases hu with hu | rfl
      · have := hle u hu h1 h2
        simp only
        omega
      · exact .inr ⟨rfl, Int.le_refl _⟩
    · next hge =>
      refine ⟨hw, ha, hb, fun u hu h1 h2 => ?_⟩
      rcases hu with hu | rfl
      · exact hle u hu h1 h2
      · omega
  · next hin =>
    refine ⟨hw, ha, hb, fun u hu h1 h2 => ?_⟩
    rcases hu with hu | rfl
    · exact hle u hu h1 h2
    · exact absurd (within_iff.2 ⟨h1, h2⟩) hin
theorem Tried.all {W : Int → Int} {A B : Int} : ∀ (L : List Int) {T : Int → Prop} {s : Int × Int}, Tried W A B T s → Tried W A B (fun u => T u ∨ u ∈ L) (L.foldl (tryS W A B) s)
  | [], T, s, h => ⟨h.w, h.a, h.b, fun u hu h1 h2 => h.le u (by simpa using hu) h1 h2⟩
  | t :: L, T, s, h => by
    have := Tried.all L (h.step t)
    exact ⟨this.w, this.a, this.b, fun u hu h1 h2 => this.le u (by rcases hu with h | h; exact .inl (.inl h); rcases List.mem_cons.1 h with h | h; exact .inl (.inr h); exact .inr h) h1 h2⟩
/-- the sum of the window of length n that begins at t -/
def win (f : Int → Int) (n : Int) (t : Int) : Int := sumF f t (t + n)
theorem win_step (f : Int → Int) {n t : Int} (hn : 0 ≤ n) : win f n (t + 1) - win f n t = f (t + n) - f t := by
  have h1 := sumF_add f (show t ≤ t + 1 by omega) (show t + 1 ≤ t + 1 + n by omega)
  have h2 := sumF_add f (show t ≤ t + n by omega) (show t + n ≤ t + 1 + n by omega)
  have e1 : sumF f t (t + 1) = f t := by simp [sumF, sumN, show t + 1 - t = 1 by omega]
  have e2 : sumF f (t + n) (t + 1 + n) = f (t + n) := by simp [sumF, sumN, show t + 1 + n - (t + n) = 1 by omega]
  unfold win
  omega
/-- what is tried: the beginnings of pieces, those less the length, and the last beginning -/
def tries (L : List Pc) (n last : Int) : List Int := L.flatMap (fun p => [p.lo, p.lo - n]) ++ [last]
def cheapest (base : Int) (l : List Rate) (C : List Int) (off a b n : Int) : Int × Int :=
  (tries (pieces base l C off (b - a).toNat a b) n (b - n)).foldl (tryS (win (price base l off) n) a (b - n)) (a, win (price base l off) n a)
theorem cheapest_least {l : List Rate} {C : List Int} (hC : Cuts l C) {base : Int} (hl : ∀ r ∈ l, Ok r) {off a b n : Int} (hn : 1 ≤ n) (hb : n ≤ b - a) :
    (cheapest base l C off a b n).2 = win (price base l off) n (cheapest base l C off a b n).1 ∧ a ≤ (cheapest base l C off a b n).1 ∧ (cheapest base l C off a b n).1 ≤ b - n ∧
      ∀ t, a ≤ t → t ≤ b - n → win (price base l off) n (cheapest base l C off a b n).1 < win (price base l off) n t ∨ (win (price base l off) n (cheapest base l C off a b n).1 = win (price base l off) n t ∧ (cheapest base l C off a b n).1 ≤ t) := by
  have h0 : Tried (win (price base l off) n) a (b - n) (fun u => u = a) (a, win (price base l off) n a) := ⟨rfl, Int.le_refl _, by simp only; omega, fun u hu _ _ => by subst hu; exact .inr ⟨rfl, Int.le_refl _⟩⟩
  have h1 := Tried.all (tries (pieces base l C off (b - a).toNat a b) n (b - n)) h0
  obtain ⟨e1, e2, e3, e4⟩ := h1
  refine ⟨e1, e2, e3, fun t ht1 ht2 => ?_⟩
  obtain ⟨u, hu, u1, u2, hlt⟩ := reach (W := win (price base l off) n) (T := fun u => u = a ∨ u ∈ tries (pieces base l C off (b - a).toNat a b) n (b - n)) (A := a) (B := b - n) (.inl rfl) (.inr (by simp [tries])) (fun t h1 h2 hnot => by
    have hp : ∀ p ∈ pieces base l C off (b - a).toNat a b, p.lo ≠ t ∧ p.lo ≠ t + n := fun p hp => ⟨fun e => hnot (.inr (by unfold tries; rw [List.mem_append, List.mem_flatMap]; exact .inl ⟨p, hp, by simp [e]⟩)), fun e => hnot (.inr (by unfold tries; rw [List.mem_append, List.mem_flatMap]; exact .inl ⟨p, hp, by rw [e]; simp⟩))⟩
    have q1 := piece_start hC (base := base) hl (off := off) (b - a).toNat a b t h1 (by omega) (by omega) (fun p h => (hp p h).1)
    have q2 := piece_start hC (base := base) hl (off := off) (b - a).toNat a b (t + n) (by omega) (by omega) (by omega) (fun p h => (hp p h).2)
    have s1 := win_step (price base l off) (n := n) (t := t) (by omega)
    have s2 := win_step (price base l off) (n := n) (t := t - 1) (by omega)
    rw [show t - 1 + 1 = t by omega, show t - 1 + n = t + n - 1 by omega] at s2
    omega) t ht1 ht2
  have := e4 u hu u1 u2
  unfold cheapest
  omega
/-! ### splits -/
def push (out : List Pc) (p : Pc) : List Pc := match out.getLast? with
  | some q => if q.price = p.price then out.dropLast ++ [⟨q.lo, p.hi, q.price⟩] else out ++ [p]
  | none => [p]
def splits (L : List Pc) : List Pc := L.foldl push []
/-- pieces that follow each other -/
def Chain (f : Int → Int) : Int → List Pc → Int → Prop
  | a, [], b => a = b
  | a, p :: L, b => p.lo = a ∧ a < p.hi ∧ (∀ t, a ≤ t → t < p.hi → f t = p.price) ∧ Chain f p.hi L b
theorem Chain.snoc {f : Int → Int} {p : Pc} {b c : Int} : ∀ {L : List Pc} {a : Int}, Chain f a L b → p.lo = b → b < p.hi → (∀ t, b ≤ t → t < p.hi → f t = p.price) → c = p.hi → Chain f a (L ++ [p]) c
  | [], a, h, h1, h2, h3, h4 => by
    have h : a = b := h
    subst h; subst h4
    exact ⟨h1, h2, h3, rfl⟩
  | q :: L, a, ⟨e1, e2, e3, e4⟩, h1, h2, h3, h4 => ⟨e1, e2, e3, e4.snoc h1 h2 h3 h4⟩
theorem pieces_chain {l : List Rate} {C : List Int} (hC : Cuts l C) {base : Int} (hl : ∀ r ∈ l, Ok r) {off : Int} : ∀ (n : Nat) (a b : Int), a ≤ b → b - a ≤ n → Chain (price base l off) a (pieces base l C off n a b) b
  | 0, a, b, h1, h2 => by
    have : a = b := by omega
    exact this
  | n + 1, a, b, h1, h2 => by
    rw [pieces]
    split
    · next h =>
      have g := stop_gt (C := C) (off := off) h
      have g2 := stop_le (C := C) (off := off) (a := a) (b := b)
      exact ⟨rfl, g, fun t h1 h2 => price_piece hC hl h1 h2, pieces_chain hC hl n _ b g2 (by simp only; omega)⟩
    · next h =>
      have : a = b := by omega
      exact this
theorem Chain.le {f : Int → Int} : ∀ {L : List Pc} {a b : Int}, Chain f a L b → a ≤ b
  | [], a, b, h => by have h : a = b := h; omega
  | p :: L, a, b, ⟨h1, h2, h3, h4⟩ => by have := h4.le; omega
theorem Chain.worth {f : Int → Int} : ∀ {L : List Pc} {a b : Int}, Chain f a L b → worth L = sumF f a b
  | [], a, b, h => by have h : a = b := h; subst h; rw [sumF_self]; rfl
  | p :: L, a, b, ⟨h1, h2, h3, h4⟩ => by
    rw [Tp.worth, List.foldl_cons, foldl_worth, h4.worth, sumF_add f (Int.le_of_lt h2) h4.le, sumF_const (Int.le_of_lt h2) h3, h1]
    simp
/-- no two prices that follow each other are equal -/
def Alt : List Int → Prop
  | [] => True
  | [_] => True
  | x :: y :: L => x ≠ y ∧ Alt (y :: L)
theorem Alt.tail {x : Int} {L : List Int} (h : Alt (x :: L)) : Alt L := by
  cases L with
  | nil => trivial
  | cons y L => exact h.2
theorem Alt.snoc {y : Int} : ∀ {L : List Int} {x : Int}, Alt (L ++ [x]) → x ≠ y → Alt (L ++ [x] ++ [y])
  | [], x, _, h => ⟨h, trivial⟩
  | [z], x, h1, h => ⟨h1.1, h, trivial⟩
  | z :: u :: L, x, h1, h => ⟨h1.1, Alt.snoc (L := u :: L) h1.2 h⟩
theorem Chain.app {f : Int → Int} : ∀ {L : List Pc} {M : List Pc} {a b : Int}, Chain f a (L ++ M) b → ∃ c, Chain f a L c ∧ Chain f c M b
  | [], M, a, b, h => ⟨a, rfl, h⟩
  | p :: L, M, a, b, ⟨h1, h2, h3, h4⟩ => by
    obtain ⟨c, c1, c2⟩ := h4.app
    exact ⟨c, ⟨h1, h2, h3, c1⟩, c2⟩
theorem push_snoc (L : List Pc) (q p : Pc) : push (L ++ [q]) p = if q.price = p.price then L ++ [⟨q.lo, p.hi, q.price⟩] else L ++ [q] ++ [p] := by
  unfold push
  simp
theorem push_good {f : Int → Int} {out : List Pc} {a b : Int} {p : Pc} (h : Chain f a out b) (ha : Alt (out.map (·.price))) (h1 : p.lo = b) (h2 : b < p.hi) (h3 : ∀ t, b ≤ t → t < p.hi → f t = p.price) :
    Chain f a (push out p) p.hi ∧ Alt ((push out p).map (·.price)) := by
  rcases List.eq_nil_or_concat out with rfl | ⟨L, q, hq⟩
  · have e : a = b := h
    subst e
    exact ⟨⟨h1, h2, h3, rfl⟩, trivial⟩
  · obtain rfl : out = L ++ [q] := by simpa using hq
    rw [push_snoc]
    split
    · next he =>
      obtain ⟨c, c1, c2⟩ := h.app
      obtain ⟨d1, d2, d3, d4⟩ := c2
      have d4 : q.hi = b := d4
      refine ⟨Chain.snoc c1 d1 (by simp only; omega) (fun t t1 t2 => ?_) rfl, by simpa using ha⟩
      simp only at *
      rcases Int.lt_or_le t q.hi with hl | hl
      · exact d3 t t1 hl
      · rw [he]; exact h3 t (by omega) t2
    · next he =>
      refine ⟨h.snoc h1 h2 h3 rfl, ?_⟩
      rw [List.map_append, List.map_append] at *
      exact Alt.snoc ha he
theorem splits_aux {f : Int → Int} : ∀ {L : List Pc} {out : List Pc} {a b c : Int}, Chain f a out b → Alt (out.map (·.price)) → Chain f b L c → Chain f a (L.foldl push out) c ∧ Alt ((L.foldl push out).map (·.price))
  | [], out, a, b, c, h, ha, hL => by
    have e : b = c := hL
    subst e
    exact ⟨h, ha⟩
  | p :: L, out, a, b, c, h, ha, ⟨h1, h2, h3, h4⟩ => by
    have := push_good h ha h1 h2 h3
    rw [List.foldl_cons]
    exact splits_aux this.1 this.2 h4
theorem splits_good {f : Int → Int} {L : List Pc} {a b : Int} (h : Chain f a L b) : Chain f a (splits L) b ∧ Alt ((splits L).map (·.price)) :=
  splits_aux (out := []) (f := f) (a := a) (b := a) rfl trivial h
theorem Pc.eq {p q : Pc} (h1 : p.lo = q.lo) (h2 : p.hi = q.hi) (h3 : p.price = q.price) : p = q := by
  cases p; cases q; simp_all
/-- there is one way alone to divide a spell so -/
theorem chain_unique {f : Int → Int} : ∀ {L M : List Pc} {a b : Int}, Chain f a L b → Chain f a M b → Alt (L.map (·.price)) → Alt (M.map (·.price)) → L = M
  | [], [], _, _, _, _, _, _ => rfl
  | [], q :: M, a, b, h, ⟨h1, h2, h3, h4⟩, _, _ => by
    have e : a = b := h
    have := h4.le
    omega
  | p :: L, [], a, b, ⟨h1, h2, h3, h4⟩, h, _, _ => by
    have e : a = b := h
    have := h4.le
    omega
  | p :: L, q :: M, a, b, ⟨h1, h2, h3, h4⟩, ⟨g1, g2, g3, g4⟩, aL, aM => by
    have ep : p.price = q.price := by rw [← h3 a (Int.le_refl _) h2, ← g3 a (Int.le_refl _) g2]
    have eh : p.hi = q.hi := by
      rcases Int.lt_trichotomy p.hi q.hi with hl | hl | hl
      · cases L with
        | nil =>
          have e : p.hi = b := h4
          have := g4.le
          omega
        | cons r L =>
          obtain ⟨r1, r2, r3, r4⟩ := h4
          have := r3 p.hi (Int.le_refl _) r2
          rw [g3 p.hi (by omega) hl, ← ep] at this
          exact absurd this aL.1
      · exact hl
      · cases M with
        | nil =>
          have e : q.hi = b := g4
          have := h4.le
          omega
        | cons r M =>
          obtain ⟨r1, r2, r3, r4⟩ := g4
          have := r3 q.hi (Int.le_refl _) r2
          rw [h3 q.hi (by omega) hl, ep] at this
          exact absurd this aM.1
    obtain rfl : p = q := Pc.eq (by omega) eh ep
    rw [chain_unique h4 g4 aL.tail aM.tail]
/-- where the price changes, a day begins, or a rate begins or ends -/
theorem change_at {base : Int} {l : List Rate} (hl : ∀ r ∈ l, Ok r) {off t : Int} (h : price base l off (t - 1) ≠ price base l off t) :
    (t + off + 604800) % 86400 = 0 ∨ ∃ r ∈ l, (t + off + 604800) % 86400 = r.lo ∨ (t + off + 604800) % 86400 = r.hi := by
  by_cases h0 : (t + off + 604800) % 86400 = 0
  · exact .inl h0
  · right
    apply Classical.byContradiction
    intro hno
    replace hno : ∀ r ∈ l, (t + off + 604800) % 86400 ≠ r.lo ∧ (t + off + 604800) % 86400 ≠ r.hi := fun r hr => ⟨fun e => hno ⟨r, hr, .inl e⟩, fun e => hno ⟨r, hr, .inr e⟩⟩
    apply h
    unfold price rated
    have key : ∀ r ∈ l, hits (sec off (t - 1)) r = hits (sec off t) r := by
      intro r hr
      have hn := hno r hr
      unfold hits
      have e1 : sec off (t - 1) / 86400 = sec off t / 86400 := by unfold sec; omega
      have e2 : sec off (t - 1) % 86400 = sec off t % 86400 - 1 := by unfold sec; omega
      have e3 : sec off t % 86400 = (t + off + 604800) % 86400 := by unfold sec; omega
      rw [e1, e2, e3]
      congr 1
      rw [Bool.eq_iff_iff, within_iff, within_iff]
      omega
    have : l.find? (hits (sec off (t - 1))) = l.find? (hits (sec off t)) := by
      clear hl h hno
      induction l with
      | nil => rfl
      | cons r l ih => rw [List.find?_cons, List.find?_cons, key r (by simp), ih (fun x hx => key x (by simp [hx]))]
    rw [this]
/-! ### midnights -/
def mids : Nat → Int → Int → List Int
  | 0, _, _ => []
  | n + 1, t, b => if t < b then t :: mids n (t + 86400) b else []
def first (off a : Int) : Int := a + (86400 - sec off a % 86400) % 86400
theorem first_is (off a : Int) : (first off a + off + 604800) % 86400 = 0 ∧ a ≤ first off a ∧ first off a < a + 86400 := by
  unfold first sec; omega
theorem mids_get : ∀ (n : Nat) (t b : Int) (i : Nat) (x : Int), (mids n t b)[i]? = some x → x = t + 86400 * i ∧ x < b
  | 0, t, b, i, x, h => by simp [mids] at h
  | n + 1, t, b, i, x, h => by
    rw [mids] at h
    split at h
    · next hl =>
      cases i with
      | zero => simp at h; subst h; simp [hl]
      | succ i =>
        rw [List.getElem?_cons_succ] at h
        have := mids_get n _ _ i x h
        rw [Int.natCast_add]
        omega
    · simp at h
theorem mids_len : ∀ (n : Nat) (t b : Int), b - t ≤ 86400 * n → ((mids n t b).length : Int) = if t < b then (b - t + 86399) / 86400 else 0
  | 0, t, b, h => by
    have : ¬ t < b := by omega
    simp [mids, this]
  | n + 1, t, b, h => by
    rw [mids]
    split
    · next hl =>
      rw [List.length_cons, Int.natCast_add, mids_len n _ _ (by omega)]
      split <;> omega
    · simp
end Tp
namespace Tp
set_option linter.unusedVariables false
def rawC (l : List Rate) : List Int := 0 :: l.flatMap fun r => [r.lo, r.hi % 86400]
def cutsOf (l : List Rate) : List Int := Go.Lib.compact ((rawC l).mergeSort fun x y => decide (x ≤ y))
theorem get_sorted {zs : List Int} (h : zs.Pairwise (· ≤ ·)) {i j : Nat} (hij : i ≤ j) (hj : j < zs.length) : zs.toArray[i]! ≤ zs.toArray[j]! := by
  rw [getElem!_pos zs.toArray i (by simp; omega), getElem!_pos zs.toArray j (by simpa using hj)]
  simp only [List.getElem_toArray]
  rcases Nat.lt_or_ge i j with h1 | h1
  · exact List.pairwise_iff_getElem.1 h i j (by omega) hj h1
  · obtain rfl : i = j := by omega
    exact Int.le_refl _
theorem compact_mem {zs : List Int} {x : Int} : x ∈ Go.Lib.compact zs ↔ x ∈ zs := by
  unfold Go.Lib.compact Go.Lib.compactUpTo
  simp only [List.mem_map, List.mem_filter, List.mem_range]
  constructor
  · rintro ⟨i, ⟨hi, -⟩, rfl⟩
    rw [getElem!_pos zs.toArray i (by simpa using hi)]
    simp
  · intro hx
    obtain ⟨i, hi, rfl⟩ := List.mem_iff_getElem.1 hx
    have key : ∀ (i : Nat) (hi : i < zs.length), ∃ a, (a < zs.length ∧ Go.Lib.keeps zs.toArray a = true) ∧ zs.toArray[a]! = zs[i] := by
      intro i
      induction i with
      | zero =>
        intro hi
        exact ⟨0, ⟨hi, by simp [Go.Lib.keeps]⟩, by rw [getElem!_pos zs.toArray 0 (by simpa using hi)]; simp⟩
      | succ i ih =>
        intro hi
        by_cases he : zs[i + 1] = zs[i]
        · obtain ⟨a, h1, h2⟩ := ih (by omega)
          exact ⟨a, h1, by rw [h2, he]⟩
        · refine ⟨i + 1, ⟨hi, ?_⟩, by rw [getElem!_pos zs.toArray (i + 1) (by simpa using hi)]; simp⟩
          unfold Go.Lib.keeps
          rw [getElem!_pos zs.toArray (i + 1) (by simpa using hi), getElem!_pos zs.toArray (i + 1 - 1) (by simp; omega)]
          simpa using he
    exact key i hi
theorem compact_strict {zs : List Int} (h : zs.Pairwise (· ≤ ·)) : (Go.Lib.compact zs).Pairwise (· < ·) := by
  unfold Go.Lib.compact Go.Lib.compactUpTo
  rw [List.pairwise_map]
  have h1 : ((List.range zs.length).filter (Go.Lib.keeps zs.toArray)).Pairwise (· < ·) := List.Pairwise.filter _ List.pairwise_lt_range
  refine List.Pairwise.imp_of_mem ?_ h1
  intro a b ha hb hab
  rw [List.mem_filter, List.mem_range] at ha hb
  have hk := hb.2
  unfold Go.Lib.keeps at hk
  simp only [decide_eq_true_eq] at hk
  have hne : zs.toArray[b]! ≠ zs.toArray[b - 1]! := by
    rcases hk with h | h
    · omega
    · exact h
  have h2 := get_sorted h (i := a) (j := b - 1) (by omega) (by omega)
  have h3 := get_sorted h (i := b - 1) (j := b) (by omega) hb.1
  omega
theorem sort_sorted (zs : List Int) : (zs.mergeSort fun x y => decide (x ≤ y)).Pairwise (· ≤ ·) := by
  have := List.pairwise_mergeSort (le := fun x y : Int => decide (x ≤ y)) (by intro a b c h1 h2; simp at *; omega) (by intro a b; simp; omega) zs
  exact this.imp fun h => by simpa using h
theorem cuts_of {l : List Rate} (hl : ∀ r ∈ l, Ok r) : Cuts l (cutsOf l) := by
  have hm : ∀ x, x ∈ cutsOf l ↔ x ∈ rawC l := fun x => by
    unfold cutsOf
    rw [compact_mem, List.mem_mergeSort]
  refine ⟨fun r hr => (hm _).2 ?_, fun r hr => (hm _).2 ?_, fun c hc => ?_, compact_strict (sort_sorted _)⟩
  · exact List.mem_cons_of_mem _ (List.mem_flatMap.2 ⟨r, hr, by simp⟩)
  · exact List.mem_cons_of_mem _ (List.mem_flatMap.2 ⟨r, hr, by simp⟩)
  · have := (hm c).1 hc
    rcases List.mem_cons.1 this with rfl | h
    · omega
    · obtain ⟨r, hr, h⟩ := List.mem_flatMap.1 h
      have := hl r hr
      have h1 := this.l0; have h2 := this.lh; have h3 := this.h1
      simp only [List.mem_cons, List.not_mem_nil, or_false] at h
      rcases h with rfl | rfl <;> omega
/-- of an ascending list: the first element that is not less stands behind those that are -/
theorem find_count {C : List Int} (hs : C.Pairwise (· < ·)) (x : Int) : C[C.countP (· < x)]? = C.find? (fun c => decide (x ≤ c)) := by
  induction C with
  | nil => rfl
  | cons a C ih =>
    rw [List.pairwise_cons] at hs
    rw [List.find?_cons]
    by_cases h : a < x
    · have h' : decide (x ≤ a) = false := by simpa using h
      rw [List.countP_cons_of_pos (by simpa using h), h', List.getElem?_cons_succ, ih hs.2]
    · have h' : decide (x ≤ a) = true := by simpa using h
      have h0 : C.countP (· < x) = 0 := List.countP_eq_zero.2 fun y hy => by have := hs.1 y hy; simp; omega
      rw [List.countP_cons_of_neg (by simpa using h), h', h0]
      rfl
theorem nextC_find {C : List Int} (hs : C.Pairwise (· < ·)) (d : Int) : nextC C d = match C[C.countP (· < d + 1)]? with | some c => c | none => 86400 := by
  rw [find_count hs]
  unfold nextC
  have : (fun c : Int => decide (d < c)) = fun c => decide (d + 1 ≤ c) := by
    funext c
    rw [decide_eq_decide]
    omega
  rw [this]
  all_goals (cases C.find? (fun c => decide (d + 1 ≤ c)) <;> rfl)
end Tp
namespace Tp
set_option linter.unusedVariables false
def pick (c n : Int) : Int := (if c < 0 then -(c + 1) else c) % n
theorem pick_lt (c : Int) {n : Int} (h : 0 < n) : 0 ≤ pick c n ∧ pick c n < n := ⟨Int.emod_nonneg _ (by omega), Int.emod_lt_of_pos _ h⟩
structure Y4 where
  a : Int
  b : Int
  c : Int
  d : Int
def mkRate (y : Y4) : Rate :=
  if pick (y.b.tdiv 24) 4 = 3 then ⟨1 + pick y.a 127, pick y.b 86400, pick y.b 86400 + 1 + pick y.c (86400 - pick y.b 86400), pick y.d 1000⟩
  else ⟨1 + pick y.a 127, 3600 * pick y.b 24, min (3600 * pick y.b 24 + 3600 * (1 + pick y.c 24)) 86400, pick y.d 1000⟩
theorem mkRate_ok (y : Y4) : Ok (mkRate y) ∧ (mkRate y).price < 1000 := by
  have a := pick_lt y.a (show (0 : Int) < 127 by decide)
  have d := pick_lt y.d (show (0 : Int) < 1000 by decide)
  unfold mkRate
  split
  · have b := pick_lt y.b (show (0 : Int) < 86400 by decide)
    have c := pick_lt y.c (show 0 < 86400 - pick y.b 86400 by omega)
    refine ⟨⟨?_, ?_, ?_, ?_, ?_, ?_, ?_⟩, ?_⟩ <;> simp only <;> omega
  · have b := pick_lt y.b (show (0 : Int) < 24 by decide)
    have c := pick_lt y.c (show (0 : Int) < 24 by decide)
    refine ⟨⟨?_, ?_, ?_, ?_, ?_, ?_, ?_⟩, ?_⟩ <;> simp only <;> omega
def made (x : List Y4) : List Rate := (x.take 6).map mkRate
theorem made_valid (base : Int) (x : List Y4) : valid (pick base 1000) (made x) = true := by
  have b := pick_lt base (show (0 : Int) < 1000 by decide)
  refine valid_iff.2 ⟨⟨b.1, by omega⟩, ?_, fun r hr => ?_⟩
  · unfold made; rw [List.length_map, List.length_take]; omega
  · obtain ⟨y, -, rfl⟩ := List.mem_map.1 hr
    exact (mkRate_ok y).1
theorem made_price {x : List Y4} {r : Rate} (hr : r ∈ made x) : r.price < 1000 := by
  obtain ⟨y, -, rfl⟩ := List.mem_map.1 hr
  exact (mkRate_ok y).2
def zoned (x : Int) : Int := if pick x 8 = 7 then pick (x.tdiv 8) 100801 - 50400 else 1800 * (pick x 57 - 28)
theorem zoned_in (x : Int) : -50400 ≤ zoned x ∧ zoned x ≤ 50400 := by
  have a := pick_lt (x.tdiv 8) (show (0 : Int) < 100801 by decide)
  have b := pick_lt x (show (0 : Int) < 57 by decide)
  unfold zoned
  split <;> omega
def durLo (a : Int) : Int := max (1800 * pick a 1000 + pick (a.tdiv 1000) 3 - 1) 0
def durHi (a l : Int) : Int := if pick l 4 = 3 then durLo a + pick (l.tdiv 4) 345600 else durLo a + pick (l.tdiv 4) 5000
theorem dur_in (a l : Int) : 0 ≤ durLo a ∧ durLo a ≤ 1798201 ∧ durLo a ≤ durHi a l ∧ durHi a l < durLo a + 345600 := by
  have h1 := pick_lt a (show (0 : Int) < 1000 by decide)
  have h2 := pick_lt (a.tdiv 1000) (show (0 : Int) < 3 by decide)
  have h3 := pick_lt (l.tdiv 4) (show (0 : Int) < 345600 by decide)
  have h4 := pick_lt (l.tdiv 4) (show (0 : Int) < 5000 by decide)
  have h5 : 0 ≤ durLo a ∧ durLo a ≤ 1798201 := by unfold durLo; omega
  refine ⟨h5.1, h5.2, ?_⟩
  unfold durHi
  generalize durLo a = x at *
  split <;> omega
/-- other prices at the same times -/
structure Like (l m : List Rate) (g : Int → Int → Prop) : Prop where
  len : l.length = m.length
  at_ : ∀ (i : Nat) (r q : Rate), l[i]? = some r → m[i]? = some q → r.days = q.days ∧ r.lo = q.lo ∧ r.hi = q.hi ∧ g r.price q.price
theorem Like.rated {g : Int → Int → Prop} {b c : Int} (hb : g b c) (s : Int) : ∀ {l m : List Rate}, Like l m g → g (rated b l s) (rated c m s)
  | [], [], h => hb
  | [], q :: m, h => by have := h.len; simp at this
  | r :: l, [], h => by have := h.len; simp at this
  | r :: l, q :: m, h => by
    obtain ⟨h1, h2, h3, h4⟩ := h.at_ 0 r q rfl rfl
    have hs : hits s r = hits s q := by unfold hits; rw [h1, h2, h3]
    have ht : Like l m g := ⟨by have := h.len; simpa using this, fun i x y hx hy => h.at_ (i + 1) x y hx hy⟩
    have ih := ht.rated hb s
    unfold Tp.rated at ih ⊢
    rw [List.find?_cons, List.find?_cons, hs]
    cases hits s q
    · exact ih
    · exact h4
theorem like_mul {l m : List Rate} {k b : Int} (h : Like l m fun p q => q = k * p) (off a : Int) (n : Nat) : sumN (price (k * b) m off) a n = k * sumN (price b l off) a n := by
  rw [← sumN_mul]
  refine sumN_congr fun i _ => ?_
  exact h.rated (b := b) (c := k * b) rfl _
theorem like_le {l m : List Rate} {b : Int} (h : Like l m fun p q => q ≤ p) (off a : Int) (n : Nat) : sumN (price b m off) a n ≤ sumN (price b l off) a n :=
  sumN_le fun i _ => h.rated (g := fun p q => q ≤ p) (b := b) (c := b) (Int.le_refl _) _
end Tp
namespace Tb
set_option linter.unusedVariables false
/-- how many are less than x -/
def lt (l : List Int) (x : Int) : Nat := l.countP fun y => decide (y < x)
/-- how many are in a window -/
def cw (l : List Int) (s w : Int) : Nat := l.countP fun y => decide (s ≤ y) && decide (y < s + w)
theorem lt_le (l : List Int) (x : Int) : lt l x ≤ l.length := List.countP_le_length
theorem lt_cw (s w : Int) (hw : 0 ≤ w) : ∀ l : List Int, lt l (s + w) = lt l s + cw l s w
  | [] => rfl
  | y :: l => by
    have ih := lt_cw s w hw l
    unfold lt cw at *
    rw [List.countP_cons, List.countP_cons, List.countP_cons, ih]
    by_cases h1 : y < s
    · have a1 : decide (y < s + w) = true := by simp; omega
      have a2 : decide (y < s) = true := by simp; omega
      have a3 : decide (s ≤ y) = false := by simp; omega
      rw [a1, a2, a3]; simp; omega
    · have a2 : decide (y < s) = false := by simp; omega
      have a3 : decide (s ≤ y) = true := by simp; omega
      rw [a2, a3]
      by_cases h2 : y < s + w
      · have a1 : decide (y < s + w) = true := by simp; omega
        rw [a1]; simp; omega
      · have a1 : decide (y < s + w) = false := by simp; omega
        rw [a1]; simp
def So (l : List Int) : Prop := l.Pairwise (· ≤ ·)
/-- the lesser ones lie in front -/
theorem lt_iff : ∀ {l : List Int} (h : So l) (x : Int) (i : Nat) (hi : i < l.length), l[i] < x ↔ i < lt l x
  | y :: l, h, x, i, hi => by
    obtain ⟨h1, h2⟩ := List.pairwise_cons.1 h
    have e : lt (y :: l) x = lt l x + if y < x then 1 else 0 := by
      unfold lt; rw [List.countP_cons]; simp
    by_cases hy : y < x
    · rw [if_pos hy] at e
      cases i with
      | zero => simp only [List.getElem_cons_zero]; omega
      | succ i =>
        have := lt_iff h2 x i (by simpa using hi)
        simp only [List.getElem_cons_succ]; omega
    · rw [if_neg hy] at e
      have h0 : lt l x = 0 := by
        unfold lt
        rw [List.countP_eq_zero]
        intro z hz
        have := h1 z hz
        simp; omega
      have hle : ∀ z ∈ y :: l, ¬ z < x := fun z hz => by
        rcases List.mem_cons.1 hz with rfl | hz
        · exact hy
        · have := h1 z hz; omega
      have := hle _ (List.getElem_mem hi)
      omega
theorem so_le {l : List Int} (h : So l) {i j : Nat} (hij : i ≤ j) (hj : j < l.length) : l[i]'(by omega) ≤ l[j] := by
  rcases Nat.lt_or_ge i j with h1 | h1
  · exact List.pairwise_iff_getElem.1 h i j (by omega) hj h1
  · have : i = j := by omega
    subst this; exact Int.le_refl _
theorem lt_at {l : List Int} (h : So l) {i : Nat} (hi : i < l.length) : lt l l[i] ≤ i := by
  have := (lt_iff h l[i] i hi)
  have : ¬ i < lt l l[i] := fun h1 => by have := this.2 h1; omega
  omega
/-- the first k times have been looked at -/
structure Bw (l : List Int) (w : Int) (k : Nat) (best at_ : Int) : Prop where
  z : k = 0 → best = 0 ∧ at_ = 0
  wh : 0 < k → ∃ (j : Nat) (hj : j < l.length), j < k ∧ l[j] = at_ ∧ (cw l at_ w : Int) = best
  le : ∀ (j : Nat) (hj : j < l.length), j < k → (cw l l[j] w : Int) ≤ best ∧ (l[j] < at_ → (cw l l[j] w : Int) < best)
theorem Bw.start (l : List Int) (w : Int) : Bw l w 0 0 0 := ⟨fun _ => ⟨rfl, rfl⟩, fun h => by omega, fun j hj h => by omega⟩
theorem cw_pos {l : List Int} {w : Int} (hw : 1 ≤ w) {i : Nat} (hi : i < l.length) : 0 < cw l l[i] w := by
  unfold cw
  rw [List.countP_pos_iff]
  exact ⟨l[i], List.getElem_mem hi, by simp; omega⟩
/-- one time more: as the reference counts -/
theorem Bw.next {l : List Int} {w : Int} (hs : So l) (hw : 1 ≤ w) {k : Nat} {best at_ : Int} (h : Bw l w k best at_) (hk : k < l.length) :
    (best < (cw l l[k] w : Int) → Bw l w (k + 1) (cw l l[k] w) l[k]) ∧ (¬ best < (cw l l[k] w : Int) → Bw l w (k + 1) best at_) := by
  constructor
  · intro hb
    refine ⟨fun h => by omega, fun _ => ⟨k, hk, by omega, rfl, rfl⟩, fun j hj hjk => ?_⟩
    rcases Nat.lt_or_ge j k with h1 | h1
    · have := h.le j hj h1; omega
    · have : j = k := by omega
      subst this; omega
  · intro hb
    have hk0 : 0 < k := by
      rcases Nat.eq_zero_or_pos k with h0 | h0
      · have := (h.z h0).1
        have := cw_pos (l := l) hw hk
        omega
      · exact h0
    refine ⟨fun h => by omega, fun _ => ?_, fun j hj hjk => ?_⟩
    · obtain ⟨j, hj, h1, h2, h3⟩ := h.wh hk0
      exact ⟨j, hj, by omega, h2, h3⟩
    · rcases Nat.lt_or_ge j k with h1 | h1
      · exact h.le j hj h1
      · have : j = k := by omega
        subst this
        obtain ⟨m, hm, h1, h2, h3⟩ := h.wh hk0
        have := so_le hs (show m ≤ j by omega) hj
        omega
/-- one time more: as the two ends of the window count -/
theorem Bw.step {l : List Int} {w : Int} (hs : So l) (hw : 1 ≤ w) {k : Nat} {best at_ : Int} (h : Bw l w k best at_) (hk : k < l.length) :
    (best < (lt l (l[k] + w) : Int) - k → Bw l w (k + 1) ((lt l (l[k] + w) : Int) - k) l[k]) ∧ (¬ best < (lt l (l[k] + w) : Int) - k → Bw l w (k + 1) best at_) := by
  have e := lt_cw l[k] w (by omega) l
  have hle := lt_at hs hk
  obtain ⟨n1, n2⟩ := h.next hs hw hk
  by_cases hf : lt l l[k] = k
  · have e2 : (lt l (l[k] + w) : Int) - k = (cw l l[k] w : Int) := by omega
    rw [e2]
    exact ⟨n1, n2⟩
  · -- the same time stands before it
    have hlt : lt l l[k] < k := by omega
    have hj : lt l l[k] < l.length := by omega
    have h1 : ¬ l[lt l l[k]] < l[k] := fun h0 => by have := (lt_iff hs l[k] _ hj).1 h0; omega
    have h2 := so_le hs (show lt l l[k] ≤ k by omega) hk
    have h3 : l[lt l l[k]] = l[k] := by omega
    have h4 := (h.le _ hj hlt).1
    rw [h3] at h4
    exact ⟨fun h0 => by omega, fun _ => n2 (by omega)⟩
theorem Bw.unique {l : List Int} {w : Int} {b1 a1 b2 a2 : Int} (h1 : Bw l w l.length b1 a1) (h2 : Bw l w l.length b2 a2) : b1 = b2 ∧ a1 = a2 := by
  rcases Nat.eq_zero_or_pos l.length with h0 | h0
  · have := h1.z h0; have := h2.z h0; omega
  · obtain ⟨i, hi, i1, i2, i3⟩ := h1.wh h0
    obtain ⟨j, hj, j1, j2, j3⟩ := h2.wh h0
    have p1 := h1.le j hj hj
    have p2 := h2.le i hi hi
    rw [j2, j3] at p1
    rw [i2, i3] at p2
    omega
theorem cw_mono {l : List Int} {s s' w w' : Int} (h : ∀ y ∈ l, s ≤ y → y < s + w → s' ≤ y ∧ y < s' + w') : cw l s w ≤ cw l s' w' := by
  unfold cw
  refine List.countP_mono_left fun y hy h1 => ?_
  simp only [Bool.and_eq_true, decide_eq_true_eq] at *
  exact h y hy h1.1 h1.2
/-- no window has more -/
theorem Bw.all {l : List Int} {w best at_ : Int} (hs : So l) (h : Bw l w l.length best at_) (h0 : 0 < l.length) (s : Int) : (cw l s w : Int) ≤ best := by
  rcases Nat.lt_or_ge (lt l s) l.length with h1 | h1
  · have h2 := (h.le _ h1 h1).1
    have h3 : ¬ l[lt l s] < s := fun h0 => by have := (lt_iff hs s _ h1).1 h0; omega
    have : cw l s w ≤ cw l l[lt l s] w := cw_mono fun y hy y1 y2 => by
      obtain ⟨j, hj, rfl⟩ := List.mem_iff_getElem.1 hy
      have h4 : ¬ j < lt l s := fun h5 => by have := (lt_iff hs s j hj).2 h5; omega
      have := so_le hs (show lt l s ≤ j by omega) hj
      omega
    omega
  · have : cw l s w = 0 := by
      unfold cw
      rw [List.countP_eq_zero]
      intro y hy
      obtain ⟨j, hj, rfl⟩ := List.mem_iff_getElem.1 hy
      have := (lt_iff hs s j hj).2 (by omega)
      simp; omega
    obtain ⟨i, hi, i1, i2, i3⟩ := h.wh h0
    omega
/-- a greater width -/
theorem Bw.wide {l : List Int} {w w' b1 a1 b2 a2 : Int} (hs : So l) (h1 : Bw l w l.length b1 a1) (h2 : Bw l w' l.length b2 a2) (hw : w ≤ w') (h0 : 0 < l.length) : b1 ≤ b2 := by
  obtain ⟨i, hi, i1, i2, i3⟩ := h1.wh h0
  have e1 := h2.all hs h0 a1
  have : cw l a1 w ≤ cw l a1 w' := cw_mono fun y _ _ _ => by omega
  omega
/-- a further time -/
theorem Bw.more {l m : List Int} {w t b1 a1 b2 a2 : Int} (hs : So l) (hm : So m) (h1 : Bw l w l.length b1 a1) (h2 : Bw m w m.length b2 a2) (hlen : m.length = l.length + 1) (h0 : 0 < l.length)
    (hc : ∀ s, cw m s w = cw l s w + if s ≤ t ∧ t < s + w then 1 else 0) : b1 ≤ b2 ∧ b2 ≤ b1 + 1 := by
  obtain ⟨i, hi, i1, i2, i3⟩ := h1.wh h0
  obtain ⟨j, hj, j1, j2, j3⟩ := h2.wh (by omega)
  have e1 := h2.all hm (by omega) a1
  have e2 := h1.all hs h0 a2
  have f1 := hc a1
  have f2 := hc a2
  constructor
  · split at f1 <;> omega
  · split at f2 <;> omega
theorem cw_shift (s w by_ : Int) : ∀ l : List Int, cw (l.map (· + by_)) (s + by_) w = cw l s w
  | [] => rfl
  | y :: l => by
    have ih := cw_shift s w by_ l
    unfold cw at *
    rw [List.map_cons, List.countP_cons, List.countP_cons, ih]
    congr 1
    have e1 : decide (s + by_ ≤ y + by_) = decide (s ≤ y) := by rw [decide_eq_decide]; omega
    have e2 : decide (y + by_ < s + by_ + w) = decide (y < s + w) := by rw [decide_eq_decide]; omega
    rw [e1, e2]
/-- all times are moved -/
theorem Bw.shift {l : List Int} {w best at_ : Int} (by_ : Int) (h : Bw l w l.length best at_) (h0 : 0 < l.length) : Bw (l.map (· + by_)) w (l.map (· + by_)).length best (at_ + by_) := by
  refine ⟨fun h1 => by rw [List.length_map] at h1; omega, fun _ => ?_, fun j hj _ => ?_⟩
  · obtain ⟨i, hi, i1, i2, i3⟩ := h.wh h0
    exact ⟨i, by rw [List.length_map]; exact hi, by rw [List.length_map]; exact hi, by rw [List.getElem_map, i2], by rw [cw_shift]; exact i3⟩
  · have hj' : j < l.length := by rw [List.length_map] at hj; exact hj
    rw [List.getElem_map, cw_shift]
    have := h.le j hj' hj'
    exact ⟨this.1, fun h1 => this.2 (by omega)⟩
theorem So.shift {l : List Int} (by_ : Int) (h : So l) : So (l.map (· + by_)) := by
  unfold So at *
  rw [List.pairwise_map]
  exact h.imp (fun h1 => by omega)
/-- the list with a further time, as it is made: k have been taken, done says whether it is in -/
def ins (t : Int) : List Int → List Int
  | [] => [t]
  | y :: l => if t < y then t :: y :: l else y :: ins t l
theorem ins_len (t : Int) : ∀ l : List Int, (ins t l).length = l.length + 1
  | [] => rfl
  | y :: l => by
    unfold ins
    split
    · rfl
    · rw [List.length_cons, ins_len t l]; rfl
theorem ins_cw (t s w : Int) : ∀ l : List Int, cw (ins t l) s w = cw l s w + if s ≤ t ∧ t < s + w then 1 else 0
  | [] => by
    unfold ins cw
    rw [List.countP_cons]
    simp
  | y :: l => by
    have ih := ins_cw t s w l
    unfold ins
    split
    · unfold cw at *
      rw [List.countP_cons]
      simp
    · unfold cw at *
      rw [List.countP_cons, List.countP_cons, ih]
      omega
theorem ins_mem {t x : Int} : ∀ {l : List Int}, x ∈ ins t l → x = t ∨ x ∈ l
  | [], h => by simpa [ins] using h
  | y :: l, h => by
    unfold ins at h
    split at h
    · simpa using h
    · rcases List.mem_cons.1 h with rfl | h
      · right; simp
      · rcases ins_mem h with h | h
        · exact .inl h
        · right; simp [h]
theorem ins_so {t : Int} : ∀ {l : List Int}, So l → So (ins t l)
  | [], _ => by simp [ins, So]
  | y :: l, h => by
    obtain ⟨h1, h2⟩ := List.pairwise_cons.1 h
    unfold ins
    split
    · next hy =>
      refine List.pairwise_cons.2 ⟨fun z hz => ?_, h⟩
      rcases List.mem_cons.1 hz with rfl | hz
      · omega
      · have := h1 z hz; omega
    · next hy =>
      refine List.pairwise_cons.2 ⟨fun z hz => ?_, ins_so h2⟩
      rcases ins_mem hz with rfl | hz
      · omega
      · exact h1 z hz
end Tb
namespace Tb
set_option linter.unusedVariables false
def stp (y : Int) : Int := if Tp.pick y 8 = 7 then Tp.pick (y.tdiv 8) 1000 else Tp.pick (y.tdiv 8) 12
theorem stp_lt (y : Int) : 0 ≤ stp y ∧ stp y < 1000 := by
  unfold stp
  have h1 := Tp.pick_lt (y.tdiv 8) (show (0 : Int) < 1000 by decide)
  have h2 := Tp.pick_lt (y.tdiv 8) (show (0 : Int) < 12 by decide)
  split <;> omega
/-- the k-th time -/
def tk (x : List Int) : Nat → Int
  | 0 => 0
  | k + 1 => tk x k + stp (x[k]?.getD 0)
theorem tk_bound (x : List Int) : ∀ k : Nat, 0 ≤ tk x k ∧ tk x k ≤ 999 * k
  | 0 => by simp [tk]
  | k + 1 => by
    have h := tk_bound x k
    have h2 := stp_lt (x[k]?.getD 0)
    show 0 ≤ tk x k + _ ∧ tk x k + _ ≤ _
    push_cast
    omega
theorem tk_mono (x : List Int) : ∀ {i j : Nat}, i ≤ j → tk x i ≤ tk x j
  | i, 0, h => by
    have : i = 0 := by omega
    subst this; exact Int.le_refl _
  | i, j + 1, h => by
    rcases Nat.lt_or_ge i (j + 1) with h1 | h1
    · have h2 := stp_lt (x[j]?.getD 0)
      have := tk_mono x (i := i) (j := j) (by omega)
      show _ ≤ tk x j + _
      omega
    · have : i = j + 1 := by omega
      subst this; exact Int.le_refl _
/-- the first k times -/
def tks (x : List Int) (k : Nat) : List Int := (List.range k).map fun i => tk x (i + 1)
theorem tks_succ (x : List Int) (k : Nat) : tks x (k + 1) = tks x k ++ [tk x (k + 1)] := by
  unfold tks
  rw [List.range_succ, List.map_append]; rfl
theorem tks_len (x : List Int) (k : Nat) : (tks x k).length = k := by simp [tks]
theorem tks_so (x : List Int) (k : Nat) : So (tks x k) := by
  unfold So tks
  rw [List.pairwise_map]
  exact List.pairwise_lt_range.imp (fun h => tk_mono x (by omega))
theorem tks_in {x : List Int} {k : Nat} {t : Int} (h : t ∈ tks x k) : 0 ≤ t ∧ t ≤ 999 * k := by
  unfold tks at h
  obtain ⟨i, hi, rfl⟩ := List.mem_map.1 h
  have := tk_bound x (i + 1)
  rw [List.mem_range] at hi
  push_cast at this
  omega
def madeT (x : List Int) : List Int := tks x (min x.length 60)
theorem madeT_ok (x : List Int) : So (madeT x) ∧ (madeT x).length ≤ 60 ∧ ∀ t ∈ madeT x, 0 ≤ t ∧ t ≤ 59940 := by
  refine ⟨tks_so _ _, by unfold madeT; rw [tks_len]; omega, fun t ht => ?_⟩
  have := tks_in ht
  omega
end Tb

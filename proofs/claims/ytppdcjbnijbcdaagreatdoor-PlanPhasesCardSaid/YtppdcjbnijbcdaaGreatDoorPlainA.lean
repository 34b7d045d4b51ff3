/- Plain laws of numbering plans, of no program: how forms begin, what is read, what is written. -/
import Derived.Test.YtppdcjbnijbcdaaGreatDoorReadL
namespace Pl
/-- with what a form begins: o says whether it is the old one -/
def head (o : Bool) (c : Cd) : S := if o then c.old else c.new
def long (o : Bool) (c : Cd) : Int := if o then c.len else 8
def stand (o : Bool) (c : Cd) : S := if o then c.new ++ zeros (8 - c.new.length - room c).toNat else c.new
/-- may a form of this kind be used in the phase? -/
def may (o : Bool) (ph : Int) : Prop := if o then ph ≠ 3 else ph ≠ 1
theorem mem_ents {p : List Cd} {ph : Int} {key : S} {x : Ent} : (key, x) ∈ ents p ph ↔ ∃ (i : Nat) (c : Cd) (o : Bool), p[i]? = some c ∧ may o ph ∧ key = head o c ∧ x = ⟨(i : Int), long o c, stand o c⟩ := by
  unfold ents
  rw [List.mem_flatMap]
  constructor
  · rintro ⟨⟨b, i⟩, h1, h2⟩
    have hb : p[i]? = some b := by
      have := List.mem_zipIdx' h1
      rw [List.getElem?_eq_getElem this.1]; exact congrArg some this.2.symm
    simp only [List.mem_append] at h2
    rcases h2 with h2 | h2
    · split at h2
      · next hp =>
        simp only [List.mem_singleton, Prod.mk.injEq] at h2
        exact ⟨i, b, true, hb, by simpa [may] using hp, h2.1, h2.2⟩
      · simp at h2
    · split at h2
      · next hp =>
        simp only [List.mem_singleton, Prod.mk.injEq] at h2
        exact ⟨i, b, false, hb, by simpa [may] using hp, h2.1, h2.2⟩
      · simp at h2
  · rintro ⟨i, c, o, hc, hm, rfl, rfl⟩
    refine ⟨(c, i), by rw [List.mem_zipIdx_iff_getElem?]; exact hc, ?_⟩
    cases o
    · simp only [may, Bool.false_eq_true, if_false] at hm
      simp [head, long, stand, hm]
    · simp only [may, if_true] at hm
      simp [head, long, stand, hm]
theorem apart_pre {a b : S} (h : apart a b = true) : ¬ a <+: b ∧ ¬ b <+: a := by
  simp only [apart, Bool.and_eq_true, Bool.not_eq_true'] at h
  refine ⟨fun h1 => ?_, fun h1 => ?_⟩
  · rw [List.isPrefixOf_iff_prefix.2 h1] at h; cases h.1
  · rw [List.isPrefixOf_iff_prefix.2 h1] at h; cases h.2
theorem heads_apart {p : List Cd} (hv : valid p = true) {i j : Nat} {c d : Cd} (hi : p[i]? = some c) (hj : p[j]? = some d) {o u : Bool} (h : head o c <+: head u d) : i = j ∧ o = u := by
  have key : ∀ (i j : Nat) (c d : Cd), p[i]? = some c → p[j]? = some d → i < j → ∀ o u, ¬ head o c <+: head u d ∧ ¬ head u d <+: head o c := by
    intro i j c d hi hj hlt o u
    have hm : c ∈ p.take j := List.mem_of_getElem? (by rw [List.getElem?_take, if_pos hlt]; exact hi)
    have hd := valid_differ hv j d hj c hm
    simp only [differ, Bool.and_eq_true] at hd
    obtain ⟨⟨⟨d1, d2⟩, d3⟩, d4⟩ := hd
    cases o <;> cases u
    · exact (apart_pre d2).symm
    · exact (apart_pre d3).symm
    · exact (apart_pre d4).symm
    · exact (apart_pre d1).symm
  rcases Nat.lt_trichotomy i j with hl | hl | hl
  · exact absurd h (key i j c d hi hj hl o u).1
  · subst hl
    rw [hi] at hj
    obtain rfl : c = d := by simpa using hj
    refine ⟨rfl, ?_⟩
    have ha := apart_pre (valid_fine hv (List.mem_of_getElem? hi)).ap
    cases o <;> cases u
    · rfl
    · exact absurd h ha.2
    · exact absurd h ha.1
    · rfl
  · exact absurd h (key j i d c hj hi hl u o).2
theorem heads_same {p : List Cd} (hv : valid p = true) {i j : Nat} {c d : Cd} (hi : p[i]? = some c) (hj : p[j]? = some d) {o u : Bool} {s : S} (h1 : head o c <+: s) (h2 : head u d <+: s) : i = j ∧ o = u ∧ c = d := by
  have h3 : i = j ∧ o = u := by
    rcases Nat.le_total (head o c).length (head u d).length with h | h
    · exact heads_apart hv hi hj (List.prefix_of_prefix_length_le h1 h2 h)
    · have := heads_apart hv hj hi (List.prefix_of_prefix_length_le h2 h1 h)
      exact ⟨this.1.symm, this.2.symm⟩
  obtain ⟨rfl, rfl⟩ := h3
  rw [hi] at hj
  exact ⟨rfl, rfl, by simpa using hj⟩
/-- digits begin like a form of the code i -/
structure Hit (p : List Cd) (ph : Int) (s : S) (i : Nat) (c : Cd) (o : Bool) : Prop where
  at_ : p[i]? = some c
  may_ : may o ph
  pre : head o c <+: s
theorem lookup_head {p : List Cd} (hv : valid p = true) {ph : Int} {i : Nat} {c : Cd} {o : Bool} (hi : p[i]? = some c) (hm : may o ph) : (ents p ph).lookup (head o c) = some ⟨(i : Int), long o c, stand o c⟩ := by
  cases hl : (ents p ph).lookup (head o c) with
  | none =>
    rw [List.lookup_eq_none_iff] at hl
    have := hl _ (mem_ents.2 ⟨i, c, o, hi, hm, rfl, rfl⟩)
    simp at this
  | some x =>
    obtain ⟨j, d, u, hj, _, hk, rfl⟩ := mem_ents.1 (lookup_mem _ _ _ hl)
    obtain ⟨rfl, rfl⟩ := heads_apart hv hi hj (by rw [hk]; exact List.prefix_refl _)
    rw [hi] at hj
    obtain rfl : c = d := by simpa using hj
    rfl
theorem begun_of_hit {p : List Cd} (hv : valid p = true) {ph : Int} {s : S} {i : Nat} {c : Cd} {o : Bool} (h : Hit p ph s i c o) : begun (ents p ph) s = some ((head o c).length, ⟨(i : Int), long o c, stand o c⟩) := by
  obtain ⟨hi, hm, hp⟩ := h
  have ht : s.take (head o c).length = head o c := (List.prefix_iff_eq_take.1 hp).symm
  refine begun_hit hp.length_le (fun j hj => ?_) (by rw [ht]; exact lookup_head hv hi hm)
  refine lookup_none fun x hx => ?_
  obtain ⟨k, d, u, hk, _, he, _⟩ := mem_ents.1 hx
  have h2 : head u d <+: head o c := by
    rw [← he]
    rw [← ht]
    exact List.take_prefix_take_left (Nat.le_of_lt hj)
  obtain ⟨rfl, rfl⟩ := heads_apart hv hk hi h2
  rw [hi] at hk
  obtain rfl : c = d := by simpa using hk
  have : (s.take j).length = (head u c).length := by rw [he]
  simp at this
  omega
theorem begun_of_miss {p : List Cd} {ph : Int} {s : S} (h : ∀ i c o, ¬ Hit p ph s i c o) : begun (ents p ph) s = none := by
  refine begun_none fun j hj => lookup_none fun x hx => ?_
  obtain ⟨k, d, u, hk, hm, he, _⟩ := mem_ents.1 hx
  exact h k d u ⟨hk, hm, by rw [← he]; exact List.take_prefix _ _⟩
/-- the number that digits say, which begin with a form -/
def said (o : Bool) (c : Cd) (s : S) : S := stand o c ++ (s.take (long o c).toNat).drop (head o c).length
structure Okay (p : List Cd) (ph : Int) (s : S) : Prop where
  v : valid p = true
  d : digits s = true
  l : s.length ≤ 16
  ph : isPhase ph = true
theorem read_hit {p : List Cd} {ph : Int} {s : S} (ok : Okay p ph s) {i : Nat} {c : Cd} {o : Bool} (h : Hit p ph s i c o) :
    read p s ph = if (s.length : Int) < long o c then (⟨1, 0, 0, 0⟩, 0) else (⟨2, val (said o c s), (i : Int), long o c⟩, 0) := by
  unfold read
  rw [ok.v, ok.d, ok.ph, decide_eq_true ok.l, begun_of_hit ok.v h]
  rfl
/-- digits with which a form begins -/
def Starts (p : List Cd) (ph : Int) (s : S) : Prop := ∃ (i : Nat) (c : Cd) (o : Bool), p[i]? = some c ∧ may o ph ∧ s <+: head o c
theorem read_miss {p : List Cd} {ph : Int} {s : S} (ok : Okay p ph s) (h : ∀ i c o, ¬ Hit p ph s i c o) :
    (Starts p ph s ∧ read p s ph = (⟨1, 0, 0, 0⟩, 0)) ∨ (¬ Starts p ph s ∧ read p s ph = (⟨0, 0, 0, 0⟩, 0)) := by
  have hany : ((ents p ph).any fun e => s.isPrefixOf e.1) = true ↔ Starts p ph s := by
    rw [List.any_eq_true]
    constructor
    · rintro ⟨⟨key, x⟩, h1, h2⟩
      obtain ⟨i, c, o, hi, hm, rfl, _⟩ := mem_ents.1 h1
      exact ⟨i, c, o, hi, hm, List.isPrefixOf_iff_prefix.1 h2⟩
    · rintro ⟨i, c, o, hi, hm, h2⟩
      exact ⟨_, mem_ents.2 ⟨i, c, o, hi, hm, rfl, rfl⟩, List.isPrefixOf_iff_prefix.2 h2⟩
  have hr : read p s ph = if (ents p ph).any (fun e => s.isPrefixOf e.1) then (⟨1, 0, 0, 0⟩, 0) else (⟨0, 0, 0, 0⟩, 0) := by
    unfold read
    rw [ok.v, ok.d, ok.ph, decide_eq_true ok.l, begun_of_miss h]
    rfl
  by_cases hs : Starts p ph s
  · exact .inl ⟨hs, by rw [hr, if_pos (hany.2 hs)]⟩
  · exact .inr ⟨hs, by rw [hr, if_neg fun h => hs (hany.1 h)]⟩
theorem read_cases {p : List Cd} {ph : Int} {s : S} (ok : Okay p ph s) :
    (∃ i c o, Hit p ph s i c o ∧ (s.length : Int) < long o c ∧ read p s ph = (⟨1, 0, 0, 0⟩, 0)) ∨
    (∃ i c o, Hit p ph s i c o ∧ long o c ≤ s.length ∧ read p s ph = (⟨2, val (said o c s), (i : Int), long o c⟩, 0)) ∨
    ((∀ i c o, ¬ Hit p ph s i c o) ∧ Starts p ph s ∧ read p s ph = (⟨1, 0, 0, 0⟩, 0)) ∨
    ((∀ i c o, ¬ Hit p ph s i c o) ∧ ¬ Starts p ph s ∧ read p s ph = (⟨0, 0, 0, 0⟩, 0)) := by
  by_cases h : ∃ i c o, Hit p ph s i c o
  · obtain ⟨i, c, o, h⟩ := h
    have hr := read_hit ok h
    by_cases hl : (s.length : Int) < long o c
    · exact .inl ⟨i, c, o, h, hl, by rw [hr, if_pos hl]⟩
    · exact .inr (.inl ⟨i, c, o, h, by omega, by rw [hr, if_neg hl]⟩)
  · have h' : ∀ i c o, ¬ Hit p ph s i c o := fun i c o hh => h ⟨i, c, o, hh⟩
    rcases read_miss ok h' with h2 | h2
    · exact .inr (.inr (.inl ⟨h', h2⟩))
    · exact .inr (.inr (.inr ⟨h', h2⟩))
theorem read_zero {p : List Cd} {ph : Int} {s : S} (ok : Okay p ph s) : (read p s ph).2 = 0 ∧ ((read p s ph).1.kind ≠ 2 → (read p s ph).1.number = 0 ∧ (read p s ph).1.code = 0 ∧ (read p s ph).1.used = 0) := by
  rcases read_cases ok with ⟨_, _, _, _, _, h⟩ | ⟨_, _, _, _, _, h⟩ | ⟨_, _, h⟩ | ⟨_, _, h⟩ <;> rw [h] <;> simp
/-! ### numbers and their eight digits -/
theorem foldl_val (s : S) (n : Nat) : s.foldl (fun n c => 10 * n + (c.toNat - 48)) n = n * 10 ^ s.length + val s := by
  unfold val
  induction s generalizing n with
  | nil => simp
  | cons c s ih =>
    rw [List.foldl_cons, ih, List.foldl_cons, ih (10 * 0 + (c.toNat - 48)), List.length_cons, Nat.pow_succ]
    rw [Nat.add_mul, Nat.add_mul, Nat.mul_zero, Nat.zero_mul, Nat.zero_add]
    rw [show 10 * n * 10 ^ s.length = n * (10 ^ s.length * 10) by rw [Nat.mul_comm 10 n, Nat.mul_assoc, Nat.mul_comm 10]]
    omega
theorem val_append (s t : S) : val (s ++ t) = val s * 10 ^ t.length + val t := by
  show (s ++ t).foldl _ 0 = _
  rw [List.foldl_append, foldl_val]
  rfl
theorem val_nil : val [] = 0 := rfl
theorem val_snoc (s : S) (c : UInt8) : val (s ++ [c]) = 10 * val s + (c.toNat - 48) := by
  unfold val; rw [List.foldl_append]; rfl
theorem val_cons (c : UInt8) (s : S) : val (c :: s) = (c.toNat - 48) * 10 ^ s.length + val s := by
  have := val_append [c] s
  simpa [val] using this
theorem val_lt (s : S) (h : digits s = true) : val s < 10 ^ s.length := by
  induction s with
  | nil => simp [val]
  | cons c s ih =>
    have hd := digits_mem h c (by simp)
    have h2 : digits s = true := by
      simp only [digits, List.all_cons, Bool.and_eq_true] at h; exact h.2
    have := ih h2
    rw [val_cons, List.length_cons, Nat.pow_succ]
    have : (c.toNat - 48) * 10 ^ s.length ≤ 9 * 10 ^ s.length := Nat.mul_le_mul_right _ (by omega)
    omega
theorem val_zeros (k : Nat) : val (zeros k) = 0 := by
  induction k with
  | zero => rfl
  | succ k ih =>
    rw [zeros, List.replicate_succ, val_cons]
    rw [zeros] at ih
    rw [ih]; simp
theorem val_inj : ∀ (s t : S), digits s = true → digits t = true → s.length = t.length → val s = val t → s = t
  | [], [], _, _, _, _ => rfl
  | [], _ :: _, _, _, h, _ => by simp at h
  | _ :: _, [], _, _, h, _ => by simp at h
  | c :: s, d :: t, hs, ht, hl, hv => by
    have hc := digits_mem hs c (by simp)
    have hd := digits_mem ht d (by simp)
    have hs2 : digits s = true := by simp only [digits, List.all_cons, Bool.and_eq_true] at hs; exact hs.2
    have ht2 : digits t = true := by simp only [digits, List.all_cons, Bool.and_eq_true] at ht; exact ht.2
    have hl2 : s.length = t.length := by simpa using hl
    have l1 := val_lt s hs2
    have l2 := val_lt t ht2
    rw [val_cons, val_cons, hl2] at hv
    rw [hl2] at l1
    have hpos : 0 < 10 ^ t.length := Nat.pow_pos (by decide)
    have e1 : c.toNat - 48 = d.toNat - 48 := by
      have a1 : ((c.toNat - 48) * 10 ^ t.length + val s) / 10 ^ t.length = c.toNat - 48 := by
        rw [Nat.mul_comm, Nat.mul_add_div hpos, Nat.div_eq_of_lt l1, Nat.add_zero]
      have a2 : ((d.toNat - 48) * 10 ^ t.length + val t) / 10 ^ t.length = d.toNat - 48 := by
        rw [Nat.mul_comm, Nat.mul_add_div hpos, Nat.div_eq_of_lt l2, Nat.add_zero]
      rw [← a1, ← a2, hv]
    have e2 : c = d := by apply UInt8.toNat_inj.1; omega
    subst e2
    have e3 : val s = val t := by omega
    rw [val_inj s t hs2 ht2 hl2 e3]
theorem digitAt_nat (n k : Nat) : (digitAt n k).toNat = 48 + n / 10 ^ (7 - k) % 10 := by
  unfold digitAt
  have h := Nat.mod_lt (n / 10 ^ (7 - k)) (show 0 < 10 by decide)
  generalize n / 10 ^ (7 - k) % 10 = m at *
  rw [UInt8.toNat_add, UInt8.toNat_ofNat']
  simp
  omega
theorem eight_take_val (n k : Nat) (hk : k ≤ 8) (hn : n < 100000000) : val ((eight n).take k) = n / 10 ^ (8 - k) := by
  induction k with
  | zero => simp [val]; omega
  | succ k ih =>
    have hk' : k < (eight n).length := by rw [eight_len]; omega
    rw [take_snoc _ k hk', val_snoc, ih (by omega)]
    have : (eight n)[k] = digitAt n k := by simp [eight]
    rw [this, digitAt_nat]
    have h1 : 8 - k = (7 - k) + 1 := by omega
    rw [h1, Nat.pow_succ, ← Nat.div_div_eq_div_mul, show 8 - (k + 1) = 7 - k by omega]
    omega
theorem val_eight (n : Nat) (hn : n < 100000000) : val (eight n) = n := by
  have := eight_take_val n 8 (Nat.le_refl _) hn
  rw [List.take_of_length_le (by rw [eight_len]; omega)] at this
  simpa using this
theorem digits_eight (n : Nat) : digits (eight n) = true := by
  unfold digits eight
  rw [List.all_map, List.all_eq_true]
  intro k _
  have := digitAt_nat n k
  simp [dig, this]
  omega
theorem eight_val (s : S) (h : digits s = true) (hl : s.length = 8) : eight (val s) = s := by
  have hlt := val_lt s h
  rw [hl] at hlt
  exact val_inj _ _ (digits_eight _) h (by rw [eight_len, hl]) (val_eight _ hlt)
theorem digits_app {a b : S} : digits (a ++ b) = true ↔ digits a = true ∧ digits b = true := by simp [digits]
theorem digits_take {s : S} (h : digits s = true) (k : Nat) : digits (s.take k) = true := by
  have := List.take_append_drop k s
  rw [← this, digits_app] at h; exact h.1
theorem digits_drop {s : S} (h : digits s = true) (k : Nat) : digits (s.drop k) = true := by
  have := List.take_append_drop k s
  rw [← this, digits_app] at h; exact h.2
theorem digits_zeros (k : Nat) : digits (zeros k) = true := by
  unfold digits zeros
  rw [List.all_eq_true]
  intro c hc
  rw [(List.mem_replicate.1 hc).2]
  decide
theorem pre_eight {c : S} {n : Nat} (hc : digits c = true) (hl : c.length ≤ 8) (hn : n < 100000000) : c <+: eight n ↔ val c * 10 ^ (8 - c.length) ≤ n ∧ n < (val c + 1) * 10 ^ (8 - c.length) := by
  have hpos : 0 < 10 ^ (8 - c.length) := Nat.pow_pos (by decide)
  have h1 := eight_take_val n c.length hl hn
  have h2 : c <+: eight n ↔ n / 10 ^ (8 - c.length) = val c := by
    rw [← h1]
    constructor
    · intro h; rw [← List.prefix_iff_eq_take.1 h]
    · intro h
      rw [List.prefix_iff_eq_take]
      exact val_inj _ _ hc (digits_take (digits_eight n) _) (by simp [eight_len]; omega) h.symm
  rw [h2]
  constructor
  · intro h
    rw [← h]
    exact ⟨Nat.div_mul_le_self _ _, by rw [Nat.mul_comm]; exact Nat.lt_mul_div_succ n hpos⟩
  · rintro ⟨a, b⟩
    exact Nat.div_eq_of_lt_le a b
/-! ### forms -/
def cutOf (c : Cd) : Nat := (8 - room c).toNat
/-- the form of a number: the old one, or the new one -/
def form (o : Bool) (c : Cd) (n : Nat) : S := if o then c.old ++ (eight n).drop (cutOf c) else eight n
/-- has a number of the code this form? -/
def Has (o : Bool) (c : Cd) (n : Nat) : Prop := c.new <+: eight n ∧ (o = true → c.new ++ zeros (cutOf c - c.new.length) <+: eight n)
theorem has_cond {c : Cd} {n : Nat} (hf : Fine c) (hp : c.new <+: eight n) : ((eight n).take (cutOf c)).drop c.new.length = zeros (cutOf c - c.new.length) ↔ c.new ++ zeros (cutOf c - c.new.length) <+: eight n := by
  obtain ⟨t, ht⟩ := hp
  have hcut : c.new.length ≤ cutOf c ∧ cutOf c ≤ 8 := by
    have := hf.fit; have := hf.l1; unfold cutOf room at *; omega
  rw [← ht, List.take_append, List.take_of_length_le hcut.1, List.drop_append_of_le_length (Nat.le_refl _), List.drop_length, List.nil_append, List.prefix_append_right_inj]
  rw [List.prefix_iff_eq_take]
  simp only [zeros, List.length_replicate]
  exact eq_comm
theorem write_ok {p : List Cd} (hv : valid p = true) {n ph : Int} (hp : isPhase ph = true) {i : Nat} {c : Cd} (hi : p[i]? = some c) (h0 : 0 ≤ n) (h1 : n ≤ 99999999) (hh : Has (decide (ph = 1)) c n.toNat) :
    write p n ph = (form (decide (ph = 1)) c n.toNat, 0) := by
  unfold write
  have hw : within n 0 99999999 = true := by simp [within]; omega
  rw [hv, hp, hw]
  have hf : p.find? (fun c => c.new.isPrefixOf (eight n.toNat)) = some c := by
    cases hfd : p.find? (fun c => c.new.isPrefixOf (eight n.toNat)) with
    | none =>
      rw [List.find?_eq_none] at hfd
      exact absurd (List.isPrefixOf_iff_prefix.2 hh.1) (by simpa using hfd c (List.mem_of_getElem? hi))
    | some d =>
      have h2 := List.find?_some hfd
      have hm := List.mem_of_find?_eq_some hfd
      obtain ⟨j, hj⟩ := List.mem_iff_getElem?.1 hm
      have := heads_same hv (o := false) (u := false) hi hj hh.1 (List.isPrefixOf_iff_prefix.1 h2)
      rw [this.2.2]
  simp only [Bool.not_true, Bool.or_self, Bool.false_eq_true, if_false, hf]
  by_cases h : ph = 1
  · simp only [h, ne_eq, not_true_eq_false, if_false, decide_true, form, if_true]
    have h3 := (has_cond (valid_fine hv (List.mem_of_getElem? hi)) hh.1).2 (hh.2 (by simpa using h))
    simp only [cutOf] at h3
    rw [if_pos h3]
    rfl
  · simp [h, form]
theorem write_cases {p : List Cd} (hv : valid p = true) {n ph : Int} (hp : isPhase ph = true) (h0 : 0 ≤ n) (h1 : n ≤ 99999999) :
    (∃ (i : Nat) (c : Cd), p[i]? = some c ∧ Has (decide (ph = 1)) c n.toNat ∧ write p n ph = (form (decide (ph = 1)) c n.toNat, 0)) ∨
    ((∀ (i : Nat) (c : Cd), p[i]? = some c → ¬ Has (decide (ph = 1)) c n.toNat) ∧ write p n ph = ([], 120)) := by
  by_cases h : ∃ (i : Nat) (c : Cd), p[i]? = some c ∧ Has (decide (ph = 1)) c n.toNat
  · obtain ⟨i, c, hi, hh⟩ := h
    exact .inl ⟨i, c, hi, hh, write_ok hv hp hi h0 h1 hh⟩
  · refine .inr ⟨fun i c hi hh => h ⟨i, c, hi, hh⟩, ?_⟩
    unfold write
    have hw : within n 0 99999999 = true := by simp [within]; omega
    rw [hv, hp, hw]
    simp only [Bool.not_true, Bool.or_self, Bool.false_eq_true, if_false]
    cases hfd : p.find? (fun c => c.new.isPrefixOf (eight n.toNat)) with
    | none => rfl
    | some c =>
      have h2 := List.isPrefixOf_iff_prefix.1 (List.find?_some (p := fun (c : Cd) => c.new.isPrefixOf (eight n.toNat)) hfd)
      obtain ⟨j, hj⟩ := List.mem_iff_getElem?.1 (List.mem_of_find?_eq_some hfd)
      have hnot : ¬ Has (decide (ph = 1)) c n.toNat := fun hh => h ⟨j, c, hj, hh⟩
      by_cases hph : ph = 1
      · simp only [hph, ne_eq, not_true_eq_false, if_false]
        rw [if_neg]
        intro h3
        refine hnot ⟨h2, fun _ => (has_cond (valid_fine hv (List.mem_of_getElem? hj)) h2).1 h3⟩
      · exact absurd ⟨h2, fun h => by simp [hph] at h⟩ hnot
theorem form_head {o : Bool} {c : Cd} {n : Nat} (h : Has o c n) : head o c <+: form o c n := by
  cases o
  · exact h.1
  · exact List.prefix_append _ _
theorem form_len {o : Bool} {c : Cd} {n : Nat} (hf : Fine c) : ((form o c n).length : Int) = long o c := by
  cases o
  · simp [form, long, eight_len]
  · simp only [form, if_true, long, List.length_append, List.length_drop, eight_len, cutOf, room]
    have := hf.fit; have := hf.l1; unfold room at *; omega
theorem form_said {o : Bool} {c : Cd} {n : Nat} (hf : Fine c) (h : Has o c n) (t : S) : said o c (form o c n ++ t) = eight n := by
  have hl := form_len (o := o) (n := n) hf
  have : (form o c n ++ t).take (long o c).toNat = form o c n := by
    rw [← hl, Int.toNat_natCast, List.take_left']
    rfl
  unfold said
  rw [this]
  cases o
  · simp only [stand, form, head, Bool.false_eq_true, if_false]
    obtain ⟨u, hu⟩ := h.1
    rw [← hu, List.drop_left]
  · simp only [stand, form, head, if_true]
    rw [List.drop_left]
    obtain ⟨u, hu⟩ := h.2 rfl
    have hk : cutOf c - c.new.length = (8 - (c.new.length : Int) - room c).toNat := by
      have := hf.fit; have := hf.l1; unfold cutOf room at *; omega
    have hz : (c.new ++ zeros (cutOf c - c.new.length)).length = cutOf c := by
      have := hf.fit; have := hf.l1
      simp only [List.length_append, zeros, List.length_replicate]
      unfold cutOf room at *; omega
    rw [← hk]
    have hd : (eight n).drop (cutOf c) = u := by
      rw [← hu]
      generalize c.new ++ zeros (cutOf c - c.new.length) = z at hz
      rw [← hz, List.drop_left]
    rw [hd, hu]
theorem form_digits {o : Bool} {c : Cd} {n : Nat} (hf : Fine c) : digits (form o c n) = true := by
  cases o
  · exact digits_eight n
  · exact digits_app.2 ⟨hf.dold, digits_drop (digits_eight n) _⟩
theorem long_le {o : Bool} {c : Cd} (hf : Fine c) : 0 < long o c ∧ long o c ≤ 8 ∧ ((head o c).length : Int) ≤ long o c ∧ 1 ≤ (head o c).length ∧ (head o c).length ≤ 5 := by
  have := hf.o1; have := hf.o4; have := hf.n1; have := hf.n5; have := hf.l1; have := hf.l7
  cases o
  · simp only [long, head, Bool.false_eq_true, if_false]; omega
  · simp only [long, head, if_true]; omega
end Pl

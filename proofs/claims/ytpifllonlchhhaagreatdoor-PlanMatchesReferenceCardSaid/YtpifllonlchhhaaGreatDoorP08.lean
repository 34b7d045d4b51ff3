/- Plain laws of numbering plans, of no program: how forms begin, what is read, what is written. Plain laws of numbering plans, of no program: the statements of the law's functions, of what is read and written. Plain laws of numbering plans, of no program: plans that are made, numbers, digits one by one, ranges, a further code. Plain laws of reading as the reference reads: code by code. -/
import Derived.Test.YtpifllonlchhhaaGreatDoorP06
namespace Pl
/-- with what a form begins: o says whether it is the old one -/
def head (o : Bool) (c : Cd) : S := if o then c.old else c.new
def long (o : Bool) (c : Cd) : Int := if o then c.len else 8
def stand (o : Bool) (c : Cd) : S := if o then c.new ++ zeros (8 - c.new.length - room c).toNat else c.new
/-- may a form of this kind be used in the phase? -/
def may (o : Bool) (ph : Int) : Prop := if o then ph ≠ 3 else ph ≠ 1
theorem mem_ents {p : List Cd} {ph : Int} {key : S} {x : Ent} : (key, x) ∈ ents p ph ↔ ∃ (i : Nat) (c : Cd) (o : Bool), p[i]? = some c ∧ may o ph ∧ key = head o c ∧ x = ⟨(i : Int), long o c, stand o c⟩ := by
  unfold ents
  rw [List.mem_flatMap]
  constructor
  · rintro ⟨⟨b, i⟩, h1, h2⟩
    have hb : p[i]? = some b := by
      have := List.mem_zipIdx' h1
      rw [List.getElem?_eq_getElem this.1]; exact congrArg some this.2.symm
    simp only [List.mem_append] at h2
    rcases h2 with h2 | h2
    · split at h2
      · next hp =>
        simp only [List.mem_singleton, Prod.mk.injEq] at h2
        exact ⟨i, b, true, hb, by simpa [may] using hp, h2.1, h2.2⟩
      · simp at h2
    · split at h2
      · next hp =>
        simp only [List.mem_singleton, Prod.mk.injEq] at h2
        exact ⟨i, b, false, hb, by simpa [may] using hp, h2.1, h2.2⟩
      · simp at h2
  · rintro ⟨i, c, o, hc, hm, rfl, rfl⟩
    refine ⟨(c, i), by rw [List.mem_zipIdx_iff_getElem?]; exact hc, ?_⟩
    cases o
    · simp only [may, Bool.false_eq_true, if_false] at hm
      simp [head, long, stand, hm]
    · simp only [may, if_true] at hm
      simp [head, long, stand, hm]
theorem apart_pre {a b : S} (h : apart a b = true) : ¬ a <+: b ∧ ¬ b <+: a := by
  simp only [apart, Bool.and_eq_true, Bool.not_eq_true'] at h
  refine ⟨fun h1 => ?_, fun h1 => ?_⟩
  · rw [List.isPrefixOf_iff_prefix.2 h1] at h; cases h.1
  · rw [List.isPrefixOf_iff_prefix.2 h1] at h; cases h.2
theorem heads_apart {p : List Cd} (hv : valid p = true) {i j : Nat} {c d : Cd} (hi : p[i]? = some c) (hj : p[j]? = some d) {o u : Bool} (h : head o c <+: head u d) : i = j ∧ o = u := by
  have key : ∀ (i j : Nat) (c d : Cd), p[i]? = some c → p[j]? = some d → i < j → ∀ o u, ¬ head o c <+: head u d ∧ ¬ head u d <+: head o c := by
    intro i j c d hi hj hlt o u
    have hm : c ∈ p.take j := List.mem_of_getElem? (by rw [List.getElem?_take, if_pos hlt]; exact hi)
    have hd := valid_differ hv j d hj c hm
    simp only [differ, Bool.and_eq_true] at hd
    obtain ⟨⟨⟨d1, d2⟩, d3⟩, d4⟩ := hd
    cases o <;> cases u
    · exact (apart_pre d2).symm
    · exact (apart_pre d3).symm
    · exact (apart_pre d4).symm
    · exact (apart_pre d1).symm
  rcases Nat.lt_trichotomy i j with hl | hl | hl
  · exact absurd h (key i j c d hi hj hl o u).1
  · subst hl
    rw [hi] at hj
    obtain rfl : c = d := by simpa using hj
    refine ⟨rfl, ?_⟩
    have ha := apart_pre (valid_fine hv (List.mem_of_getElem? hi)).ap
    cases o <;> cases u
    · rfl
    · exact absurd h ha.2
    · exact absurd h ha.1
    · rfl
  · exact absurd h (key j i d c hj hi hl u o).2
theorem heads_same {p : List Cd} (hv : valid p = true) {i j : Nat} {c d : Cd} (hi : p[i]? = some c) (hj : p[j]? = some d) {o u : Bool} {s : S} (h1 : head o c <+: s) (h2 : head u d <+: s) : i = j ∧ o = u ∧ c = d := by
  have h3 : i = j ∧ o = u := by
    rcases Nat.le_total (head o c).length (head u d).length with h | h
    · exact heads_apart hv hi hj (List.prefix_of_prefix_length_le h1 h2 h)
    · have := heads_apart hv hj hi (List.prefix_of_prefix_length_le h2 h1 h)
      exact ⟨this.1.symm, this.2.symm⟩
  obtain ⟨rfl, rfl⟩ := h3
  rw [hi] at hj
  exact ⟨rfl, rfl, by simpa using hj⟩
/-- digits begin like a form of the code i -/
structure Hit (p : List Cd) (ph : Int) (s : S) (i : Nat) (c : Cd) (o : Bool) : Prop where
  at_ : p[i]? = some c
  may_ : may o ph
  pre : head o c <+: s
theorem lookup_head {p : List Cd} (hv : valid p = true) {ph : Int} {i : Nat} {c : Cd} {o : Bool} (hi : p[i]? = some c) (hm : may o ph) : (ents p ph).lookup (head o c) = some ⟨(i : Int), long o c, stand o c⟩ := by
  cases hl : (ents p ph).lookup (head o c) with
  | none =>
    rw [List.lookup_eq_none_iff] at hl
    have := hl _ (mem_ents.2 ⟨i, c, o, hi, hm, rfl, rfl⟩)
    simp at this
  | some x =>
    obtain ⟨j, d, u, hj, _, hk, rfl⟩ := mem_ents.1 (lookup_mem _ _ _ hl)
    obtain ⟨rfl, rfl⟩ := heads_apart hv hi hj (by rw [hk]; exact List.prefix_refl _)
    rw [hi] at hj
    obtain rfl : c = d := by simpa using hj
    rfl
theorem begun_of_hit {p : List Cd} (hv : valid p = true) {ph : Int} {s : S} {i : Nat} {c : Cd} {o : Bool} (h : Hit p ph s i c o) : begun (ents p ph) s = some ((head o c).length, ⟨(i : Int), long o c, stand o c⟩) := by
  obtain ⟨hi, hm, hp⟩ := h
  have ht : s.take (head o c).length = head o c := (List.prefix_iff_eq_take.1 hp).symm
  refine begun_hit hp.length_le (fun j hj => ?_) (by rw [ht]; exact lookup_head hv hi hm)
  refine lookup_none fun x hx => ?_
  obtain ⟨k, d, u, hk, _, he, _⟩ := mem_ents.1 hx
  have h2 : head u d <+: head o c := by
    rw [← he]
    rw [← ht]
    exact List.take_prefix_take_left (Nat.le_of_lt hj)
  obtain ⟨rfl, rfl⟩ := heads_apart hv hk hi h2
  rw [hi] at hk
  obtain rfl : c = d := by simpa using hk
  have : (s.take j).length = (head u c).length := by rw [he]
  simp at this
  omega
theorem begun_of_miss {p : List Cd} {ph : Int} {s : S} (h : ∀ i c o, ¬ Hit p ph s i c o) : begun (ents p ph) s = none := by
  refine begun_none fun j hj => lookup_none fun x hx => ?_
  obtain ⟨k, d, u, hk, hm, he, _⟩ := mem_ents.1 hx
  exact h k d u ⟨hk, hm, by rw [← he]; exact List.take_prefix _ _⟩
/-- the number that digits say, which begin with a form -/
def said (o : Bool) (c : Cd) (s : S) : S := stand o c ++ (s.take (long o c).toNat).drop (head o c).length
structure Okay (p : List Cd) (ph : Int) (s : S) : Prop where
  v : valid p = true
  d : digits s = true
  l : s.length ≤ 16
  ph : isPhase ph = true
theorem read_hit {p : List Cd} {ph : Int} {s : S} (ok : Okay p ph s) {i : Nat} {c : Cd} {o : Bool} (h : Hit p ph s i c o) :
    read p s ph = if (s.length : Int) < long o c then (⟨1, 0, 0, 0⟩, 0) else (⟨2, val (said o c s), (i : Int), long o c⟩, 0) := by
  unfold read
  rw [ok.v, ok.d, ok.ph, decide_eq_true ok.l, begun_of_hit ok.v h]
  rfl
/-- digits with which a form begins -/
def Starts (p : List Cd) (ph : Int) (s : S) : Prop := ∃ (i : Nat) (c : Cd) (o : Bool), p[i]? = some c ∧ may o ph ∧ s <+: head o c
theorem read_miss {p : List Cd} {ph : Int} {s : S} (ok : Okay p ph s) (h : ∀ i c o, ¬ Hit p ph s i c o) :
    (Starts p ph s ∧ read p s ph = (⟨1, 0, 0, 0⟩, 0)) ∨ (¬ Starts p ph s ∧ read p s ph = (⟨0, 0, 0, 0⟩, 0)) := by
  have hany : ((ents p ph).any fun e => s.isPrefixOf e.1) = true ↔ Starts p ph s := by
    rw [List.any_eq_true]
    constructor
    · rintro ⟨⟨key, x⟩, h1, h2⟩
      obtain ⟨i, c, o, hi, hm, rfl, _⟩ := mem_ents.1 h1
      exact ⟨i, c, o, hi, hm, List.isPrefixOf_iff_prefix.1 h2⟩
    · rintro ⟨i, c, o, hi, hm, h2⟩
      exact ⟨_, mem_ents.2 ⟨i, c, o, hi, hm, rfl, rfl⟩, List.isPrefixOf_iff_prefix.2 h2⟩
  have hr : read p s ph = if (ents p ph).any (fun e => s.isPrefixOf e.1) then (⟨1, 0, 0, 0⟩, 0) else (⟨0, 0, 0, 0⟩, 0) := by
    unfold read
    rw [ok.v, ok.d, ok.ph, decide_eq_true ok.l, begun_of_miss h]
    rfl
  by_cases hs : Starts p ph s
  · exact .inl ⟨hs, by rw [hr, if_pos (hany.2 hs)]⟩
  · exact .inr ⟨hs, by rw [hr, if_neg fun h => hs (hany.1 h)]⟩
theorem read_cases {p : List Cd} {ph : Int} {s : S} (ok : Okay p ph s) :
    (∃ i c o, Hit p ph s i c o ∧ (s.length : Int) < long o c ∧ read p s ph = (⟨1, 0, 0, 0⟩, 0)) ∨
    (∃ i c o, Hit p ph s i c o ∧ long o c ≤ s.length ∧ read p s ph = (⟨2, val (said o c s), (i : Int), long o c⟩, 0)) ∨
    ((∀ i c o, ¬ Hit p ph s i c o) ∧ Starts p ph s ∧ read p s ph = (⟨1, 0, 0, 0⟩, 0)) ∨
    ((∀ i c o, ¬ Hit p ph s i c o) ∧ ¬ Starts p ph s ∧ read p s ph = (⟨0, 0, 0, 0⟩, 0)) := by
  by_cases h : ∃ i c o, Hit p ph s i c o
  · obtain ⟨i, c, o, h⟩ := h
    have hr := read_hit ok h
    by_cases hl : (s.length : Int) < long o c
    · exact .inl ⟨i, c, o, h, hl, by rw [hr, if_pos hl]⟩
    · exact .inr (.inl ⟨i, c, o, h, by omega, by rw [hr, if_neg hl]⟩)
  · have h' : ∀ i c o, ¬ Hit p ph s i c o := fun i c o hh => h ⟨i, c, o, hh⟩
    rcases read_miss ok h' with h2 | h2
    · exact .inr (.inr (.inl ⟨h', h2⟩))
    · exact .inr (.inr (.inr ⟨h', h2⟩))
theorem read_zero {p : List Cd} {ph : Int} {s : S} (ok : Okay p ph s) : (read p s ph).2 = 0 ∧ ((read p s ph).1.kind ≠ 2 → (read p s ph).1.number = 0 ∧ (read p s ph).1.code = 0 ∧ (read p s ph).1.used = 0) := by
  rcases read_cases ok with ⟨_, _, _, _, _, h⟩ | ⟨_, _, _, _, _, h⟩ | ⟨_, _, h⟩ | ⟨_, _, h⟩ <;> rw [h] <;> simp
/-! ### numbers and their eight digits -/
theorem foldl_val (s : S) (n : Nat) : s.foldl (fun n c => 10 * n + (c.toNat - 48)) n = n * 10 ^ s.length + val s := by
  unfold val
  induction s generalizing n with
  | nil => simp
  | cons c s ih =>
    rw [List.foldl_cons, ih, List.foldl_cons, ih (10 * 0 + (c.toNat - 48)), List.length_cons, Nat.pow_succ]
    rw [Nat.add_mul, Nat.add_mul, Nat.mul_zero, Nat.zero_mul, Nat.zero_add]
    rw [show 10 * n * 10 ^ s.length = n * (10 ^ s.length * 10) by rw [Nat.mul_comm 10 n, Nat.mul_assoc, Nat.mul_comm 10]]
    omega
theorem val_append (s t : S) : val (s ++ t) = val s * 10 ^ t.length + val t := by
  show (s ++ t).foldl _ 0 = _
  rw [List.foldl_append, foldl_val]
  rfl
theorem val_nil : val [] = 0 := rfl
theorem val_snoc (s : S) (c : UInt8) : val (s ++ [c]) = 10 * val s + (c.toNat - 48) := by
  unfold val; rw [List.foldl_append]; rfl
theorem val_cons (c : UInt8) (s : S) : val (c :: s) = (c.toNat - 48) * 10 ^ s.length + val s := by
  have := val_append [c] s
  simpa [val] using this
theorem val_lt (s : S) (h : digits s = true) : val s < 10 ^ s.length := by
  induction s with
  | nil => simp [val]
  | cons c s ih =>
    have hd := digits_mem h c (by simp)
    have h2 : digits s = true := by
      simp only [digits, List.all_cons, Bool.and_eq_true] at h; exact h.2
    have := ih h2
    rw [val_cons, List.length_cons, Nat.pow_succ]
    have : (c.toNat - 48) * 10 ^ s.length ≤ 9 * 10 ^ s.length := Nat.mul_le_mul_right _ (by omega)
    omega
theorem val_zeros (k : Nat) : val (zeros k) = 0 := by
  induction k with
  | zero => rfl
  | succ k ih =>
    rw [zeros, List.replicate_succ, val_cons]
    rw [zeros] at ih
    rw [ih]; simp
theorem val_inj : ∀ (s t : S), digits s = true → digits t = true → s.length = t.length → val s = val t → s = t
  | [], [], _, _, _, _ => rfl
  | [], _ :: _, _, _, h, _ => by simp at h
  | _ :: _, [], _, _, h, _ => by simp at h
  | c :: s, d :: t, hs, ht, hl, hv => by
    have hc := digits_mem hs c (by simp)
    have hd := digits_mem ht d (by simp)
    have hs2 : digits s = true := by simp only [digits, List.all_cons, Bool.and_eq_true] at hs; exact hs.2
    have ht2 : digits t = true := by simp only [digits, List.all_cons, Bool.and_eq_true] at ht; exact ht.2
    have hl2 : s.length = t.length := by simpa using hl
    have l1 := val_lt s hs2
    have l2 := val_lt t ht2
    rw [val_cons, val_cons, hl2] at hv
    rw [hl2] at l1
    have hpos : 0 < 10 ^ t.length := Nat.pow_pos (by decide)
    have e1 : c.toNat - 48 = d.toNat - 48 := by
      have a1 : ((c.toNat - 48) * 10 ^ t.length + val s) / 10 ^ t.length = c.toNat - 48 := by
        rw [Nat.mul_comm, Nat.mul_add_div hpos, Nat.div_eq_of_lt l1, Nat.add_zero]
      have a2 : ((d.toNat - 48) * 10 ^ t.length + val t) / 10 ^ t.length = d.toNat - 48 := by
        rw [Nat.mul_comm, Nat.mul_add_div hpos, Nat.div_eq_of_lt l2, Nat.add_zero]
      rw [← a1, ← a2, hv]
    have e2 : c = d := by apply UInt8.toNat_inj.1; omega
    subst e2
    have e3 : val s = val t := by omega
    rw [val_inj s t hs2 ht2 hl2 e3]
theorem digitAt_nat (n k : Nat) : (digitAt n k).toNat = 48 + n / 10 ^ (7 - k) % 10 := by
  unfold digitAt
  have h := Nat.mod_lt (n / 10 ^ (7 - k)) (show 0 < 10 by decide)
  generalize n / 10 ^ (7 - k) % 10 = m at *
  rw [UInt8.toNat_add, UInt8.toNat_ofNat']
  simp
  omega
theorem eight_take_val (n k : Nat) (hk : k ≤ 8) (hn : n < 100000000) : val ((eight n).take k) = n / 10 ^ (8 - k) := by
  induction k with
  | zero => simp [val]; omega
  | succ k ih =>
    have hk' : k < (eight n).length := by rw [eight_len]; omega
    rw [take_snoc _ k hk', val_snoc, ih (by omega)]
    have : (eight n)[k] = digitAt n k := by simp [eight]
    rw [this, digitAt_nat]
    have h1 : 8 - k = (7 - k) + 1 := by omega
    rw [h1, Nat.pow_succ, ← Nat.div_div_eq_div_mul, show 8 - (k + 1) = 7 - k by omega]
    omega
theorem val_eight (n : Nat) (hn : n < 100000000) : val (eight n) = n := by
  have := eight_take_val n 8 (Nat.le_refl _) hn
  rw [List.take_of_length_le (by rw [eight_len]; omega)] at this
  simpa using this
theorem digits_eight (n : Nat) : digits (eight n) = true := by
  unfold digits eight
  rw [List.all_map, List.all_eq_true]
  intro k _
  have := digitAt_nat n k
  simp [dig, this]
  omega
theorem eight_val (s : S) (h : digits s = true) (hl : s.length = 8) : eight (val s) = s := by
  have hlt := val_lt s h
  rw [hl] at hlt
  exact val_inj _ _ (digits_eight _) h (by rw [eight_len, hl]) (val_eight _ hlt)
theorem digits_app {a b : S} : digits (a ++ b) = true ↔ digits a = true ∧ digits b = true := by simp [digits]
theorem digits_take {s : S} (h : digits s = true) (k : Nat) : digits (s.take k) = true := by
  have := List.take_append_drop k s
  rw [← this, digits_app] at h; exact h.1
theorem digits_drop {s : S} (h : digits s = true) (k : Nat) : digits (s.drop k) = true := by
  have := List.take_append_drop k s
  rw [← this, digits_app] at h; exact h.2
theorem digits_zeros (k : Nat) : digits (zeros k) = true := by
  unfold digits zeros
  rw [List.all_eq_true]
  intro c hc
  rw [(List.mem_replicate.1 hc).2]
  decide
theorem pre_eight {c : S} {n : Nat} (hc : digits c = true) (hl : c.length ≤ 8) (hn : n < 100000000) : c <+: eight n ↔ val c * 10 ^ (8 - c.length) ≤ n ∧ n < (val c + 1) * 10 ^ (8 - c.length) := by
  have hpos : 0 < 10 ^ (8 - c.length) := Nat.pow_pos (by decide)
  have h1 := eight_take_val n c.length hl hn
  have h2 : c <+: eight n ↔ n / 10 ^ (8 - c.length) = val c := by
    rw [← h1]
    constructor
    · intro h; rw [← List.prefix_iff_eq_take.1 h]
    · intro h
      rw [List.prefix_iff_eq_take]
      exact val_inj _ _ hc (digits_take (digits_eight n) _) (by simp [eight_len]; omega) h.symm
  rw [h2]
  constructor
  · intro h
    rw [← h]
    exact ⟨Nat.div_mul_le_self _ _, by rw [Nat.mul_comm]; exact Nat.lt_mul_div_succ n hpos⟩
  · rintro ⟨a, b⟩
    exact Nat.div_eq_of_lt_le a b
/-! ### forms -/
def cutOf (c : Cd) : Nat := (8 - room c).toNat
/-- the form of a number: the old one, or the new one -/
def form (o : Bool) (c : Cd) (n : Nat) : S := if o then c.old ++ (eight n).drop (cutOf c) else eight n
/-- has a number of the code this form? -/
def Has (o : Bool) (c : Cd) (n : Nat) : Prop := c.new <+: eight n ∧ (o = true → c.new ++ zeros (cutOf c - c.new.length) <+: eight n)
theorem has_cond {c : Cd} {n : Nat} (hf : Fine c) (hp : c.new <+: eight n) : ((eight n).take (cutOf c)).drop c.new.length = zeros (cutOf c - c.new.length) ↔ c.new ++ zeros (cutOf c - c.new.length) <+: eight n := by
  obtain ⟨t, ht⟩ := hp
  have hcut : c.new.length ≤ cutOf c ∧ cutOf c ≤ 8 := by
    have := hf.fit; have := hf.l1; unfold cutOf room at *; omega
  rw [← ht, List.take_append, List.take_of_length_le hcut.1, List.drop_append_of_le_length (Nat.le_refl _), List.drop_length, List.nil_append, List.prefix_append_right_inj]
  rw [List.prefix_iff_eq_take]
  simp only [zeros, List.length_replicate]
  exact eq_comm
theorem write_ok {p : List Cd} (hv : valid p = true) {n ph : Int} (hp : isPhase ph = true) {i : Nat} {c : Cd} (hi : p[i]? = some c) (h0 : 0 ≤ n) (h1 : n ≤ 99999999) (hh : Has (decide (ph = 1)) c n.toNat) :
    write p n ph = (form (decide (ph = 1)) c n.toNat, 0) := by
  unfold write
  have hw : within n 0 99999999 = true := by simp [within]; omega
  rw [hv, hp, hw]
  have hf : p.find? (fun c => c.new.isPrefixOf (eight n.toNat)) = some c := by
    cases hfd : p.find? (fun c => c.new.isPrefixOf (eight n.toNat)) with
    | none =>
      rw [List.find?_eq_none] at hfd
      exact absurd (List.isPrefixOf_iff_prefix.2 hh.1) (by simpa using hfd c (List.mem_of_getElem? hi))
    | some d =>
      have h2 := List.find?_some hfd
      have hm := List.mem_of_find?_eq_some hfd
      obtain ⟨j, hj⟩ := List.mem_iff_getElem?.1 hm
      have := heads_same hv (o := false) (u := false) hi hj hh.1 (List.isPrefixOf_iff_prefix.1 h2)
      rw [this.2.2]
  simp only [Bool.not_true, Bool.or_self, Bool.false_eq_true, if_false, hf]
  by_cases h : ph = 1
  · simp only [h, ne_eq, not_true_eq_false, if_false, decide_true, form, if_true]
    have h3 := (has_cond (valid_fine hv (List.mem_of_getElem? hi)) hh.1).2 (hh.2 (by simpa using h))
    simp only [cutOf] at h3
    rw [if_pos h3]
    rfl
  · simp [h, form]
theorem write_cases {p : List Cd} (hv : valid p = true) {n ph : Int} (hp : isPhase ph = true) (h0 : 0 ≤ n) (h1 : n ≤ 99999999) :
    (∃ (i : Nat) (c : Cd), p[i]? = some c ∧ Has (decide (ph = 1)) c n.toNat ∧ write p n ph = (form (decide (ph = 1)) c n.toNat, 0)) ∨
    ((∀ (i : Nat) (c : Cd), p[i]? = some c → ¬ Has (decide (ph = 1)) c n.toNat) ∧ write p n ph = ([], 120)) := by
  by_cases h : ∃ (i : Nat) (c : Cd), p[i]? = some c ∧ Has (decide (ph = 1)) c n.toNat
  · obtain ⟨i, c, hi, hh⟩ := h
    exact .inl ⟨i, c, hi, hh, write_ok hv hp hi h0 h1 hh⟩
  · refine .inr ⟨fun i c hi hh => h ⟨i, c, hi, hh⟩, ?_⟩
    unfold write
    have hw : within n 0 99999999 = true := by simp [within]; omega
    rw [hv, hp, hw]
    simp only [Bool.not_true, Bool.or_self, Bool.false_eq_true, if_false]
    cases hfd : p.find? (fun c => c.new.isPrefixOf (eight n.toNat)) with
    | none => rfl
    | some c =>
      have h2 := List.isPrefixOf_iff_prefix.1 (List.find?_some (p := fun (c : Cd) => c.new.isPrefixOf (eight n.toNat)) hfd)
      obtain ⟨j, hj⟩ := List.mem_iff_getElem?.1 (List.mem_of_find?_eq_some hfd)
      have hnot : ¬ Has (decide (ph = 1)) c n.toNat := fun hh => h ⟨j, c, hj, hh⟩
      by_cases hph : ph = 1
      · simp only [hph, ne_eq, not_true_eq_false, if_false]
        rw [if_neg]
        intro h3
        refine hnot ⟨h2, fun _ => (has_cond (valid_fine hv (List.mem_of_getElem? hj)) h2).1 h3⟩
      · exact absurd ⟨h2, fun h => by simp [hph] at h⟩ hnot
theorem form_head {o : Bool} {c : Cd} {n : Nat} (h : Has o c n) : head o c <+: form o c n := by
  cases o
  · exact h.1
  · exact List.prefix_append _ _
theorem form_len {o : Bool} {c : Cd} {n : Nat} (hf : Fine c) : ((form o c n).length : Int) = long o c := by
  cases o
  · simp [form, long, eight_len]
  · simp only [form, if_true, long, List.length_append, List.length_drop, eight_len, cutOf, room]
    have := hf.fit; have := hf.l1; unfold room at *; omega
theorem form_said {o : Bool} {c : Cd} {n : Nat} (hf : Fine c) (h : Has o c n) (t : S) : said o c (form o c n ++ t) = eight n := by
  have hl := form_len (o := o) (n := n) hf
  have : (form o c n ++ t).take (long o c).toNat = form o c n := by
    rw [← hl, Int.toNat_natCast, List.take_left']
    rfl
  unfold said
  rw [this]
  cases o
  · simp only [stand, form, head, Bool.false_eq_true, if_false]
    obtain ⟨u, hu⟩ := h.1
    rw [← hu, List.drop_left]
  · simp only [stand, form, head, if_true]
    rw [List.drop_left]
    obtain ⟨u, hu⟩ := h.2 rfl
    have hk : cutOf c - c.new.length = (8 - (c.new.length : Int) - room c).toNat := by
      have := hf.fit; have := hf.l1; unfold cutOf room at *; omega
    have hz : (c.new ++ zeros (cutOf c - c.new.length)).length = cutOf c := by
      have := hf.fit; have := hf.l1
      simp only [List.length_append, zeros, List.length_replicate]
      unfold cutOf room at *; omega
    rw [← hk]
    have hd : (eight n).drop (cutOf c) = u := by
      rw [← hu]
      generalize c.new ++ zeros (cutOf c - c.new.length) = z at hz
      rw [← hz, List.drop_left]
    rw [hd, hu]
theorem form_digits {o : Bool} {c : Cd} {n : Nat} (hf : Fine c) : digits (form o c n) = true := by
  cases o
  · exact digits_eight n
  · exact digits_app.2 ⟨hf.dold, digits_drop (digits_eight n) _⟩
theorem long_le {o : Bool} {c : Cd} (hf : Fine c) : 0 < long o c ∧ long o c ≤ 8 ∧ ((head o c).length : Int) ≤ long o c ∧ 1 ≤ (head o c).length ∧ (head o c).length ≤ 5 := by
  have := hf.o1; have := hf.o4; have := hf.n1; have := hf.n5; have := hf.l1; have := hf.l7
  cases o
  · simp only [long, head, Bool.false_eq_true, if_false]; omega
  · simp only [long, head, if_true]; omega
end Pl
set_option linter.unusedVariables false
namespace Pl
/-- what Write returns -/
theorem write_form {p : List Cd} (hv : valid p = true) {n ph : Int} (hp : isPhase ph = true) (h0 : 0 ≤ n) (h1 : n ≤ 99999999) (h : (write p n ph).2 = 0) :
    ∃ (i : Nat) (c : Cd), p[i]? = some c ∧ Has (decide (ph = 1)) c n.toNat ∧ write p n ph = (form (decide (ph = 1)) c n.toNat, 0) := by
  rcases write_cases hv hp h0 h1 with h2 | ⟨_, h2⟩
  · exact h2
  · rw [h2] at h; simp at h
theorem write_err {p : List Cd} (hv : valid p = true) {n ph : Int} (hp : isPhase ph = true) (h0 : 0 ≤ n) (h1 : n ≤ 99999999) (h : (write p n ph).2 ≠ 0) : write p n ph = ([], 120) := by
  rcases write_cases hv hp h0 h1 with ⟨_, _, _, _, h2⟩ | ⟨_, h2⟩
  · rw [h2] at h; simp at h
  · exact h2
theorem may_phase {ph : Int} (hp : isPhase ph = true) : may (decide (ph = 1)) ph := by
  simp [isPhase, within] at hp
  unfold may
  split
  · next h => simp at h; omega
  · next h => simpa using h
/-- the form of a number is read as the number -/
theorem read_form {p : List Cd} (hv : valid p = true) {ph : Int} (hp : isPhase ph = true) {i : Nat} {c : Cd} (hi : p[i]? = some c) {o : Bool} (hm : may o ph) {n : Nat} (hn : n < 100000000) (hh : Has o c n) (t : S) (ht : digits t = true) (hl : t.length ≤ 8) :
    read p (form o c n ++ t) ph = (⟨2, (n : Int), (i : Int), ((form o c n).length : Int)⟩, 0) := by
  have hf := valid_fine hv (List.mem_of_getElem? hi)
  have hlen := form_len (o := o) (n := n) hf
  have hll := long_le (o := o) hf
  have ok : Okay p ph (form o c n ++ t) := ⟨hv, digits_app.2 ⟨form_digits hf, ht⟩, by rw [List.length_append]; omega, hp⟩
  have hit : Hit p ph (form o c n ++ t) i c o := ⟨hi, hm, (form_head hh).trans (List.prefix_append _ _)⟩
  rw [read_hit ok hit, if_neg (by rw [List.length_append]; omega), form_said hf hh, val_eight n hn, hlen]
/-! ### PlanUnique -/
theorem unique {p : List Cd} (hv : valid p = true) {m n ph qh : Int} (hp : isPhase ph = true) (hq : isPhase qh = true) (m0 : 0 ≤ m) (m1 : m ≤ 99999999) (n0 : 0 ≤ n) (n1 : n ≤ 99999999) (e : (write p m ph).2 = 0) (f : (write p n qh).2 = 0) :
    (m = n ∧ (decide (ph = 1) = decide (qh = 1)) → (write p m ph).1 = (write p n qh).1) ∧
    (¬ (m = n ∧ (decide (ph = 1) = decide (qh = 1))) → ¬ (write p m ph).1 <+: (write p n qh).1) := by
  obtain ⟨i, c, hi, hh, hw⟩ := write_form hv hp m0 m1 e
  obtain ⟨j, d, hj, hk, hx⟩ := write_form hv hq n0 n1 f
  rw [hw, hx]
  simp only
  constructor
  · rintro ⟨rfl, ho⟩
    rw [ho] at hh ⊢
    obtain ⟨rfl, _, rfl⟩ := heads_same hv (o := false) (u := false) hi hj hh.1 hk.1
    rfl
  · intro hne hpre
    refine hne ?_
    obtain ⟨rfl, ho, rfl⟩ := heads_same hv hi hj ((form_head hh).trans hpre) (form_head hk)
    refine ⟨?_, ho⟩
    have hf := valid_fine hv (List.mem_of_getElem? hi)
    have hl : (form (decide (ph = 1)) c m.toNat).length = (form (decide (qh = 1)) c n.toNat).length := by
      have h1 := form_len (o := decide (ph = 1)) (n := m.toNat) hf
      have h2 := form_len (o := decide (qh = 1)) (n := n.toNat) hf
      rw [ho] at h1
      rw [ho]
      omega
    have he := hpre.eq_of_length hl
    have h1 := form_said hf hh []
    have h2 := form_said hf hk []
    rw [List.append_nil, he, ho] at h1
    rw [List.append_nil] at h2
    rw [h1] at h2
    have h3 := val_eight m.toNat (by omega)
    have h4 := val_eight n.toNat (by omega)
    rw [h2, h4] at h3
    omega
/-! ### PlanSameLine -/
theorem same_line {p : List Cd} (hv : valid p = true) {n : Int} (n0 : 0 ≤ n) (n1 : n ≤ 99999999) (e : (write p n 1).2 = 0) :
    ∃ (s t : S) (i : Nat), write p n 1 = (s, 0) ∧ write p n 3 = (t, 0) ∧ t.length = 8 ∧ s.length < 8 ∧ digits s = true ∧ digits t = true ∧ read p s 2 = (⟨2, n, (i : Int), (s.length : Int)⟩, 0) ∧ read p t 2 = (⟨2, n, (i : Int), (t.length : Int)⟩, 0) := by
  obtain ⟨i, c, hi, hh, hw⟩ := write_form hv (by decide) n0 n1 e
  have hf := valid_fine hv (List.mem_of_getElem? hi)
  have hk : Has (decide ((3 : Int) = 1)) c n.toNat := ⟨hh.1, fun h => by simp at h⟩
  have hx := write_ok hv (ph := 3) (by decide) hi n0 n1 hk
  have r1 := read_form hv (ph := 2) (by decide) hi (o := true) (by simp [may]) (n := n.toNat) (by omega) hh [] rfl (by simp)
  have r2 := read_form hv (ph := 2) (by decide) hi (o := false) (by simp [may]) (n := n.toNat) (by omega) hk [] rfl (by simp)
  rw [List.append_nil] at r1 r2
  refine ⟨_, _, i, hw, hx, by simp [form, eight_len], ?_, form_digits hf, form_digits hf, ?_, ?_⟩
  · have := form_len (o := true) (n := n.toNat) hf
    have h7 := hf.l7
    simp only [long, if_true] at this
    simp only [decide_true]
    omega
  · rw [show (decide ((1 : Int) = 1)) = true from rfl, r1, show ((n.toNat : Nat) : Int) = n by omega]
  · rw [show (decide ((3 : Int) = 1)) = false from rfl, r2, show ((n.toNat : Nat) : Int) = n by omega]
/-! ### PlanForms -/
theorem forms_back {p : List Cd} {ph : Int} {t : S} (ok : Okay p ph t) (hk : (read p t ph).1.kind = 2) :
    0 ≤ (read p t ph).1.number ∧ (read p t ph).1.number ≤ 99999999 ∧ 0 ≤ (read p t ph).1.used ∧ (read p t ph).1.used ≤ t.length ∧ (write p (read p t ph).1.number 3).2 = 0 ∧
    ((t.take (read p t ph).1.used.toNat = (write p (read p t ph).1.number 3).1 ∧ ph ≠ 1) ∨ ((write p (read p t ph).1.number 1).2 = 0 ∧ t.take (read p t ph).1.used.toNat = (write p (read p t ph).1.number 1).1 ∧ ph ≠ 3)) := by
  rcases read_cases ok with ⟨_, _, _, _, _, h⟩ | ⟨i, c, o, hit, hl, h⟩ | ⟨_, _, h⟩ | ⟨_, _, h⟩
  · rw [h] at hk; simp at hk
  · rw [h]
    simp only
    have hf := valid_fine ok.v (List.mem_of_getElem? hit.at_)
    obtain ⟨l1, l2, l3, l4, l5⟩ := long_le (o := o) hf
    obtain ⟨u, hu⟩ := hit.pre
    have hsl : (said o c t).length = 8 := by
      simp only [said, List.length_append, List.length_drop, List.length_take]
      have := hf.fit; have := hf.l1; have := hf.o1
      cases o
      · simp only [stand, long, head, Bool.false_eq_true, if_false] at *; omega
      · simp only [stand, long, head, if_true, List.length_append, zeros, List.length_replicate] at *; unfold room at *; omega
    have hsd : digits (said o c t) = true := by
      refine digits_app.2 ⟨?_, digits_drop (digits_take ok.d _) _⟩
      cases o
      · exact hf.dnew
      · exact digits_app.2 ⟨hf.dnew, digits_zeros _⟩
    have hlt := val_lt _ hsd
    rw [hsl] at hlt
    have he := eight_val _ hsd hsl
    have hnew : c.new <+: eight (val (said o c t)) := by
      rw [he]
      cases o
      · exact List.prefix_append _ _
      · exact (List.prefix_append c.new _).trans (List.prefix_append _ _)
    have hk3 : Has (decide ((3 : Int) = 1)) c ((val (said o c t) : Nat) : Int).toNat := ⟨by simpa using hnew, fun h => by simp at h⟩
    have hw3 := write_ok ok.v (ph := 3) (by decide) hit.at_ (n := ((val (said o c t) : Nat) : Int)) (by omega) (by omega) hk3
    rw [hw3]
    refine ⟨by omega, by omega, by omega, by omega, rfl, ?_⟩
    have hm := hit.may_
    cases o
    · left
      refine ⟨?_, by simpa [may] using hm⟩
      simp only [form, show (decide ((3 : Int) = 1)) = false from rfl, Bool.false_eq_true, if_false, Int.toNat_natCast, he]
      simp only [said, stand, head, long, Bool.false_eq_true, if_false]
      simp only [head, long, Bool.false_eq_true, if_false] at hu l3
      rw [← hu, List.take_append, List.take_of_length_le (by omega), List.drop_left]
    · right
      have hz : c.new ++ zeros (cutOf c - c.new.length) <+: eight (val (said true c t)) := by
        rw [he]
        have hk : cutOf c - c.new.length = (8 - (c.new.length : Int) - room c).toNat := by
          have := hf.fit; have := hf.l1; unfold cutOf room at *; omega
        rw [hk]
        exact List.prefix_append _ _
      have hk1 : Has (decide ((1 : Int) = 1)) c ((val (said true c t) : Nat) : Int).toNat := ⟨by simpa using hnew, fun _ => by simpa using hz⟩
      have hw1 := write_ok ok.v (ph := 1) (by decide) hit.at_ (n := ((val (said true c t) : Nat) : Int)) (by omega) (by omega) hk1
      rw [hw1]
      refine ⟨rfl, ?_, by simpa [may] using hm⟩
      simp only [form, decide_true, if_true, Int.toNat_natCast, he]
      have hcut : (stand true c).length = cutOf c := by
        have := hf.fit; have := hf.l1
        simp only [stand, if_true, List.length_append, zeros, List.length_replicate]; unfold cutOf room at *; omega
      rw [said, ← hcut, List.drop_left]
      simp only [head, long, if_true] at hu l3 ⊢
      rw [← hu, List.take_append, List.take_of_length_le (by omega), List.drop_left]
  · rw [h] at hk; simp at hk
  · rw [h] at hk; simp at hk
/-! ### PlanPhases -/
theorem may_two (o : Bool) : may o 2 := by cases o <;> simp [may]
theorem may_one (o : Bool) : may o (if o then 1 else 3) := by cases o <;> simp [may]
theorem may_only {o : Bool} {u : Bool} (h : may o (if u then 1 else 3)) : o = u := by cases o <;> cases u <;> simp [may] at h ⊢
theorem phases {p : List Cd} {t : S} (hv : valid p = true) (hd : digits t = true) (hl : t.length ≤ 16) :
    ¬ ((read p t 1).1.kind = 2 ∧ (read p t 3).1.kind = 2) ∧ ((read p t 1).1.kind = 2 → (read p t 2).1 = (read p t 1).1) ∧ ((read p t 3).1.kind = 2 → (read p t 2).1 = (read p t 3).1) ∧
    ((read p t 1).1.kind ≠ 2 → (read p t 3).1.kind ≠ 2 → (read p t 2).1.kind ≠ 2 ∧ ((read p t 2).1.kind = 1 ↔ ((read p t 1).1.kind = 1 ∨ (read p t 3).1.kind = 1))) := by
  have okU : ∀ u : Bool, Okay p (if u then 1 else 3) t := fun u => ⟨hv, hd, hl, by cases u <;> decide⟩
  have ok2 : Okay p 2 t := ⟨hv, hd, hl, by decide⟩
  -- a hit in one phase is one in both together
  have up : ∀ (u : Bool) i c o, Hit p (if u then 1 else 3) t i c o → Hit p 2 t i c o ∧ o = u := fun u i c o h => ⟨⟨h.at_, may_two o, h.pre⟩, may_only h.may_⟩
  have down : ∀ i c o, Hit p 2 t i c o → Hit p (if o then 1 else 3) t i c o := fun i c o h => ⟨h.at_, may_one o, h.pre⟩
  have number : ∀ u : Bool, (read p t (if u then 1 else 3)).1.kind = 2 → read p t 2 = read p t (if u then 1 else 3) ∧ ∃ i c, Hit p 2 t i c u := by
    intro u hk
    rcases read_cases (okU u) with ⟨_, _, _, _, _, h⟩ | ⟨i, c, o, hit, hlo, h⟩ | ⟨_, _, h⟩ | ⟨_, _, h⟩
    · rw [h] at hk; simp at hk
    · obtain ⟨h2, rfl⟩ := up _ _ _ _ hit
      exact ⟨by rw [read_hit ok2 h2, read_hit (okU o) hit], i, c, h2⟩
    · rw [h] at hk; simp at hk
    · rw [h] at hk; simp at hk
  have n1 := number true
  have n3 := number false
  simp only [if_true, Bool.false_eq_true, if_false] at n1 n3
  refine ⟨?_, fun h => by rw [(n1 h).1], fun h => by rw [(n3 h).1], ?_⟩
  · rintro ⟨h1, h3⟩
    obtain ⟨_, i, c, hi⟩ := n1 h1
    obtain ⟨_, j, d, hj⟩ := n3 h3
    have := heads_same hv hi.at_ hj.at_ hi.pre hj.pre
    simp at this
  · intro h1 h3
    have k : ∀ u : Bool, (read p t (if u then 1 else 3)).1.kind ≠ 2 := fun u => by cases u <;> simpa
    rcases read_cases ok2 with ⟨i, c, o, hit, hlt, h⟩ | ⟨i, c, o, hit, hlo, h⟩ | ⟨hmiss, hst, h⟩ | ⟨hmiss, hst, h⟩
    · rw [h]
      refine ⟨by simp, fun _ => ?_, fun _ => rfl⟩
      have := read_hit (okU o) (down _ _ _ hit)
      rw [if_pos hlt] at this
      cases o
      · right; simp only [Bool.false_eq_true, if_false] at this; rw [this]
      · left; simp only [if_true] at this; rw [this]
    · have h9 := read_hit (okU o) (down _ _ _ hit)
      rw [if_neg (show ¬ ((t.length : Int) < long o c) by omega)] at h9
      exact absurd (congrArg (fun z => z.1.kind) h9) (k o)
    · rw [h]
      refine ⟨by simp, fun _ => ?_, fun _ => rfl⟩
      obtain ⟨i, c, o, hi, _, hpre⟩ := hst
      have hm : ∀ i c o', ¬ Hit p (if o then 1 else 3) t i c o' := fun i c o' hh => hmiss _ _ _ (up o _ _ _ hh).1
      have : read p t (if o then 1 else 3) = (⟨1, 0, 0, 0⟩, 0) := by
        rcases read_miss (okU o) hm with ⟨_, h⟩ | ⟨hn, _⟩
        · exact h
        · exact absurd ⟨i, c, o, hi, may_one o, hpre⟩ hn
      cases o
      · right; simp only [Bool.false_eq_true, if_false] at this; rw [this]
      · left; simp only [if_true] at this; rw [this]
    · rw [h]
      refine ⟨by simp, ?_⟩
      have : ∀ u : Bool, read p t (if u then 1 else 3) = (⟨0, 0, 0, 0⟩, 0) := by
        intro u
        have hm : ∀ i c o', ¬ Hit p (if u then 1 else 3) t i c o' := fun i c o' hh => hmiss _ _ _ (up u _ _ _ hh).1
        rcases read_miss (okU u) hm with ⟨⟨i, c, o, hi, _, hpre⟩, _⟩ | ⟨_, h⟩
        · exact absurd ⟨i, c, o, hi, may_two o, hpre⟩ hst
        · exact h
      have t1 := this true
      have t3 := this false
      simp only [if_true, Bool.false_eq_true, if_false] at t1 t3
      rw [t1, t3]
      simp
end Pl
namespace Pl
/-! ### plans that are made -/
theorem valid_nil : valid [] = true := rfl
theorem made_aux : ∀ (l : List T3) (p : List Cd), valid p = true → p.length ≤ 8 → valid (l.foldl madeStep p) = true ∧ (l.foldl madeStep p).length ≤ 8
  | [], p, h, hl => ⟨h, hl⟩
  | x :: l, p, h, hl => by
    rw [List.foldl_cons]
    refine made_aux l _ ?_ ?_
    · unfold madeStep
      split
      · split
        · assumption
        · exact h
      · exact h
    · unfold madeStep
      split
      · split
        · simp; omega
        · exact hl
      · exact hl
theorem made_valid (x : List T3) : valid (made x) = true := (made_aux _ [] valid_nil (by simp)).1
theorem made_len (x : List T3) : (made x).length ≤ 8 := (made_aux _ [] valid_nil (by simp)).2
/-! ### ranges -/
theorem pow_int (k : Nat) : ((10 ^ k : Nat) : Int) = (10 : Int) ^ k := by simp
theorem range_eq {p : List Cd} (hv : valid p = true) {i : Nat} {c : Cd} (hi : p[i]? = some c) {ph : Int} (hp : isPhase ph = true) :
    range p (i : Int) ph = (((val c.new * 10 ^ (8 - c.new.length) : Nat) : Int), ((val c.new * 10 ^ (8 - c.new.length) + (if ph = 1 then 10 ^ (room c).toNat else 10 ^ (8 - c.new.length)) : Nat) : Int), 0) := by
  have hlt : i < p.length := (List.getElem?_eq_some_iff.1 hi).1
  unfold range
  rw [hv, hp, show within (i : Int) 0 ((p.length : Int) - 1) = true by simp [within]; omega]
  simp only [Bool.not_true, Bool.or_self, Bool.false_eq_true, if_false, Int.toNat_natCast, hi]
  split <;> simp
theorem range_in {p : List Cd} (hv : valid p = true) {i : Nat} {c : Cd} (hi : p[i]? = some c) {ph : Int} (hp : isPhase ph = true) :
    0 ≤ (range p (i : Int) ph).1 ∧ (range p (i : Int) ph).1 < (range p (i : Int) ph).2.1 ∧ (range p (i : Int) ph).2.1 ≤ (range p (i : Int) 2).2.1 ∧ (range p (i : Int) 2).2.1 ≤ 100000000 ∧ (range p (i : Int) ph).1 = (range p (i : Int) 2).1 ∧ (range p (i : Int) ph).2.2 = 0 := by
  rw [range_eq hv hi hp, range_eq hv hi (ph := 2) (by decide)]
  have hf := valid_fine hv (List.mem_of_getElem? hi)
  have hlt := val_lt _ hf.dnew
  have hn5 := hf.n5
  have h1 : (room c).toNat ≤ 8 - c.new.length := by have := hf.fit; omega
  have h2 : 10 ^ (room c).toNat ≤ 10 ^ (8 - c.new.length) := Nat.pow_le_pow_right (by decide) h1
  have h3 : 0 < 10 ^ (room c).toNat := Nat.pow_pos (by decide)
  have h4 : 0 < 10 ^ (8 - c.new.length) := Nat.pow_pos (by decide)
  have h5 : (val c.new + 1) * 10 ^ (8 - c.new.length) ≤ 10 ^ c.new.length * 10 ^ (8 - c.new.length) := Nat.mul_le_mul_right _ hlt
  rw [← Nat.pow_add, show c.new.length + (8 - c.new.length) = 8 by omega, Nat.add_mul, Nat.one_mul] at h5
  have e8 : (10 : Nat) ^ 8 = 100000000 := by decide
  rw [e8] at h5
  generalize val c.new * 10 ^ (8 - c.new.length) = a at *
  generalize 10 ^ (8 - c.new.length) = b at *
  generalize 10 ^ (room c).toNat = d at *
  simp only [show ¬ (2 : Int) = 1 by decide, if_false]
  refine ⟨by omega, ?_, ?_, by omega, by trivial, by trivial⟩
  · split <;> omega
  · split <;> omega
theorem pick_lt' (c n : Int) (h : 0 < n) : 0 ≤ pick c n ∧ pick c n < n := ⟨Int.emod_nonneg _ (by omega), Int.emod_lt_of_pos _ h⟩
theorem phase_pick (c : Int) : isPhase (1 + pick c 3) = true := by
  have := pick_lt' c 3 (by decide)
  simp [isPhase, within]; omega
theorem number_in {p : List Cd} (hv : valid p = true) (which n : Int) : 0 ≤ number p which n ∧ number p which n ≤ 99999999 := by
  unfold number
  split
  · have := pick_lt' n 100000000 (by decide); omega
  · next h =>
    have hl : 0 < p.length := by omega
    have h1 := pick_lt' (which.tdiv 16) p.length (by omega)
    obtain ⟨i, hi⟩ := Int.eq_ofNat_of_zero_le h1.1
    have hlt : i < p.length := by omega
    rw [hi]
    obtain ⟨a, b, c, d, e, _⟩ := range_in hv (List.getElem?_eq_getElem hlt) (phase_pick which)
    have h2 := pick_lt' n ((range p (i : Int) (1 + pick which 3)).2.1 - (range p (i : Int) (1 + pick which 3)).1) (by omega)
    simp only
    omega
theorem range_ok {p : List Cd} (hv : valid p = true) : 0 < p.length → ∀ i ph : Int, 0 ≤ i → i < p.length → 1 ≤ ph → ph ≤ 3 → 0 ≤ (range p i ph).1 ∧ (range p i ph).1 < (range p i ph).2.1 ∧ (range p i ph).2.1 ≤ 1000000000 := by
  intro _ i ph h1 h2 h3 h4
  obtain ⟨i, rfl⟩ := Int.eq_ofNat_of_zero_le h1
  obtain ⟨a, b, c, d, _⟩ := range_in hv (List.getElem?_eq_getElem (show i < p.length by omega)) (ph := ph) (by simp [isPhase, within]; omega)
  exact ⟨a, b, by omega⟩
def hasB (o : Bool) (n : Nat) (c : Cd) : Bool := c.new.isPrefixOf (eight n) && (!o || (c.new ++ zeros (cutOf c - c.new.length)).isPrefixOf (eight n))
theorem hasB_iff {o : Bool} {n : Nat} {c : Cd} : hasB o n c = true ↔ Has o c n := by
  unfold hasB Has
  rw [Bool.and_eq_true, List.isPrefixOf_iff_prefix]
  cases o
  · simp
  · simp
theorem range_has {p : List Cd} (hv : valid p = true) {i : Nat} {c : Cd} (hi : p[i]? = some c) {ph : Int} (hp : isPhase ph = true) {n : Int} (n0 : 0 ≤ n) (n1 : n ≤ 99999999) :
    (decide ((range p (i : Int) ph).1 ≤ n) && decide (n < (range p (i : Int) ph).2.1)) = hasB (decide (ph = 1)) n.toNat c := by
  have hf := valid_fine hv (List.mem_of_getElem? hi)
  rw [range_eq hv hi hp, Bool.eq_iff_iff, hasB_iff, Bool.and_eq_true, decide_eq_true_eq, decide_eq_true_eq]
  obtain ⟨n, rfl⟩ := Int.eq_ofNat_of_zero_le n0
  simp only [Int.toNat_natCast, Int.ofNat_le, Int.ofNat_lt]
  have h1 := pre_eight (n := n) hf.dnew (by have := hf.n5; omega) (by omega)
  have hfit := hf.fit; have hl1 := hf.l1; have hn5 := hf.n5
  by_cases h : ph = 1
  · simp only [h, if_true, decide_true, Has, true_implies]
    have hzl : (c.new ++ zeros (cutOf c - c.new.length)).length = cutOf c := by
      simp only [List.length_append, zeros, List.length_replicate]; unfold cutOf room at *; omega
    have hk8 : cutOf c ≤ 8 := by unfold cutOf room at *; omega
    have hkn : c.new.length ≤ cutOf c := by unfold cutOf room at *; omega
    have h2 := pre_eight (c := c.new ++ zeros (cutOf c - c.new.length)) (n := n) (digits_app.2 ⟨hf.dnew, digits_zeros _⟩) (by omega) (by omega)
    rw [hzl, val_append, val_zeros, Nat.add_zero] at h2
    have h3 : (zeros (cutOf c - c.new.length)).length = cutOf c - c.new.length := by simp [zeros]
    rw [h3] at h2
    have h4 : 8 - cutOf c = (room c).toNat := by unfold cutOf room at *; omega
    have h5 : val c.new * 10 ^ (cutOf c - c.new.length) * 10 ^ (8 - cutOf c) = val c.new * 10 ^ (8 - c.new.length) := by
      rw [Nat.mul_assoc, ← Nat.pow_add, show cutOf c - c.new.length + (8 - cutOf c) = 8 - c.new.length by omega]
    rw [Nat.add_mul, Nat.one_mul, h5, h4] at h2
    rw [← h2]
    constructor
    · intro h; exact ⟨(List.prefix_append _ _).trans h, h⟩
    · intro h; exact h.2
  · simp only [h, if_false, decide_false, Has, Bool.false_eq_true, false_implies, and_true]
    rw [h1, Nat.add_mul, Nat.one_mul]
def cnt (p : List Cd) (o : Bool) (n : Nat) (k : Nat) : Nat := ((p.take k).filter (hasB o n)).length
theorem cnt_succ (p : List Cd) (o : Bool) (n k : Nat) (c : Cd) (h : p[k]? = some c) : cnt p o n (k + 1) = cnt p o n k + if hasB o n c then 1 else 0 := by
  unfold cnt
  rw [List.take_add_one, h, Option.toList_some, List.filter_append, List.length_append]
  rw [List.filter_cons]
  cases hasB o n c <;> simp
theorem cnt_le (p : List Cd) (o : Bool) (n k : Nat) : cnt p o n k ≤ k := by
  unfold cnt
  have h1 := List.length_filter_le (hasB o n) (p.take k)
  simp at h1; omega
theorem cnt_some {p : List Cd} {o : Bool} {n : Nat} : 0 < cnt p o n p.length ↔ ∃ (i : Nat) (c : Cd), p[i]? = some c ∧ Has o c n := by
  unfold cnt
  rw [List.take_of_length_le (Nat.le_refl _), List.length_pos_iff_exists_mem]
  constructor
  · rintro ⟨c, hc⟩
    rw [List.mem_filter, hasB_iff] at hc
    obtain ⟨i, hi⟩ := List.mem_iff_getElem?.1 hc.1
    exact ⟨i, c, hi, hc.2⟩
  · rintro ⟨i, c, hi, hh⟩
    exact ⟨c, List.mem_filter.2 ⟨List.mem_of_getElem? hi, hasB_iff.2 hh⟩⟩
theorem cnt_one {p : List Cd} (hv : valid p = true) (o : Bool) (n : Nat) : ∀ k, cnt p o n k ≤ 1 := by
  intro k
  induction k with
  | zero => simp [cnt]
  | succ k ih =>
    cases hk : p[k]? with
    | none =>
      have : p.length ≤ k := by simpa using hk
      unfold cnt at *
      rw [List.take_of_length_le (by omega)] at *
      exact ih
    | some c =>
      rw [cnt_succ p o n k c hk]
      split
      · next h =>
        have h0 : cnt p o n k = 0 := by
          unfold cnt
          rw [List.length_eq_zero_iff, List.filter_eq_nil_iff]
          intro d hd hB
          obtain ⟨j, hj⟩ := List.mem_iff_getElem?.1 hd
          have hj' : p[j]? = some d ∧ j < k := by
            rw [List.getElem?_take] at hj
            split at hj
            · exact ⟨hj, by assumption⟩
            · cases hj
          have := heads_same hv (o := false) (u := false) hj'.1 hk (hasB_iff.1 hB).1 (hasB_iff.1 h).1
          omega
        omega
      · omega
theorem cnt_mono {p : List Cd} (n k : Nat) : cnt p true n k ≤ cnt p false n k := by
  unfold cnt
  induction p.take k with
  | nil => simp
  | cons c l ih =>
    rw [List.filter_cons, List.filter_cons]
    have : hasB true n c = true → hasB false n c = true := fun h => hasB_iff.2 ⟨(hasB_iff.1 h).1, fun h => by cases h⟩
    cases h1 : hasB true n c <;> cases h2 : hasB false n c
    · simpa using ih
    · simp; omega
    · rw [this h1] at h2; cases h2
    · simp; omega
theorem cnt_write {p : List Cd} (hv : valid p = true) {n ph : Int} (hp : isPhase ph = true) (h0 : 0 ≤ n) (h1 : n ≤ 99999999) : cnt p (decide (ph = 1)) n.toNat p.length = if (write p n ph).2 = 0 then 1 else 0 := by
  have h2 := cnt_one hv (decide (ph = 1)) n.toNat p.length
  rcases write_cases hv hp h0 h1 with ⟨i, c, hi, hh, h⟩ | ⟨hn, h⟩
  · rw [h]
    have := cnt_some.2 ⟨i, c, hi, hh⟩
    simp only [if_true]; omega
  · rw [h]
    have : ¬ 0 < cnt p (decide (ph = 1)) n.toNat p.length := fun hc => by
      obtain ⟨i, c, hi, hh⟩ := cnt_some.1 hc
      exact hn i c hi hh
    simp only [show ¬ (120 : Int) = 0 by decide, if_false]; omega
/-! ### a further code -/
theorem grows {p q : List Cd} (hv : valid p = true) (hq : valid q = true) (hpq : p <+: q) {n ph : Int} (hp : isPhase ph = true) (h0 : 0 ≤ n) (h1 : n ≤ 99999999) (h : (write p n ph).2 = 0) (t : S) (ht : digits t = true) (hl : t.length ≤ 8) :
    write q n ph = write p n ph ∧ read q ((write p n ph).1 ++ t) ph = read p ((write p n ph).1 ++ t) ph ∧ (read p ((write p n ph).1 ++ t) ph).1.kind = 2 ∧ (read p ((write p n ph).1 ++ t) ph).2 = 0 := by
  obtain ⟨i, c, hi, hh, hw⟩ := write_form hv hp h0 h1 h
  have hi' : q[i]? = some c := by
    obtain ⟨u, rfl⟩ := hpq
    rw [List.getElem?_append_left (List.getElem?_eq_some_iff.1 hi).1]; exact hi
  rw [hw, write_ok hq hp hi' h0 h1 hh]
  have r1 := read_form hv hp hi (may_phase hp) (n := n.toNat) (by omega) hh t ht hl
  have r2 := read_form hq hp hi' (may_phase hp) (n := n.toNat) (by omega) hh t ht hl
  simp only [r1, r2, and_self]
/-! ### digits one by one -/
theorem okay_app {p : List Cd} {ph : Int} {s t : S} (ok : Okay p ph (s ++ t)) : Okay p ph s := ⟨ok.v, (digits_app.1 ok.d).1, by have := ok.l; rw [List.length_append] at this; omega, ok.ph⟩
theorem read_more {p : List Cd} {ph : Int} {s t : S} (ok : Okay p ph (s ++ t)) (h : (read p s ph).1.kind ≠ 1) : read p (s ++ t) ph = read p s ph := by
  rcases read_cases (okay_app ok) with ⟨_, _, _, _, _, hr⟩ | ⟨i, c, o, hit, hlo, hr⟩ | ⟨_, _, hr⟩ | ⟨hmiss, hst, hr⟩
  · rw [hr] at h; simp at h
  · have hit2 : Hit p ph (s ++ t) i c o := ⟨hit.at_, hit.may_, hit.pre.trans (List.prefix_append _ _)⟩
    rw [read_hit ok hit2, if_neg (show ¬ ((s ++ t).length : Int) < long o c by rw [List.length_append]; omega), hr]
    have : said o c (s ++ t) = said o c s := by
      unfold said
      rw [List.take_append_of_le_length (by omega)]
    rw [this]
  · rw [hr] at h; simp at h
  · rw [hr]
    have hm : ∀ i c o, ¬ Hit p ph (s ++ t) i c o := by
      intro i c o hh
      rcases Nat.le_total (head o c).length s.length with hl | hl
      · exact hmiss i c o ⟨hh.at_, hh.may_, List.prefix_of_prefix_length_le hh.pre (List.prefix_append _ _) hl⟩
      · exact hst ⟨i, c, o, hh.at_, hh.may_, List.prefix_of_prefix_length_le (List.prefix_append _ _) hh.pre hl⟩
    rcases read_miss ok hm with ⟨⟨i, c, o, hi, hmay, hpre⟩, _⟩ | ⟨_, h⟩
    · exact absurd ⟨i, c, o, hi, hmay, (List.prefix_append _ _).trans hpre⟩ hst
    · exact h
theorem read_empty {p : List Cd} {ph : Int} (ok : Okay p ph []) : (read p [] ph).1.kind ≠ 2 := by
  rcases read_cases ok with ⟨_, _, _, _, _, hr⟩ | ⟨i, c, o, hit, hlo, hr⟩ | ⟨_, _, hr⟩ | ⟨_, _, hr⟩
  · rw [hr]; simp
  · have := long_le (o := o) (valid_fine ok.v (List.mem_of_getElem? hit.at_))
    simp only [List.length_nil] at hlo; omega
  · rw [hr]; simp
  · rw [hr]; simp
theorem read_used {p : List Cd} {ph : Int} {s : S} (ok : Okay p ph s) (h : (read p s ph).1.kind = 2) : (read p s ph).1.used ≤ s.length := (forms_back ok h).2.2.2.1
theorem dig_byte (d : Nat) (h : d < 10) : digits [(48 + UInt8.ofNat d)] = true := by
  have : ∀ d : Fin 10, digits [(48 + UInt8.ofNat d.val)] = true := by decide
  exact this ⟨d, h⟩
theorem byte_dig (c : UInt8) (h : 48 ≤ c.toNat ∧ c.toNat ≤ 57) : c = 48 + UInt8.ofNat (c.toNat - 48) := by
  apply UInt8.toNat_inj.1
  rw [UInt8.toNat_add, UInt8.toNat_ofNat']
  simp; omega
theorem more_step {p : List Cd} {ph : Int} {s : S} (ok : Okay p ph s) (h : (read p s ph).1.kind = 1) : s.length < 8 ∧ ∃ d, d < 10 ∧ (read p (s ++ [48 + UInt8.ofNat d]) ph).1.kind ≠ 0 := by
  have step : s.length < 8 → ∀ d, d < 10 → Okay p ph (s ++ [48 + UInt8.ofNat d]) := fun hl d hd => ⟨ok.v, digits_app.2 ⟨ok.d, dig_byte d hd⟩, by simp; omega, ok.ph⟩
  have hitk : ∀ {i c o t}, Okay p ph t → Hit p ph t i c o → (read p t ph).1.kind ≠ 0 := by
    intro i c o t okt hit
    rw [read_hit okt hit]
    split <;> simp
  rcases read_cases ok with ⟨i, c, o, hit, hlt, hr⟩ | ⟨i, c, o, hit, hlo, hr⟩ | ⟨hmiss, ⟨i, c, o, hi, hm, hpre⟩, hr⟩ | ⟨hmiss, hst, hr⟩
  · have hl := long_le (o := o) (valid_fine ok.v (List.mem_of_getElem? hit.at_))
    have h8 : s.length < 8 := by omega
    exact ⟨h8, 0, by omega, hitk (step h8 0 (by omega)) ⟨hit.at_, hit.may_, hit.pre.trans (List.prefix_append _ _)⟩⟩
  · rw [hr] at h; simp at h
  · have hf := valid_fine ok.v (List.mem_of_getElem? hi)
    have hl := long_le (o := o) hf
    have h5 := hpre.length_le
    have h8 : s.length < 8 := by omega
    obtain ⟨u, hu⟩ := hpre
    cases u with
    | nil =>
      rw [List.append_nil] at hu
      exact absurd ⟨hi, hm, by rw [hu]; exact List.prefix_refl _⟩ (hmiss i c o)
    | cons b u =>
      have hdh : digits (head o c) = true := by
        cases o
        · exact hf.dnew
        · exact hf.dold
      have hb := digits_mem hdh b (by rw [← hu]; simp)
      refine ⟨h8, b.toNat - 48, by omega, ?_⟩
      rw [← byte_dig b hb]
      have ok2 : Okay p ph (s ++ [b]) := by
        have := step h8 (b.toNat - 48) (by omega)
        rwa [← byte_dig b hb] at this
      have hpre2 : s ++ [b] <+: head o c := ⟨u, by rw [← hu]; simp⟩
      by_cases hh : ∃ i c o, Hit p ph (s ++ [b]) i c o
      · obtain ⟨_, _, _, hh⟩ := hh
        exact hitk ok2 hh
      · rcases read_miss ok2 (fun i c o hx => hh ⟨i, c, o, hx⟩) with ⟨_, h⟩ | ⟨hn, _⟩
        · rw [h]; simp
        · exact absurd ⟨i, c, o, hi, hm, hpre2⟩ hn
  · rw [hr] at h; simp at h
theorem read_kind {p : List Cd} {ph : Int} {s : S} (ok : Okay p ph s) : (read p s ph).1.kind = 0 ∨ (read p s ph).1.kind = 1 ∨ (read p s ph).1.kind = 2 := by
  rcases read_cases ok with ⟨_, _, _, _, _, h⟩ | ⟨_, _, _, _, _, h⟩ | ⟨_, _, h⟩ | ⟨_, _, h⟩ <;> rw [h] <;> simp
theorem digits_text (x : List Int) : digits (text x) = true := by
  unfold digits text
  rw [List.all_map, List.all_eq_true]
  intro c _
  have h := pick_lt' c 10 (by decide)
  have := dig_byte (pick c 10).toNat (by omega)
  simpa [digits] using this
theorem text_len (x : List Int) : (text x).length ≤ x.length ∧ (text x).length ≤ 17 := by
  unfold text; simp; omega
theorem write_digits {p : List Cd} (hv : valid p = true) {n ph : Int} (hp : isPhase ph = true) (h0 : 0 ≤ n) (h1 : n ≤ 99999999) : digits (write p n ph).1 = true ∧ (write p n ph).1.length ≤ 8 ∧ ((write p n ph).2 = 0 ∨ (write p n ph = ([], 120))) := by
  rcases write_cases hv hp h0 h1 with ⟨i, c, hi, hh, h⟩ | ⟨_, h⟩
  · rw [h]
    have hf := valid_fine hv (List.mem_of_getElem? hi)
    have h2 := form_len (o := decide (ph = 1)) (n := n.toNat) hf
    have h3 := long_le (o := decide (ph = 1)) hf
    exact ⟨form_digits hf, by simp only; omega, .inl rfl⟩
  · rw [h]; exact ⟨rfl, by simp, .inr rfl⟩
end Pl
namespace Pl
/-- what the reference takes for the beginning of a number, at one code -/
def moreC (ph : Int) (s : S) (c : Cd) : Bool :=
  (decide (ph ≠ 3) && (s.isPrefixOf c.old || c.old.isPrefixOf s)) || (decide (ph ≠ 1) && (s.isPrefixOf c.new || c.new.isPrefixOf s))
def moreTo (ph : Int) (s : S) (p : List Cd) (k : Nat) : Bool := (p.take k).any (moreC ph s)
theorem moreTo_succ {ph : Int} {s : S} {p : List Cd} {k : Nat} {c : Cd} (h : p[k]? = some c) : moreTo ph s p (k + 1) = (moreTo ph s p k || moreC ph s c) := by
  obtain ⟨hk, rfl⟩ := List.getElem?_eq_some_iff.1 h
  unfold moreTo
  rw [take_snoc p k hk, List.any_append]
  simp
/-- no code below k whose form stands there whole -/
def NoLong (p : List Cd) (ph : Int) (s : S) (k : Nat) : Prop := ∀ (j : Nat) (c : Cd) (o : Bool), j < k → p[j]? = some c → may o ph → head o c <+: s → (s.length : Int) < long o c
theorem NoLong.zero {p : List Cd} {ph : Int} {s : S} : NoLong p ph s 0 := fun j c o h => by omega
theorem NoLong.succ {p : List Cd} {ph : Int} {s : S} {k : Nat} {c : Cd} (h : NoLong p ph s k) (hc : p[k]? = some c) (h1 : ∀ o, may o ph → head o c <+: s → (s.length : Int) < long o c) : NoLong p ph s (k + 1) := fun j d o hj hd hm hp => by
  rcases Nat.lt_or_ge j k with hl | hl
  · exact h j d o hl hd hm hp
  · obtain rfl : j = k := by omega
    rw [hc] at hd
    obtain rfl : c = d := by simpa using hd
    exact h1 o hm hp
theorem moreC_of {ph : Int} {s : S} {c : Cd} {o : Bool} (hm : may o ph) (h : s <+: head o c ∨ head o c <+: s) : moreC ph s c = true := by
  cases o
  · have hm' : ph ≠ 1 := by simpa [may] using hm
    simp only [head, Bool.false_eq_true, if_false] at h
    unfold moreC
    rcases h with h | h
    · rw [List.isPrefixOf_iff_prefix.2 h, decide_eq_true hm']; simp
    · rw [List.isPrefixOf_iff_prefix.2 h, decide_eq_true hm']; simp
  · have hm' : ph ≠ 3 := by simpa [may] using hm
    simp only [head, if_true] at h
    unfold moreC
    rcases h with h | h
    · rw [List.isPrefixOf_iff_prefix.2 h, decide_eq_true hm']; simp
    · rw [List.isPrefixOf_iff_prefix.2 h, decide_eq_true hm']; simp
theorem of_moreC {ph : Int} {s : S} {c : Cd} (h : moreC ph s c = true) : ∃ o, may o ph ∧ (s <+: head o c ∨ head o c <+: s) := by
  unfold moreC at h
  simp only [Bool.or_eq_true, Bool.and_eq_true, decide_eq_true_eq] at h
  rcases h with ⟨h1, h2⟩ | ⟨h1, h2⟩
  · exact ⟨true, by simpa [may] using h1, by simpa [head, List.isPrefixOf_iff_prefix] using h2⟩
  · exact ⟨false, by simpa [may] using h1, by simpa [head, List.isPrefixOf_iff_prefix] using h2⟩
theorem moreTo_all {ph : Int} {s : S} {p : List Cd} : moreTo ph s p p.length = true ↔ ∃ (i : Nat) (c : Cd), p[i]? = some c ∧ moreC ph s c = true := by
  unfold moreTo
  rw [List.take_length, List.any_eq_true]
  constructor
  · rintro ⟨c, h1, h2⟩
    obtain ⟨i, hi⟩ := List.mem_iff_getElem?.1 h1
    exact ⟨i, c, hi, h2⟩
  · rintro ⟨i, c, hi, h2⟩
    exact ⟨c, List.mem_of_getElem? hi, h2⟩
theorem read_end {p : List Cd} {ph : Int} {s : S} (ok : Okay p ph s) (h : NoLong p ph s p.length) : read p s ph = (⟨if moreTo ph s p p.length then 1 else 0, 0, 0, 0⟩, 0) := by
  rcases read_cases ok with ⟨i, c, o, hh, hl, hr⟩ | ⟨i, c, o, hh, hl, hr⟩ | ⟨hno, ⟨i, c, o, hi, hm, hs⟩, hr⟩ | ⟨hno, hns, hr⟩
  · rw [hr, moreTo_all.2 ⟨i, c, hh.at_, moreC_of hh.may_ (.inr hh.pre)⟩]; rfl
  · have := h i c o (List.getElem?_eq_some_iff.1 hh.at_).1 hh.at_ hh.may_ hh.pre
    omega
  · rw [hr, moreTo_all.2 ⟨i, c, hi, moreC_of hm (.inl hs)⟩]; rfl
  · have hf : moreTo ph s p p.length = false := by
      rw [Bool.eq_false_iff]
      intro ht
      obtain ⟨i, c, hi, hc⟩ := moreTo_all.1 ht
      obtain ⟨o, hm, h1 | h1⟩ := of_moreC hc
      · exact hns ⟨i, c, o, hi, hm, h1⟩
      · exact hno i c o ⟨hi, hm, h1⟩
    rw [hr, hf]; rfl
theorem read_long {p : List Cd} {ph : Int} {s : S} (ok : Okay p ph s) {i : Nat} {c : Cd} {o : Bool} (hi : p[i]? = some c) (hm : may o ph) (hp : head o c <+: s) (hl : long o c ≤ s.length) :
    read p s ph = (⟨2, val (said o c s), (i : Int), long o c⟩, 0) := by
  rw [read_hit ok ⟨hi, hm, hp⟩, if_neg (by omega)]
/-- a new form says its first eight digits -/
theorem said_new {c : Cd} {s : S} (hp : c.new <+: s) (h5 : c.new.length ≤ 8) : said false c s = s.take 8 := by
  unfold said
  simp only [stand, long, head, Bool.false_eq_true, if_false]
  obtain ⟨t, rfl⟩ := hp
  show c.new ++ ((c.new ++ t).take 8).drop c.new.length = _
  rw [List.take_append, List.take_of_length_le h5, List.drop_left]
/-- an old form's digits, one after the other -/
theorem said_old (c : Cd) (s : S) : said true c s = (c.new ++ zeros (8 - c.new.length - room c).toNat) ++ (s.take c.len.toNat).drop c.old.length := by
  unfold said
  simp only [stand, long, head, if_true]
theorem drop_snoc (s : S) (a k : Nat) (hk : k < s.length) (ha : a ≤ k) : (s.take (k + 1)).drop a = (s.take k).drop a ++ [s[k]] := by
  rw [take_snoc s k hk, List.drop_append_of_le_length (by rw [List.length_take]; omega)]
theorem val_zeros_snoc (t : S) (j : Nat) : val (t ++ zeros (j + 1)) = 10 * val (t ++ zeros j) := by
  have : zeros (j + 1) = zeros j ++ [48] := by unfold zeros; exact List.replicate_succ'
  rw [this, ← List.append_assoc, val_snoc]
  simp
end Pl

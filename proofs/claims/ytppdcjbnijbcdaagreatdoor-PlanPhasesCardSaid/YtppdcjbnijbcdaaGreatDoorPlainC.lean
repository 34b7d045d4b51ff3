/- Plain laws of numbering plans, of no program: plans that are made, numbers, digits one by one, ranges, a further code. -/
import Derived.Test.YtppdcjbnijbcdaaGreatDoorPlainB
namespace Pl
/-! ### plans that are made -/
theorem valid_nil : valid [] = true := rfl
theorem made_aux : ∀ (l : List T3) (p : List Cd), valid p = true → p.length ≤ 8 → valid (l.foldl madeStep p) = true ∧ (l.foldl madeStep p).length ≤ 8
  | [], p, h, hl => ⟨h, hl⟩
  | x :: l, p, h, hl => by
    rw [List.foldl_cons]
    refine made_aux l _ ?_ ?_
    · unfold madeStep
      split
      · split
        · assumption
        · exact h
      · exact h
    · unfold madeStep
      split
      · split
        · simp; omega
        · exact hl
      · exact hl
theorem made_valid (x : List T3) : valid (made x) = true := (made_aux _ [] valid_nil (by simp)).1
theorem made_len (x : List T3) : (made x).length ≤ 8 := (made_aux _ [] valid_nil (by simp)).2
/-! ### ranges -/
theorem pow_int (k : Nat) : ((10 ^ k : Nat) : Int) = (10 : Int) ^ k := by simp
theorem range_eq {p : List Cd} (hv : valid p = true) {i : Nat} {c : Cd} (hi : p[i]? = some c) {ph : Int} (hp : isPhase ph = true) :
    range p (i : Int) ph = (((val c.new * 10 ^ (8 - c.new.length) : Nat) : Int), ((val c.new * 10 ^ (8 - c.new.length) + (if ph = 1 then 10 ^ (room c).toNat else 10 ^ (8 - c.new.length)) : Nat) : Int), 0) := by
  have hlt : i < p.length := (List.getElem?_eq_some_iff.1 hi).1
  unfold range
  rw [hv, hp, show within (i : Int) 0 ((p.length : Int) - 1) = true by simp [within]; omega]
  simp only [Bool.not_true, Bool.or_self, Bool.false_eq_true, if_false, Int.toNat_natCast, hi]
  split <;> simp
theorem range_in {p : List Cd} (hv : valid p = true) {i : Nat} {c : Cd} (hi : p[i]? = some c) {ph : Int} (hp : isPhase ph = true) :
    0 ≤ (range p (i : Int) ph).1 ∧ (range p (i : Int) ph).1 < (range p (i : Int) ph).2.1 ∧ (range p (i : Int) ph).2.1 ≤ (range p (i : Int) 2).2.1 ∧ (range p (i : Int) 2).2.1 ≤ 100000000 ∧ (range p (i : Int) ph).1 = (range p (i : Int) 2).1 ∧ (range p (i : Int) ph).2.2 = 0 := by
  rw [range_eq hv hi hp, range_eq hv hi (ph := 2) (by decide)]
  have hf := valid_fine hv (List.mem_of_getElem? hi)
  have hlt := val_lt _ hf.dnew
  have hn5 := hf.n5
  have h1 : (room c).toNat ≤ 8 - c.new.length := by have := hf.fit; omega
  have h2 : 10 ^ (room c).toNat ≤ 10 ^ (8 - c.new.length) := Nat.pow_le_pow_right (by decide) h1
  have h3 : 0 < 10 ^ (room c).toNat := Nat.pow_pos (by decide)
  have h4 : 0 < 10 ^ (8 - c.new.length) := Nat.pow_pos (by decide)
  have h5 : (val c.new + 1) * 10 ^ (8 - c.new.length) ≤ 10 ^ c.new.length * 10 ^ (8 - c.new.length) := Nat.mul_le_mul_right _ hlt
  rw [← Nat.pow_add, show c.new.length + (8 - c.new.length) = 8 by omega, Nat.add_mul, Nat.one_mul] at h5
  have e8 : (10 : Nat) ^ 8 = 100000000 := by decide
  rw [e8] at h5
  generalize val c.new * 10 ^ (8 - c.new.length) = a at *
  generalize 10 ^ (8 - c.new.length) = b at *
  generalize 10 ^ (room c).toNat = d at *
  simp only [show ¬ (2 : Int) = 1 by decide, if_false]
  refine ⟨by omega, ?_, ?_, by omega, by trivial, by trivial⟩
  · split <;> omega
  · split <;> omega
theorem pick_lt' (c n : Int) (h : 0 < n) : 0 ≤ pick c n ∧ pick c n < n := ⟨Int.emod_nonneg _ (by omega), Int.emod_lt_of_pos _ h⟩
theorem phase_pick (c : Int) : isPhase (1 + pick c 3) = true := by
  have := pick_lt' c 3 (by decide)
  simp [isPhase, within]; omega
theorem number_in {p : List Cd} (hv : valid p = true) (which n : Int) : 0 ≤ number p which n ∧ number p which n ≤ 99999999 := by
  unfold number
  split
  · have := pick_lt' n 100000000 (by decide); omega
  · next h =>
    have hl : 0 < p.length := by omega
    have h1 := pick_lt' (which.tdiv 16) p.length (by omega)
    obtain ⟨i, hi⟩ := Int.eq_ofNat_of_zero_le h1.1
    have hlt : i < p.length := by omega
    rw [hi]
    obtain ⟨a, b, c, d, e, _⟩ := range_in hv (List.getElem?_eq_getElem hlt) (phase_pick which)
    have h2 := pick_lt' n ((range p (i : Int) (1 + pick which 3)).2.1 - (range p (i : Int) (1 + pick which 3)).1) (by omega)
    simp only
    omega
theorem range_ok {p : List Cd} (hv : valid p = true) : 0 < p.length → ∀ i ph : Int, 0 ≤ i → i < p.length → 1 ≤ ph → ph ≤ 3 → 0 ≤ (range p i ph).1 ∧ (range p i ph).1 < (range p i ph).2.1 ∧ (range p i ph).2.1 ≤ 1000000000 := by
  intro _ i ph h1 h2 h3 h4
  obtain ⟨i, rfl⟩ := Int.eq_ofNat_of_zero_le h1
  obtain ⟨a, b, c, d, _⟩ := range_in hv (List.getElem?_eq_getElem (show i < p.length by omega)) (ph := ph) (by simp [isPhase, within]; omega)
  exact ⟨a, b, by omega⟩
def hasB (o : Bool) (n : Nat) (c : Cd) : Bool := c.new.isPrefixOf (eight n) && (!o || (c.new ++ zeros (cutOf c - c.new.length)).isPrefixOf (eight n))
theorem hasB_iff {o : Bool} {n : Nat} {c : Cd} : hasB o n c = true ↔ Has o c n := by
  unfold hasB Has
  rw [Bool.and_eq_true, List.isPrefixOf_iff_prefix]
  cases o
  · simp
  · simp
theorem range_has {p : List Cd} (hv : valid p = true) {i : Nat} {c : Cd} (hi : p[i]? = some c) {ph : Int} (hp : isPhase ph = true) {n : Int} (n0 : 0 ≤ n) (n1 : n ≤ 99999999) :
    (decide ((range p (i : Int) ph).1 ≤ n) && decide (n < (range p (i : Int) ph).2.1)) = hasB (decide (ph = 1)) n.toNat c := by
  have hf := valid_fine hv (List.mem_of_getElem? hi)
  rw [range_eq hv hi hp, Bool.eq_iff_iff, hasB_iff, Bool.and_eq_true, decide_eq_true_eq, decide_eq_true_eq]
  obtain ⟨n, rfl⟩ := Int.eq_ofNat_of_zero_le n0
  simp only [Int.toNat_natCast, Int.ofNat_le, Int.ofNat_lt]
  have h1 := pre_eight (n := n) hf.dnew (by have := hf.n5; omega) (by omega)
  have hfit := hf.fit; have hl1 := hf.l1; have hn5 := hf.n5
  by_cases h : ph = 1
  · simp only [h, if_true, decide_true, Has, true_implies]
    have hzl : (c.new ++ zeros (cutOf c - c.new.length)).length = cutOf c := by
      simp only [List.length_append, zeros, List.length_replicate]; unfold cutOf room at *; omega
    have hk8 : cutOf c ≤ 8 := by unfold cutOf room at *; omega
    have hkn : c.new.length ≤ cutOf c := by unfold cutOf room at *; omega
    have h2 := pre_eight (c := c.new ++ zeros (cutOf c - c.new.length)) (n := n) (digits_app.2 ⟨hf.dnew, digits_zeros _⟩) (by omega) (by omega)
    rw [hzl, val_append, val_zeros, Nat.add_zero] at h2
    have h3 : (zeros (cutOf c - c.new.length)).length = cutOf c - c.new.length := by simp [zeros]
    rw [h3] at h2
    have h4 : 8 - cutOf c = (room c).toNat := by unfold cutOf room at *; omega
    have h5 : val c.new * 10 ^ (cutOf c - c.new.length) * 10 ^ (8 - cutOf c) = val c.new * 10 ^ (8 - c.new.length) := by
      rw [Nat.mul_assoc, ← Nat.pow_add, show cutOf c - c.new.length + (8 - cutOf c) = 8 - c.new.length by omega]
    rw [Nat.add_mul, Nat.one_mul, h5, h4] at h2
    rw [← h2]
    constructor
    · intro h; exact ⟨(List.prefix_append _ _).trans h, h⟩
    · intro h; exact h.2
  · simp only [h, if_false, decide_false, Has, Bool.false_eq_true, false_implies, and_true]
    rw [h1, Nat.add_mul, Nat.one_mul]
def cnt (p : List Cd) (o : Bool) (n : Nat) (k : Nat) : Nat := ((p.take k).filter (hasB o n)).length
theorem cnt_succ (p : List Cd) (o : Bool) (n k : Nat) (c : Cd) (h : p[k]? = some c) : cnt p o n (k + 1) = cnt p o n k + if hasB o n c then 1 else 0 := by
  unfold cnt
  rw [List.take_add_one, h, Option.toList_some, List.filter_append, List.length_append]
  rw [List.filter_cons]
  cases hasB o n c <;> simp
theorem cnt_le (p : List Cd) (o : Bool) (n k : Nat) : cnt p o n k ≤ k := by
  unfold cnt
  have h1 := List.length_filter_le (hasB o n) (p.take k)
  simp at h1; omega
theorem cnt_some {p : List Cd} {o : Bool} {n : Nat} : 0 < cnt p o n p.length ↔ ∃ (i : Nat) (c : Cd), p[i]? = some c ∧ Has o c n := by
  unfold cnt
  rw [List.take_of_length_le (Nat.le_refl _), List.length_pos_iff_exists_mem]
  constructor
  · rintro ⟨c, hc⟩
    rw [List.mem_filter, hasB_iff] at hc
    obtain ⟨i, hi⟩ := List.mem_iff_getElem?.1 hc.1
    exact ⟨i, c, hi, hc.2⟩
  · rintro ⟨i, c, hi, hh⟩
    exact ⟨c, List.mem_filter.2 ⟨List.mem_of_getElem? hi, hasB_iff.2 hh⟩⟩
theorem cnt_one {p : List Cd} (hv : valid p = true) (o : Bool) (n : Nat) : ∀ k, cnt p o n k ≤ 1 := by
  intro k
  induction k with
  | zero => simp [cnt]
  | succ k ih =>
    cases hk : p[k]? with
    | none =>
      have : p.length ≤ k := by simpa using hk
      unfold cnt at *
      rw [List.take_of_length_le (by omega)] at *
      exact ih
    | some c =>
      rw [cnt_succ p o n k c hk]
      split
      · next h =>
        have h0 : cnt p o n k = 0 := by
          unfold cnt
          rw [List.length_eq_zero_iff, List.filter_eq_nil_iff]
          intro d hd hB
          obtain ⟨j, hj⟩ := List.mem_iff_getElem?.1 hd
          have hj' : p[j]? = some d ∧ j < k := by
            rw [List.getElem?_take] at hj
            split at hj
            · exact ⟨hj, by assumption⟩
            · cases hj
          have := heads_same hv (o := false) (u := false) hj'.1 hk (hasB_iff.1 hB).1 (hasB_iff.1 h).1
          omega
        omega
      · omega
theorem cnt_mono {p : List Cd} (n k : Nat) : cnt p true n k ≤ cnt p false n k := by
  unfold cnt
  induction p.take k with
  | nil => simp
  | cons c l ih =>
    rw [List.filter_cons, List.filter_cons]
    have : hasB true n c = true → hasB false n c = true := fun h => hasB_iff.2 ⟨(hasB_iff.1 h).1, fun h => by cases h⟩
    cases h1 : hasB true n c <;> cases h2 : hasB false n c
    · simpa using ih
    · simp; omega
    · rw [this h1] at h2; cases h2
    · simp; omega
theorem cnt_write {p : List Cd} (hv : valid p = true) {n ph : Int} (hp : isPhase ph = true) (h0 : 0 ≤ n) (h1 : n ≤ 99999999) : cnt p (decide (ph = 1)) n.toNat p.length = if (write p n ph).2 = 0 then 1 else 0 := by
  have h2 := cnt_one hv (decide (ph = 1)) n.toNat p.length
  rcases write_cases hv hp h0 h1 with ⟨i, c, hi, hh, h⟩ | ⟨hn, h⟩
  · rw [h]
    have := cnt_some.2 ⟨i, c, hi, hh⟩
    simp only [if_true]; omega
  · rw [h]
    have : ¬ 0 < cnt p (decide (ph = 1)) n.toNat p.length := fun hc => by
      obtain ⟨i, c, hi, hh⟩ := cnt_some.1 hc
      exact hn i c hi hh
    simp only [show ¬ (120 : Int) = 0 by decide, if_false]; omega
/-! ### a further code -/
theorem grows {p q : List Cd} (hv : valid p = true) (hq : valid q = true) (hpq : p <+: q) {n ph : Int} (hp : isPhase ph = true) (h0 : 0 ≤ n) (h1 : n ≤ 99999999) (h : (write p n ph).2 = 0) (t : S) (ht : digits t = true) (hl : t.length ≤ 8) :
    write q n ph = write p n ph ∧ read q ((write p n ph).1 ++ t) ph = read p ((write p n ph).1 ++ t) ph ∧ (read p ((write p n ph).1 ++ t) ph).1.kind = 2 ∧ (read p ((write p n ph).1 ++ t) ph).2 = 0 := by
  obtain ⟨i, c, hi, hh, hw⟩ := write_form hv hp h0 h1 h
  have hi' : q[i]? = some c := by
    obtain ⟨u, rfl⟩ := hpq
    rw [List.getElem?_append_left (List.getElem?_eq_some_iff.1 hi).1]; exact hi
  rw [hw, write_ok hq hp hi' h0 h1 hh]
  have r1 := read_form hv hp hi (may_phase hp) (n := n.toNat) (by omega) hh t ht hl
  have r2 := read_form hq hp hi' (may_phase hp) (n := n.toNat) (by omega) hh t ht hl
  simp only [r1, r2, and_self]
/-! ### digits one by one -/
theorem okay_app {p : List Cd} {ph : Int} {s t : S} (ok : Okay p ph (s ++ t)) : Okay p ph s := ⟨ok.v, (digits_app.1 ok.d).1, by have := ok.l; rw [List.length_append] at this; omega, ok.ph⟩
theorem read_more {p : List Cd} {ph : Int} {s t : S} (ok : Okay p ph (s ++ t)) (h : (read p s ph).1.kind ≠ 1) : read p (s ++ t) ph = read p s ph := by
  rcases read_cases (okay_app ok) with ⟨_, _, _, _, _, hr⟩ | ⟨i, c, o, hit, hlo, hr⟩ | ⟨_, _, hr⟩ | ⟨hmiss, hst, hr⟩
  · rw [hr] at h; simp at h
  · have hit2 : Hit p ph (s ++ t) i c o := ⟨hit.at_, hit.may_, hit.pre.trans (List.prefix_append _ _)⟩
    rw [read_hit ok hit2, if_neg (show ¬ ((s ++ t).length : Int) < long o c by rw [List.length_append]; omega), hr]
    have : said o c (s ++ t) = said o c s := by
      unfold said
      rw [List.take_append_of_le_length (by omega)]
    rw [this]
  · rw [hr] at h; simp at h
  · rw [hr]
    have hm : ∀ i c o, ¬ Hit p ph (s ++ t) i c o := by
      intro i c o hh
      rcases Nat.le_total (head o c).length s.length with hl | hl
      · exact hmiss i c o ⟨hh.at_, hh.may_, List.prefix_of_prefix_length_le hh.pre (List.prefix_append _ _) hl⟩
      · exact hst ⟨i, c, o, hh.at_, hh.may_, List.prefix_of_prefix_length_le (List.prefix_append _ _) hh.pre hl⟩
    rcases read_miss ok hm with ⟨⟨i, c, o, hi, hmay, hpre⟩, _⟩ | ⟨_, h⟩
    · exact absurd ⟨i, c, o, hi, hmay, (List.prefix_append _ _).trans hpre⟩ hst
    · exact h
theorem read_empty {p : List Cd} {ph : Int} (ok : Okay p ph []) : (read p [] ph).1.kind ≠ 2 := by
  rcases read_cases ok with ⟨_, _, _, _, _, hr⟩ | ⟨i, c, o, hit, hlo, hr⟩ | ⟨_, _, hr⟩ | ⟨_, _, hr⟩
  · rw [hr]; simp
  · have := long_le (o := o) (valid_fine ok.v (List.mem_of_getElem? hit.at_))
    simp only [List.length_nil] at hlo; omega
  · rw [hr]; simp
  · rw [hr]; simp
theorem read_used {p : List Cd} {ph : Int} {s : S} (ok : Okay p ph s) (h : (read p s ph).1.kind = 2) : (read p s ph).1.used ≤ s.length := (forms_back ok h).2.2.2.1
theorem dig_byte (d : Nat) (h : d < 10) : digits [(48 + UInt8.ofNat d)] = true := by
  have : ∀ d : Fin 10, digits [(48 + UInt8.ofNat d.val)] = true := by decide
  exact this ⟨d, h⟩
theorem byte_dig (c : UInt8) (h : 48 ≤ c.toNat ∧ c.toNat ≤ 57) : c = 48 + UInt8.ofNat (c.toNat - 48) := by
  apply UInt8.toNat_inj.1
  rw [UInt8.toNat_add, UInt8.toNat_ofNat']
  simp; omega
theorem more_step {p : List Cd} {ph : Int} {s : S} (ok : Okay p ph s) (h : (read p s ph).1.kind = 1) : s.length < 8 ∧ ∃ d, d < 10 ∧ (read p (s ++ [48 + UInt8.ofNat d]) ph).1.kind ≠ 0 := by
  have step : s.length < 8 → ∀ d, d < 10 → Okay p ph (s ++ [48 + UInt8.ofNat d]) := fun hl d hd => ⟨ok.v, digits_app.2 ⟨ok.d, dig_byte d hd⟩, by simp; omega, ok.ph⟩
  have hitk : ∀ {i c o t}, Okay p ph t → Hit p ph t i c o → (read p t ph).1.kind ≠ 0 := by
    intro i c o t okt hit
    rw [read_hit okt hit]
    split <;> simp
  rcases read_cases ok with ⟨i, c, o, hit, hlt, hr⟩ | ⟨i, c, o, hit, hlo, hr⟩ | ⟨hmiss, ⟨i, c, o, hi, hm, hpre⟩, hr⟩ | ⟨hmiss, hst, hr⟩
  · have hl := long_le (o := o) (valid_fine ok.v (List.mem_of_getElem? hit.at_))
    have h8 : s.length < 8 := by omega
    exact ⟨h8, 0, by omega, hitk (step h8 0 (by omega)) ⟨hit.at_, hit.may_, hit.pre.trans (List.prefix_append _ _)⟩⟩
  · rw [hr] at h; simp at h
  · have hf := valid_fine ok.v (List.mem_of_getElem? hi)
    have hl := long_le (o := o) hf
    have h5 := hpre.length_le
    have h8 : s.length < 8 := by omega
    obtain ⟨u, hu⟩ := hpre
    cases u with
    | nil =>
      rw [List.append_nil] at hu
      exact absurd ⟨hi, hm, by rw [hu]; exact List.prefix_refl _⟩ (hmiss i c o)
    | cons b u =>
      have hdh : digits (head o c) = true := by
        cases o
        · exact hf.dnew
        · exact hf.dold
      have hb := digits_mem hdh b (by rw [← hu]; simp)
      refine ⟨h8, b.toNat - 48, by omega, ?_⟩
      rw [← byte_dig b hb]
      have ok2 : Okay p ph (s ++ [b]) := by
        have := step h8 (b.toNat - 48) (by omega)
        rwa [← byte_dig b hb] at this
      have hpre2 : s ++ [b] <+: head o c := ⟨u, by rw [← hu]; simp⟩
      by_cases hh : ∃ i c o, Hit p ph (s ++ [b]) i c o
      · obtain ⟨_, _, _, hh⟩ := hh
        exact hitk ok2 hh
      · rcases read_miss ok2 (fun i c o hx => hh ⟨i, c, o, hx⟩) with ⟨_, h⟩ | ⟨hn, _⟩
        · rw [h]; simp
        · exact absurd ⟨i, c, o, hi, hm, hpre2⟩ hn
  · rw [hr] at h; simp at h
theorem read_kind {p : List Cd} {ph : Int} {s : S} (ok : Okay p ph s) : (read p s ph).1.kind = 0 ∨ (read p s ph).1.kind = 1 ∨ (read p s ph).1.kind = 2 := by
  rcases read_cases ok with ⟨_, _, _, _, _, h⟩ | ⟨_, _, _, _, _, h⟩ | ⟨_, _, h⟩ | ⟨_, _, h⟩ <;> rw [h] <;> simp
theorem digits_text (x : List Int) : digits (text x) = true := by
  unfold digits text
  rw [List.all_map, List.all_eq_true]
  intro c _
  have h := pick_lt' c 10 (by decide)
  have := dig_byte (pick c 10).toNat (by omega)
  simpa [digits] using this
theorem text_len (x : List Int) : (text x).length ≤ x.length ∧ (text x).length ≤ 17 := by
  unfold text; simp; omega
theorem write_digits {p : List Cd} (hv : valid p = true) {n ph : Int} (hp : isPhase ph = true) (h0 : 0 ≤ n) (h1 : n ≤ 99999999) : digits (write p n ph).1 = true ∧ (write p n ph).1.length ≤ 8 ∧ ((write p n ph).2 = 0 ∨ (write p n ph = ([], 120))) := by
  rcases write_cases hv hp h0 h1 with ⟨i, c, hi, hh, h⟩ | ⟨_, h⟩
  · rw [h]
    have hf := valid_fine hv (List.mem_of_getElem? hi)
    have h2 := form_len (o := decide (ph = 1)) (n := n.toNat) hf
    have h3 := long_le (o := decide (ph = 1)) hf
    exact ⟨form_digits hf, by simp only; omega, .inl rfl⟩
  · rw [h]; exact ⟨rfl, by simp, .inr rfl⟩
end Pl

/- Plain laws of numbering plans, of no program: the statements of the law's functions, of what is read and written. -/
import Derived.Test.YtppdcjbnijbcdaaGreatDoorPlainA
set_option linter.unusedVariables false
namespace Pl
/-- what Write returns -/
theorem write_form {p : List Cd} (hv : valid p = true) {n ph : Int} (hp : isPhase ph = true) (h0 : 0 ≤ n) (h1 : n ≤ 99999999) (h : (write p n ph).2 = 0) :
    ∃ (i : Nat) (c : Cd), p[i]? = some c ∧ Has (decide (ph = 1)) c n.toNat ∧ write p n ph = (form (decide (ph = 1)) c n.toNat, 0) := by
  rcases write_cases hv hp h0 h1 with h2 | ⟨_, h2⟩
  · exact h2
  · rw [h2] at h; simp at h
theorem write_err {p : List Cd} (hv : valid p = true) {n ph : Int} (hp : isPhase ph = true) (h0 : 0 ≤ n) (h1 : n ≤ 99999999) (h : (write p n ph).2 ≠ 0) : write p n ph = ([], 120) := by
  rcases write_cases hv hp h0 h1 with ⟨_, _, _, _, h2⟩ | ⟨_, h2⟩
  · rw [h2] at h; simp at h
  · exact h2
theorem may_phase {ph : Int} (hp : isPhase ph = true) : may (decide (ph = 1)) ph := by
  simp [isPhase, within] at hp
  unfold may
  split
  · next h => simp at h; omega
  · next h => simpa using h
/-- the form of a number is read as the number -/
theorem read_form {p : List Cd} (hv : valid p = true) {ph : Int} (hp : isPhase ph = true) {i : Nat} {c : Cd} (hi : p[i]? = some c) {o : Bool} (hm : may o ph) {n : Nat} (hn : n < 100000000) (hh : Has o c n) (t : S) (ht : digits t = true) (hl : t.length ≤ 8) :
    read p (form o c n ++ t) ph = (⟨2, (n : Int), (i : Int), ((form o c n).length : Int)⟩, 0) := by
  have hf := valid_fine hv (List.mem_of_getElem? hi)
  have hlen := form_len (o := o) (n := n) hf
  have hll := long_le (o := o) hf
  have ok : Okay p ph (form o c n ++ t) := ⟨hv, digits_app.2 ⟨form_digits hf, ht⟩, by rw [List.length_append]; omega, hp⟩
  have hit : Hit p ph (form o c n ++ t) i c o := ⟨hi, hm, (form_head hh).trans (List.prefix_append _ _)⟩
  rw [read_hit ok hit, if_neg (by rw [List.length_append]; omega), form_said hf hh, val_eight n hn, hlen]
/-! ### PlanUnique -/
theorem unique {p : List Cd} (hv : valid p = true) {m n ph qh : Int} (hp : isPhase ph = true) (hq : isPhase qh = true) (m0 : 0 ≤ m) (m1 : m ≤ 99999999) (n0 : 0 ≤ n) (n1 : n ≤ 99999999) (e : (write p m ph).2 = 0) (f : (write p n qh).2 = 0) :
    (m = n ∧ (decide (ph = 1) = decide (qh = 1)) → (write p m ph).1 = (write p n qh).1) ∧
    (¬ (m = n ∧ (decide (ph = 1) = decide (qh = 1))) → ¬ (write p m ph).1 <+: (write p n qh).1) := by
  obtain ⟨i, c, hi, hh, hw⟩ := write_form hv hp m0 m1 e
  obtain ⟨j, d, hj, hk, hx⟩ := write_form hv hq n0 n1 f
  rw [hw, hx]
  simp only
  constructor
  · rintro ⟨rfl, ho⟩
    rw [ho] at hh ⊢
    obtain ⟨rfl, _, rfl⟩ := heads_same hv (o := false) (u := false) hi hj hh.1 hk.1
    rfl
  · intro hne hpre
    refine hne ?_
    obtain ⟨rfl, ho, rfl⟩ := heads_same hv hi hj ((form_head hh).trans hpre) (form_head hk)
    refine ⟨?_, ho⟩
    have hf := valid_fine hv (List.mem_of_getElem? hi)
    have hl : (form (decide (ph = 1)) c m.toNat).length = (form (decide (qh = 1)) c n.toNat).length := by
      have h1 := form_len (o := decide (ph = 1)) (n := m.toNat) hf
      have h2 := form_len (o := decide (qh = 1)) (n := n.toNat) hf
      rw [ho] at h1
      rw [ho]
      omega
    have he := hpre.eq_of_length hl
    have h1 := form_said hf hh []
    have h2 := form_said hf hk []
    rw [List.append_nil, he, ho] at h1
    rw [List.append_nil] at h2
    rw [h1] at h2
    have h3 := val_eight m.toNat (by omega)
    have h4 := val_eight n.toNat (by omega)
    rw [h2, h4] at h3
    omega
/-! ### PlanSameLine -/
theorem same_line {p : List Cd} (hv : valid p = true) {n : Int} (n0 : 0 ≤ n) (n1 : n ≤ 99999999) (e : (write p n 1).2 = 0) :
    ∃ (s t : S) (i : Nat), write p n 1 = (s, 0) ∧ write p n 3 = (t, 0) ∧ t.length = 8 ∧ s.length < 8 ∧ digits s = true ∧ digits t = true ∧ read p s 2 = (⟨2, n, (i : Int), (s.length : Int)⟩, 0) ∧ read p t 2 = (⟨2, n, (i : Int), (t.length : Int)⟩, 0) := by
  obtain ⟨i, c, hi, hh, hw⟩ := write_form hv (by decide) n0 n1 e
  have hf := valid_fine hv (List.mem_of_getElem? hi)
  have hk : Has (decide ((3 : Int) = 1)) c n.toNat := ⟨hh.1, fun h => by simp at h⟩
  have hx := write_ok hv (ph := 3) (by decide) hi n0 n1 hk
  have r1 := read_form hv (ph := 2) (by decide) hi (o := true) (by simp [may]) (n := n.toNat) (by omega) hh [] rfl (by simp)
  have r2 := read_form hv (ph := 2) (by decide) hi (o := false) (by simp [may]) (n := n.toNat) (by omega) hk [] rfl (by simp)
  rw [List.append_nil] at r1 r2
  refine ⟨_, _, i, hw, hx, by simp [form, eight_len], ?_, form_digits hf, form_digits hf, ?_, ?_⟩
  · have := form_len (o := true) (n := n.toNat) hf
    have h7 := hf.l7
    simp only [long, if_true] at this
    simp only [decide_true]
    omega
  · rw [show (decide ((1 : Int) = 1)) = true from rfl, r1, show ((n.toNat : Nat) : Int) = n by omega]
  · rw [show (decide ((3 : Int) = 1)) = false from rfl, r2, show ((n.toNat : Nat) : Int) = n by omega]
/-! ### PlanForms -/
theorem forms_back {p : List Cd} {ph : Int} {t : S} (ok : Okay p ph t) (hk : (read p t ph).1.kind = 2) :
    0 ≤ (read p t ph).1.number ∧ (read p t ph).1.number ≤ 99999999 ∧ 0 ≤ (read p t ph).1.used ∧ (read p t ph).1.used ≤ t.length ∧ (write p (read p t ph).1.number 3).2 = 0 ∧
    ((t.take (read p t ph).1.used.toNat = (write p (read p t ph).1.number 3).1 ∧ ph ≠ 1) ∨ ((write p (read p t ph).1.number 1).2 = 0 ∧ t.take (read p t ph).1.used.toNat = (write p (read p t ph).1.number 1).1 ∧ ph ≠ 3)) := by
  rcases read_cases ok with ⟨_, _, _, _, _, h⟩ | ⟨i, c, o, hit, hl, h⟩ | ⟨_, _, h⟩ | ⟨_, _, h⟩
  · rw [h] at hk; simp at hk
  · rw [h]
    simp only
    have hf := valid_fine ok.v (List.mem_of_getElem? hit.at_)
    obtain ⟨l1, l2, l3, l4, l5⟩ := long_le (o := o) hf
    obtain ⟨u, hu⟩ := hit.pre
    have hsl : (said o c t).length = 8 := by
      simp only [said, List.length_append, List.length_drop, List.length_take]
      have := hf.fit; have := hf.l1; have := hf.o1
      cases o
      · simp only [stand, long, head, Bool.false_eq_true, if_false] at *; omega
      · simp only [stand, long, head, if_true, List.length_append, zeros, List.length_replicate] at *; unfold room at *; omega
    have hsd : digits (said o c t) = true := by
      refine digits_app.2 ⟨?_, digits_drop (digits_take ok.d _) _⟩
      cases o
      · exact hf.dnew
      · exact digits_app.2 ⟨hf.dnew, digits_zeros _⟩
    have hlt := val_lt _ hsd
    rw [hsl] at hlt
    have he := eight_val _ hsd hsl
    have hnew : c.new <+: eight (val (said o c t)) := by
      rw [he]
      cases o
      · exact List.prefix_append _ _
      · exact (List.prefix_append c.new _).trans (List.prefix_append _ _)
    have hk3 : Has (decide ((3 : Int) = 1)) c ((val (said o c t) : Nat) : Int).toNat := ⟨by simpa using hnew, fun h => by simp at h⟩
    have hw3 := write_ok ok.v (ph := 3) (by decide) hit.at_ (n := ((val (said o c t) : Nat) : Int)) (by omega) (by omega) hk3
    rw [hw3]
    refine ⟨by omega, by omega, by omega, by omega, rfl, ?_⟩
    have hm := hit.may_
    cases o
    · left
      refine ⟨?_, by simpa [may] using hm⟩
      simp only [form, show (decide ((3 : Int) = 1)) = false from rfl, Bool.false_eq_true, if_false, Int.toNat_natCast, he]
      simp only [said, stand, head, long, Bool.false_eq_true, if_false]
      simp only [head, long, Bool.false_eq_true, if_false] at hu l3
      rw [← hu, List.take_append, List.take_of_length_le (by omega), List.drop_left]
    · right
      have hz : c.new ++ zeros (cutOf c - c.new.length) <+: eight (val (said true c t)) := by
        rw [he]
        have hk : cutOf c - c.new.length = (8 - (c.new.length : Int) - room c).toNat := by
          have := hf.fit; have := hf.l1; unfold cutOf room at *; omega
        rw [hk]
        exact List.prefix_append _ _
      have hk1 : Has (decide ((1 : Int) = 1)) c ((val (said true c t) : Nat) : Int).toNat := ⟨by simpa using hnew, fun _ => by simpa using hz⟩
      have hw1 := write_ok ok.v (ph := 1) (by decide) hit.at_ (n := ((val (said true c t) : Nat) : Int)) (by omega) (by omega) hk1
      rw [hw1]
      refine ⟨rfl, ?_, by simpa [may] using hm⟩
      simp only [form, decide_true, if_true, Int.toNat_natCast, he]
      have hcut : (stand true c).length = cutOf c := by
        have := hf.fit; have := hf.l1
        simp only [stand, if_true, List.length_append, zeros, List.length_replicate]; unfold cutOf room at *; omega
      rw [said, ← hcut, List.drop_left]
      simp only [head, long, if_true] at hu l3 ⊢
      rw [← hu, List.take_append, List.take_of_length_le (by omega), List.drop_left]
  · rw [h] at hk; simp at hk
  · rw [h] at hk; simp at hk
/-! ### PlanPhases -/
theorem may_two (o : Bool) : may o 2 := by cases o <;> simp [may]
theorem may_one (o : Bool) : may o (if o then 1 else 3) := by cases o <;> simp [may]
theorem may_only {o : Bool} {u : Bool} (h : may o (if u then 1 else 3)) : o = u := by cases o <;> cases u <;> simp [may] at h ⊢
theorem phases {p : List Cd} {t : S} (hv : valid p = true) (hd : digits t = true) (hl : t.length ≤ 16) :
    ¬ ((read p t 1).1.kind = 2 ∧ (read p t 3).1.kind = 2) ∧ ((read p t 1).1.kind = 2 → (read p t 2).1 = (read p t 1).1) ∧ ((read p t 3).1.kind = 2 → (read p t 2).1 = (read p t 3).1) ∧
    ((read p t 1).1.kind ≠ 2 → (read p t 3).1.kind ≠ 2 → (read p t 2).1.kind ≠ 2 ∧ ((read p t 2).1.kind = 1 ↔ ((read p t 1).1.kind = 1 ∨ (read p t 3).1.kind = 1))) := by
  have okU : ∀ u : Bool, Okay p (if u then 1 else 3) t := fun u => ⟨hv, hd, hl, by cases u <;> decide⟩
  have ok2 : Okay p 2 t := ⟨hv, hd, hl, by decide⟩
  -- a hit in one phase is one in both together
  have up : ∀ (u : Bool) i c o, Hit p (if u then 1 else 3) t i c o → Hit p 2 t i c o ∧ o = u := fun u i c o h => ⟨⟨h.at_, may_two o, h.pre⟩, may_only h.may_⟩
  have down : ∀ i c o, Hit p 2 t i c o → Hit p (if o then 1 else 3) t i c o := fun i c o h => ⟨h.at_, may_one o, h.pre⟩
  have number : ∀ u : Bool, (read p t (if u then 1 else 3)).1.kind = 2 → read p t 2 = read p t (if u then 1 else 3) ∧ ∃ i c, Hit p 2 t i c u := by
    intro u hk
    rcases read_cases (okU u) with ⟨_, _, _, _, _, h⟩ | ⟨i, c, o, hit, hlo, h⟩ | ⟨_, _, h⟩ | ⟨_, _, h⟩
    · rw [h] at hk; simp at hk
    · obtain ⟨h2, rfl⟩ := up _ _ _ _ hit
      exact ⟨by rw [read_hit ok2 h2, read_hit (okU o) hit], i, c, h2⟩
    · rw [h] at hk; simp at hk
    · rw [h] at hk; simp at hk
  have n1 := number true
  have n3 := number false
  simp only [if_true, Bool.false_eq_true, if_false] at n1 n3
  refine ⟨?_, fun h => by rw [(n1 h).1], fun h => by rw [(n3 h).1], ?_⟩
  · rintro ⟨h1, h3⟩
    obtain ⟨_, i, c, hi⟩ := n1 h1
    obtain ⟨_, j, d, hj⟩ := n3 h3
    have := heads_same hv hi.at_ hj.at_ hi.pre hj.pre
    simp at this
  · intro h1 h3
    have k : ∀ u : Bool, (read p t (if u then 1 else 3)).1.kind ≠ 2 := fun u => by cases u <;> simpa
    rcases read_cases ok2 with ⟨i, c, o, hit, hlt, h⟩ | ⟨i, c, o, hit, hlo, h⟩ | ⟨hmiss, hst, h⟩ | ⟨hmiss, hst, h⟩
    · rw [h]
      refine ⟨by simp, fun _ => ?_, fun _ => rfl⟩
      have := read_hit (okU o) (down _ _ _ hit)
      rw [if_pos hlt] at this
      cases o
      · right; simp only [Bool.false_eq_true, if_false] at this; rw [this]
      · left; simp only [if_true] at this; rw [this]
    · have h9 := read_hit (okU o) (down _ _ _ hit)
      rw [if_neg (show ¬ ((t.length : Int) < long o c) by omega)] at h9
      exact absurd (congrArg (fun z => z.1.kind) h9) (k o)
    · rw [h]
      refine ⟨by simp, fun _ => ?_, fun _ => rfl⟩
      obtain ⟨i, c, o, hi, _, hpre⟩ := hst
      have hm : ∀ i c o', ¬ Hit p (if o then 1 else 3) t i c o' := fun i c o' hh => hmiss _ _ _ (up o _ _ _ hh).1
      have : read p t (if o then 1 else 3) = (⟨1, 0, 0, 0⟩, 0) := by
        rcases read_miss (okU o) hm with ⟨_, h⟩ | ⟨hn, _⟩
        · exact h
        · exact absurd ⟨i, c, o, hi, may_one o, hpre⟩ hn
      cases o
      · right; simp only [Bool.false_eq_true, if_false] at this; rw [this]
      · left; simp only [if_true] at this; rw [this]
    · rw [h]
      refine ⟨by simp, ?_⟩
      have : ∀ u : Bool, read p t (if u then 1 else 3) = (⟨0, 0, 0, 0⟩, 0) := by
        intro u
        have hm : ∀ i c o', ¬ Hit p (if u then 1 else 3) t i c o' := fun i c o' hh => hmiss _ _ _ (up u _ _ _ hh).1
        rcases read_miss (okU u) hm with ⟨⟨i, c, o, hi, _, hpre⟩, _⟩ | ⟨_, h⟩
        · exact absurd ⟨i, c, o, hi, may_two o, hpre⟩ hst
        · exact h
      have t1 := this true
      have t3 := this false
      simp only [if_true, Bool.false_eq_true, if_false] at t1 t3
      rw [t1, t3]
      simp
end Pl

/- Plain mathematics of tariffs: no Go in sight. Plain mathematics of tariffs: where prices can change, sorted and without repetitions. Plain mathematics of tariffs: what integers determine; scaled and lowered prices. Plain mathematics of chapter 35: windows of sorted times. Plain mathematics of chapter 35: the times that integers determine. -/
import Derived.Lib.SlicesCompact
import Derived.Test.YtklelhkcbdajpaaGreatDoorX00
set_option linter.unusedVariables false
set_option linter.unusedSimpArgs false
set_option maxRecDepth 100000
set_option maxHeartbeats 8000000
namespace Tp
structure Rate where
  days : Int
  lo : Int
  hi : Int
  price : Int
def within (n lo hi : Int) : Bool := decide (lo ≤ n) && decide (n ≤ hi)
theorem within_iff {n lo hi : Int} : within n lo hi = true ↔ lo ≤ n ∧ n ≤ hi := by simp [within]
def okRate (r : Rate) : Bool := within r.days 1 127 && decide (0 ≤ r.lo) && within r.hi (r.lo + 1) 86400 && decide (r.lo < 86400) && within r.price 0 1000000
structure Ok (r : Rate) : Prop where
  d1 : 1 ≤ r.days
  d2 : r.days ≤ 127
  l0 : 0 ≤ r.lo
  lh : r.lo < r.hi
  h1 : r.hi ≤ 86400
  p0 : 0 ≤ r.price
  p1 : r.price ≤ 1000000
def valid (base : Int) (l : List Rate) : Bool := within base 0 1000000 && decide (l.length ≤ 10) && l.all okRate
def sec (off t : Int) : Int := (t + off + 604800) % 604800
def bit (days : Int) (k : Nat) : Bool := decide (days / 2 ^ k % 2 = 1)
def hits (s : Int) (r : Rate) : Bool := bit r.days (s / 86400).toNat && within (s % 86400) r.lo (r.hi - 1)
def rated (base : Int) (l : List Rate) (s : Int) : Int := match l.find? (hits s) with | some r => r.price | none => base
def price (base : Int) (l : List Rate) (off t : Int) : Int := rated base l (sec off t)
def sumN (f : Int → Int) (a : Int) : Nat → Int
  | 0 => 0
  | n + 1 => sumN f a n + f (a + n)
def sumF (f : Int → Int) (a b : Int) : Int := sumN f a (b - a).toNat
/-! ### where prices change -/
def nextC (C : List Int) (d : Int) : Int := match C.find? (fun c => decide (d < c)) with | some c => c | none => 86400
structure Cuts (l : List Rate) (C : List Int) : Prop where
  los : ∀ r ∈ l, r.lo ∈ C
  his : ∀ r ∈ l, r.hi % 86400 ∈ C
  rg : ∀ c ∈ C, 0 ≤ c ∧ c < 86400
  so : C.Pairwise (· < ·)
def stop (C : List Int) (off a b : Int) : Int := min (a + nextC C (sec off a % 86400) - sec off a % 86400) b
structure Pc where
  lo : Int
  hi : Int
  price : Int
def pieces (base : Int) (l : List Rate) (C : List Int) (off : Int) : Nat → Int → Int → List Pc
  | 0, _, _ => []
  | n + 1, a, b => if a < b then ⟨a, stop C off a b, price base l off a⟩ :: pieces base l C off n (stop C off a b) b else []
/-! ### the cheapest window -/
section
variable {W : Int → Int} {T : Int → Prop} {A B : Int} (hA : T A) (hB : T B) (hlin : ∀ t, A < t → t < B → ¬ T t → W (t + 1) - W t = W t - W (t - 1))
include hA hB hlin
end
def tryS (W : Int → Int) (A B : Int) (s : Int × Int) (t : Int) : Int × Int := if within t A B then (if W t < s.2 ∨ (W t = s.2 ∧ t < s.1) then (t, W t) else s) else s
structure Tried (W : Int → Int) (A B : Int) (T : Int → Prop) (s : Int × Int) : Prop where
  w : s.2 = W s.1
  a : A ≤ s.1
  b : s.1 ≤ B
  le : ∀ u, T u → A ≤ u → u ≤ B → W s.1 < W u ∨ (W s.1 = W u ∧ s.1 ≤ u)
theorem Tried.step {W : Int → Int} {A B : Int} {T : Int → Prop} {s : Int × Int} (h : Tried W A B T s) (t : Int) : Tried W A B (fun u => T u ∨ u = t) (tryS W A B s t) := by
  unfold tryS
  obtain ⟨hw, ha, hb, hle⟩ := h
  split
  · next hin =>
    obtain ⟨i1, i2⟩ := within_iff.1 hin
    split
    · next hlt =>
      refine ⟨rfl, i1, i2, fun u hu h1 h2 => ?_⟩
      rcases hu with hu | rfl
      · have := hle u hu h1 h2
        simp only
        omega
      · exact .inr ⟨rfl, Int.le_refl _⟩
    · next hge =>
      refine ⟨hw, ha, hb, fun u hu h1 h2 => ?_⟩
      rcases hu with hu | rfl
      · exact hle u hu h1 h2
      · omega
  · next hin =>
    refine ⟨hw, ha, hb, fun u hu h1 h2 => ?_⟩
    rcases hu with hu | rfl
    · exact hle u hu h1 h2
    · exact absurd (within_iff.2 ⟨h1, h2⟩) hin
theorem Tried.all {W : Int → Int} {A B : Int} : ∀ (L : List Int) {T : Int → Prop} {s : Int × Int}, Tried W A B T s → Tried W A B (fun u => T u ∨ u ∈ L) (L.foldl (tryS W A B) s)
  | [], T, s, h => ⟨h.w, h.a, h.b, fun u hu h1 h2 => h.le u (by simpa using hu) h1 h2⟩
  | t :: L, T, s, h => by
    have := Tried.all L (h.step t)
    exact ⟨this.w, this.a, this.b, fun u hu h1 h2 => this.le u (by rcases hu with h | h; exact .inl (.inl h); rcases List.mem_cons.1 h with h | h; exact .inl (.inr h); exact .inr h) h1 h2⟩
def win (f : Int → Int) (n : Int) (t : Int) : Int := sumF f t (t + n)
def tries (L : List Pc) (n last : Int) : List Int := L.flatMap (fun p => [p.lo, p.lo - n]) ++ [last]
def cheapest (base : Int) (l : List Rate) (C : List Int) (off a b n : Int) : Int × Int :=
  (tries (pieces base l C off (b - a).toNat a b) n (b - n)).foldl (tryS (win (price base l off) n) a (b - n)) (a, win (price base l off) n a)
/-! ### splits -/
def push (out : List Pc) (p : Pc) : List Pc := match out.getLast? with
  | some q => if q.price = p.price then out.dropLast ++ [⟨q.lo, p.hi, q.price⟩] else out ++ [p]
  | none => [p]
def splits (L : List Pc) : List Pc := L.foldl push []
def Chain (f : Int → Int) : Int → List Pc → Int → Prop
  | a, [], b => a = b
  | a, p :: L, b => p.lo = a ∧ a < p.hi ∧ (∀ t, a ≤ t → t < p.hi → f t = p.price) ∧ Chain f p.hi L b
theorem Chain.le {f : Int → Int} : ∀ {L : List Pc} {a b : Int}, Chain f a L b → a ≤ b
  | [], a, b, h => by have h : a = b := h; omega
  | p :: L, a, b, ⟨h1, h2, h3, h4⟩ => by have := h4.le; omega
def Alt : List Int → Prop
  | [] => True
  | [_] => True
  | x :: y :: L => x ≠ y ∧ Alt (y :: L)
theorem Alt.tail {x : Int} {L : List Int} (h : Alt (x :: L)) : Alt L := by
  cases L with
  | nil => trivial
  | cons y L => exact h.2
theorem Pc.eq {p q : Pc} (h1 : p.lo = q.lo) (h2 : p.hi = q.hi) (h3 : p.price = q.price) : p = q := by
  cases p; cases q; simp_all
/-! ### midnights -/
def first (off a : Int) : Int := a + (86400 - sec off a % 86400) % 86400
end Tp
namespace Tp
end Tp
namespace Tp
def pick (c n : Int) : Int := (if c < 0 then -(c + 1) else c) % n
theorem pick_lt (c : Int) {n : Int} (h : 0 < n) : 0 ≤ pick c n ∧ pick c n < n := ⟨Int.emod_nonneg _ (by omega), Int.emod_lt_of_pos _ h⟩
structure Y4 where
  a : Int
  b : Int
  c : Int
  d : Int
def mkRate (y : Y4) : Rate :=
  if pick (y.b.tdiv 24) 4 = 3 then ⟨1 + pick y.a 127, pick y.b 86400, pick y.b 86400 + 1 + pick y.c (86400 - pick y.b 86400), pick y.d 1000⟩
  else ⟨1 + pick y.a 127, 3600 * pick y.b 24, min (3600 * pick y.b 24 + 3600 * (1 + pick y.c 24)) 86400, pick y.d 1000⟩
def made (x : List Y4) : List Rate := (x.take 6).map mkRate
structure Like (l m : List Rate) (g : Int → Int → Prop) : Prop where
  len : l.length = m.length
  at_ : ∀ (i : Nat) (r q : Rate), l[i]? = some r → m[i]? = some q → r.days = q.days ∧ r.lo = q.lo ∧ r.hi = q.hi ∧ g r.price q.price
theorem Like.rated {g : Int → Int → Prop} {b c : Int} (hb : g b c) (s : Int) : ∀ {l m : List Rate}, Like l m g → g (rated b l s) (rated c m s)
  | [], [], h => hb
  | [], q :: m, h => by have := h.len; simp at this
  | r :: l, [], h => by have := h.len; simp at this
  | r :: l, q :: m, h => by
    obtain ⟨h1, h2, h3, h4⟩ := h.at_ 0 r q rfl rfl
    have hs : hits s r = hits s q := by unfold hits; rw [h1, h2, h3]
    have ht : Like l m g := ⟨by have := h.len; simpa using this, fun i x y hx hy => h.at_ (i + 1) x y hx hy⟩
    have ih := ht.rated hb s
    unfold Tp.rated at ih ⊢
    rw [List.find?_cons, List.find?_cons, hs]
    cases hits s q
    · exact ih
    · exact h4
end Tp
namespace Tb
def lt (l : List Int) (x : Int) : Nat := l.countP fun y => decide (y < x)
def cw (l : List Int) (s w : Int) : Nat := l.countP fun y => decide (s ≤ y) && decide (y < s + w)
theorem lt_le (l : List Int) (x : Int) : lt l x ≤ l.length := List.countP_le_length
theorem lt_cw (s w : Int) (hw : 0 ≤ w) : ∀ l : List Int, lt l (s + w) = lt l s + cw l s w
  | [] => rfl
  | y :: l => by
    have ih := lt_cw s w hw l
    unfold lt cw at *
    rw [List.countP_cons, List.countP_cons, List.countP_cons, ih]
    by_cases h1 : y < s
    · have a1 : decide (y < s + w) = true := by simp; omega
      have a2 : decide (y < s) = true := by simp; omega
      have a3 : decide (s ≤ y) = false := by simp; omega
      rw [a1, a2, a3]; simp; omega
    · have a2 : decide (y < s) = false := by simp; omega
      have a3 : decide (s ≤ y) = true := by simp; omega
      rw [a2, a3]
      by_cases h2 : y < s + w
      · have a1 : decide (y < s + w) = true := by simp; omega
        rw [a1]; simp; omega
      · have a1 : decide (y < s + w) = false := by simp; omega
        rw [a1]; simp
def So (l : List Int) : Prop := l.Pairwise (· ≤ ·)
theorem lt_iff : ∀ {l : List Int} (h : So l) (x : Int) (i : Nat) (hi : i < l.length), l[i] < x ↔ i < lt l x
  | y :: l, h, x, i, hi => by
    obtain ⟨h1, h2⟩ := List.pairwise_cons.1 h
    have e : lt (y :: l) x = lt l x + if y < x then 1 else 0 := by
      unfold lt; rw [List.countP_cons]; simp
    by_cases hy : y < x
    · rw [if_pos hy] at e
      cases i with
      | zero => simp only [List.getElem_cons_zero]; omega
      | succ i =>
        have := lt_iff h2 x i (by simpa using hi)
        simp only [List.getElem_cons_succ]; omega
    · rw [if_neg hy] at e
      have h0 : lt l x = 0 := by
        unfold lt
        rw [List.countP_eq_zero]
        intro z hz
        have := h1 z hz
        simp; omega
      have hle : ∀ z ∈ y :: l, ¬ z < x := fun z hz => by
        rcases List.mem_cons.1 hz with rfl | hz
        · exact hy
        · have := h1 z hz; omega
      have := hle _ (List.getElem_mem hi)
      omega
theorem so_le {l : List Int} (h : So l) {i j : Nat} (hij : i ≤ j) (hj : j < l.length) : l[i]'(by omega) ≤ l[j] := by
  rcases Nat.lt_or_ge i j with h1 | h1
  · exact List.pairwise_iff_getElem.1 h i j (by omega) hj h1
  · have : i = j := by omega
    subst this; exact Int.le_refl _
theorem lt_at {l : List Int} (h : So l) {i : Nat} (hi : i < l.length) : lt l l[i] ≤ i := by
  have := (lt_iff h l[i] i hi)
  have : ¬ i < lt l l[i] := fun h1 => by have := this.2 h1; omega
  omega
structure Bw (l : List Int) (w : Int) (k : Nat) (best at_ : Int) : Prop where
  z : k = 0 → best = 0 ∧ at_ = 0
  wh : 0 < k → ∃ (j : Nat) (hj : j < l.length), j < k ∧ l[j] = at_ ∧ (cw l at_ w : Int) = best
  le : ∀ (j : Nat) (hj : j < l.length), j < k → (cw l l[j] w : Int) ≤ best ∧ (l[j] < at_ → (cw l l[j] w : Int) < best)
theorem Bw.start (l : List Int) (w : Int) : Bw l w 0 0 0 := ⟨fun _ => ⟨rfl, rfl⟩, fun h => by omega, fun j hj h => by omega⟩
theorem cw_pos {l : List Int} {w : Int} (hw : 1 ≤ w) {i : Nat} (hi : i < l.length) : 0 < cw l l[i] w := by
  unfold cw
  rw [List.countP_pos_iff]
  exact ⟨l[i], List.getElem_mem hi, by simp; omega⟩
theorem Bw.next {l : List Int} {w : Int} (hs : So l) (hw : 1 ≤ w) {k : Nat} {best at_ : Int} (h : Bw l w k best at_) (hk : k < l.length) :
    (best < (cw l l[k] w : Int) → Bw l w (k + 1) (cw l l[k] w) l[k]) ∧ (¬ best < (cw l l[k] w : Int) → Bw l w (k + 1) best at_) := by
  constructor
  · intro hb
    refine ⟨fun h => by omega, fun _ => ⟨k, hk, by omega, rfl, rfl⟩, fun j hj hjk => ?_⟩
    rcases Nat.lt_or_ge j k with h1 | h1
    · have := h.le j hj h1; omega
    · have : j = k := by omega
      subst this; omega
  · intro hb
    have hk0 : 0 < k := by
      rcases Nat.eq_zero_or_pos k with h0 | h0
      · have := (h.z h0).1
        have := cw_pos (l := l) hw hk
        omega
      · exact h0
    refine ⟨fun h => by omega, fun _ => ?_, fun j hj hjk => ?_⟩
    · obtain ⟨j, hj, h1, h2, h3⟩ := h.wh hk0
      exact ⟨j, hj, by omega, h2, h3⟩
    · rcases Nat.lt_or_ge j k with h1 | h1
      · exact h.le j hj h1
      · have : j = k := by omega
        subst this
        obtain ⟨m, hm, h1, h2, h3⟩ := h.wh hk0
        have := so_le hs (show m ≤ j by omega) hj
        omega
theorem Bw.step {l : List Int} {w : Int} (hs : So l) (hw : 1 ≤ w) {k : Nat} {best at_ : Int} (h : Bw l w k best at_) (hk : k < l.length) :
    (best < (lt l (l[k] + w) : Int) - k → Bw l w (k + 1) ((lt l (l[k] + w) : Int) - k) l[k]) ∧ (¬ best < (lt l (l[k] + w) : Int) - k → Bw l w (k + 1) best at_) := by
  have e := lt_cw l[k] w (by omega) l
  have hle := lt_at hs hk
  obtain ⟨n1, n2⟩ := h.next hs hw hk
  by_cases hf : lt l l[k] = k
  · have e2 : (lt l (l[k] + w) : Int) - k = (cw l l[k] w : Int) := by omega
    rw [e2]
    exact ⟨n1, n2⟩
  · -- the same time stands before it
    have hlt : lt l l[k] < k := by omega
    have hj : lt l l[k] < l.length := by omega
    have h1 : ¬ l[lt l l[k]] < l[k] := fun h0 => by have := (lt_iff hs l[k] _ hj).1 h0; omega
    have h2 := so_le hs (show lt l l[k] ≤ k by omega) hk
    have h3 : l[lt l l[k]] = l[k] := by omega
    have h4 := (h.le _ hj hlt).1
    rw [h3] at h4
    exact ⟨fun h0 => by omega, fun _ => n2 (by omega)⟩
theorem Bw.unique {l : List Int} {w : Int} {b1 a1 b2 a2 : Int} (h1 : Bw l w l.length b1 a1) (h2 : Bw l w l.length b2 a2) : b1 = b2 ∧ a1 = a2 := by
  rcases Nat.eq_zero_or_pos l.length with h0 | h0
  · have := h1.z h0; have := h2.z h0; omega
  · obtain ⟨i, hi, i1, i2, i3⟩ := h1.wh h0
    obtain ⟨j, hj, j1, j2, j3⟩ := h2.wh h0
    have p1 := h1.le j hj hj
    have p2 := h2.le i hi hi
    rw [j2, j3] at p1
    rw [i2, i3] at p2
    omega
theorem cw_mono {l : List Int} {s s' w w' : Int} (h : ∀ y ∈ l, s ≤ y → y < s + w → s' ≤ y ∧ y < s' + w') : cw l s w ≤ cw l s' w' := by
  unfold cw
  refine List.countP_mono_left fun y hy h1 => ?_
  simp only [Bool.and_eq_true, decide_eq_true_eq] at *
  exact h y hy h1.1 h1.2
theorem Bw.all {l : List Int} {w best at_ : Int} (hs : So l) (h : Bw l w l.length best at_) (h0 : 0 < l.length) (s : Int) : (cw l s w : Int) ≤ best := by
  rcases Nat.lt_or_ge (lt l s) l.length with h1 | h1
  · have h2 := (h.le _ h1 h1).1
    have h3 : ¬ l[lt l s] < s := fun h0 => by have := (lt_iff hs s _ h1).1 h0; omega
    have : cw l s w ≤ cw l l[lt l s] w := cw_mono fun y hy y1 y2 => by
      obtain ⟨j, hj, rfl⟩ := List.mem_iff_getElem.1 hy
      have h4 : ¬ j < lt l s := fun h5 => by have := (lt_iff hs s j hj).2 h5; omega
      have := so_le hs (show lt l s ≤ j by omega) hj
      omega
    omega
  · have : cw l s w = 0 := by
      unfold cw
      rw [List.countP_eq_zero]
      intro y hy
      obtain ⟨j, hj, rfl⟩ := List.mem_iff_getElem.1 hy
      have := (lt_iff hs s j hj).2 (by omega)
      simp; omega
    obtain ⟨i, hi, i1, i2, i3⟩ := h.wh h0
    omega
theorem Bw.wide {l : List Int} {w w' b1 a1 b2 a2 : Int} (hs : So l) (h1 : Bw l w l.length b1 a1) (h2 : Bw l w' l.length b2 a2) (hw : w ≤ w') (h0 : 0 < l.length) : b1 ≤ b2 := by
  obtain ⟨i, hi, i1, i2, i3⟩ := h1.wh h0
  have e1 := h2.all hs h0 a1
  have : cw l a1 w ≤ cw l a1 w' := cw_mono fun y _ _ _ => by omega
  omega
theorem Bw.more {l m : List Int} {w t b1 a1 b2 a2 : Int} (hs : So l) (hm : So m) (h1 : Bw l w l.length b1 a1) (h2 : Bw m w m.length b2 a2) (hlen : m.length = l.length + 1) (h0 : 0 < l.length)
    (hc : ∀ s, cw m s w = cw l s w + if s ≤ t ∧ t < s + w then 1 else 0) : b1 ≤ b2 ∧ b2 ≤ b1 + 1 := by
  obtain ⟨i, hi, i1, i2, i3⟩ := h1.wh h0
  obtain ⟨j, hj, j1, j2, j3⟩ := h2.wh (by omega)
  have e1 := h2.all hm (by omega) a1
  have e2 := h1.all hs h0 a2
  have f1 := hc a1
  have f2 := hc a2
  constructor
  · split at f1 <;> omega
  · split at f2 <;> omega
end Tb
namespace Tb
def stp (y : Int) : Int := if Tp.pick y 8 = 7 then Tp.pick (y.tdiv 8) 1000 else Tp.pick (y.tdiv 8) 12
theorem stp_lt (y : Int) : 0 ≤ stp y ∧ stp y < 1000 := by
  unfold stp
  have h1 := Tp.pick_lt (y.tdiv 8) (show (0 : Int) < 1000 by decide)
  have h2 := Tp.pick_lt (y.tdiv 8) (show (0 : Int) < 12 by decide)
  split <;> omega
def tk (x : List Int) : Nat → Int
  | 0 => 0
  | k + 1 => tk x k + stp (x[k]?.getD 0)
theorem tk_bound (x : List Int) : ∀ k : Nat, 0 ≤ tk x k ∧ tk x k ≤ 999 * k
  | 0 => by simp [tk]
  | k + 1 => by
    have h := tk_bound x k
    have h2 := stp_lt (x[k]?.getD 0)
    show 0 ≤ tk x k + _ ∧ tk x k + _ ≤ _
    push_cast
    omega
theorem tk_mono (x : List Int) : ∀ {i j : Nat}, i ≤ j → tk x i ≤ tk x j
  | i, 0, h => by
    have : i = 0 := by omega
    subst this; exact Int.le_refl _
  | i, j + 1, h => by
    rcases Nat.lt_or_ge i (j + 1) with h1 | h1
    · have h2 := stp_lt (x[j]?.getD 0)
      have := tk_mono x (i := i) (j := j) (by omega)
      show _ ≤ tk x j + _
      omega
    · have : i = j + 1 := by omega
      subst this; exact Int.le_refl _
def tks (x : List Int) (k : Nat) : List Int := (List.range k).map fun i => tk x (i + 1)
theorem tks_succ (x : List Int) (k : Nat) : tks x (k + 1) = tks x k ++ [tk x (k + 1)] := by
  unfold tks
  rw [List.range_succ, List.map_append]; rfl
theorem tks_len (x : List Int) (k : Nat) : (tks x k).length = k := by simp [tks]
theorem tks_so (x : List Int) (k : Nat) : So (tks x k) := by
  unfold So tks
  rw [List.pairwise_map]
  exact List.pairwise_lt_range.imp (fun h => tk_mono x (by omega))
theorem tks_in {x : List Int} {k : Nat} {t : Int} (h : t ∈ tks x k) : 0 ≤ t ∧ t ≤ 999 * k := by
  unfold tks at h
  obtain ⟨i, hi, rfl⟩ := List.mem_map.1 h
  have := tk_bound x (i + 1)
  rw [List.mem_range] at hi
  push_cast at this
  omega
def madeT (x : List Int) : List Int := tks x (min x.length 60)
theorem madeT_ok (x : List Int) : So (madeT x) ∧ (madeT x).length ≤ 60 ∧ ∀ t ∈ madeT x, 0 ≤ t ∧ t ≤ 59940 := by
  refine ⟨tks_so _ _, by unfold madeT; rw [tks_len]; omega, fun t ht => ?_⟩
  have := tks_in ht
  omega
end Tb

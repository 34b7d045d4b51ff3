/- Plain mathematics of chapter 22: settings, which one counts, the route of a call. Plain mathematics of chapter 22: what holds of every route (ForwardEnds). Plain mathematics of chapter 22: routes as chains (ForwardHides, ForwardLocal). Plain mathematics of chapter 22: the end of a route ends the routes of all on its path; what does not count changes nothing. Plain mathematics of chapter 22: settings and conditions of other numbers change nothing (ForwardLocal). Plain mathematics of chapter 22: loops of numbers. Plain mathematics of chapter 22: a loop begun with another of its numbers. Plain mathematics of chapter 22: the list of all loops; when a loop begins (ForwardCreates). Plain mathematics of chapter 22: valid settings step by step; the settings and conditions that integers determine. Plain mathematics of chapter 22: routes without conditions, and loops (ForwardLoops). Plain mathematics of chapter 22: other conditions (ForwardHides); fewer settings (ForwardLocal). Plain mathematics of chapter 22: fewer settings (ForwardLocal), the first loop (ForwardCreates), another order (ForwardDialled). Plain mathematics of chapter 22: a loop begun with its least number; the list of all loops, reckoned. Plain mathematics of chapter 22: routes step by step. -/
import Init.Data.Int.Pow
import Derived.Lib.Slices
namespace Go.Proofs.YtlldlkjngcgcjaaGreatDoor
namespace Tw
set_option linter.unusedVariables false
set_option linter.unusedSimpArgs false
/-- a setting: number, kind, where to, spell -/
structure St where
  n : Int
  k : Int
  to : Int
  f : Int
  e : Int
def St.has (s : St) (t : Int) : Bool := decide (s.f ≤ t) && decide (t < s.e)
theorem has_iff {s : St} {t : Int} : s.has t = true ↔ s.f ≤ t ∧ t < s.e := by
  simp only [St.has, Bool.and_eq_true, decide_eq_true_eq]
structure Fm (s : St) : Prop where
  n0 : 0 ≤ s.n
  n2 : s.n ≤ 99999999
  t0 : 0 ≤ s.to
  t2 : s.to ≤ 99999999
  ne : s.n ≠ s.to
  k1 : 1 ≤ s.k
  k4 : s.k ≤ 4
  f0 : 0 ≤ s.f
  fe : s.f < s.e
  e2 : s.e ≤ 10000001
/-- two settings that cannot stand together -/
def Cl (a b : St) : Prop := a.n = b.n ∧ a.k = b.k ∧ (a.has b.f = true ∨ b.has a.f = true)
/-- valid settings -/
structure Va (l : List St) : Prop where
  len : l.length ≤ 40
  fm : ∀ s ∈ l, Fm s
  nc : l.Pairwise fun a b => ¬ Cl a b
/-- settings that meet at a time clash -/
theorem cl_of {a b : St} {t : Int} (hn : a.n = b.n) (hk : a.k = b.k) (ha : a.has t = true) (hb : b.has t = true) : Cl a b := by
  refine ⟨hn, hk, ?_⟩
  rw [has_iff] at ha hb ⊢
  rw [has_iff]
  omega
/-- as the reference has it: the spells meet -/
theorem cl_meet {a b : St} (ha : a.f < a.e) (hb : b.f < b.e) : (a.has b.f = true ∨ b.has a.f = true) ↔ max a.f b.f < min a.e b.e := by
  rw [has_iff, has_iff]; omega
/-- s is a setting of the number and the kind that has the second -/
def hit (n k t : Int) (s : St) : Bool := s.n == n && s.k == k && s.has t
theorem hit_iff {n k t : Int} {s : St} : hit n k t s = true ↔ s.n = n ∧ s.k = k ∧ s.f ≤ t ∧ t < s.e := by
  simp only [hit, Bool.and_eq_true, beq_iff_eq, has_iff]; omega
/-- of valid settings at most one is hit -/
theorem hit_one {l : List St} {n k t : Int} (hv : Va l) {i j : Nat} (hi : i < l.length) (hj : j < l.length) (h1 : hit n k t l[i] = true) (h2 : hit n k t l[j] = true) : i = j := by
  obtain ⟨a1, a2, a3, a4⟩ := hit_iff.1 h1
  obtain ⟨b1, b2, b3, b4⟩ := hit_iff.1 h2
  have hc : Cl l[i] l[j] := cl_of (t := t) (by omega) (by omega) (has_iff.2 ⟨a3, a4⟩) (has_iff.2 ⟨b3, b4⟩)
  have hc' : Cl l[j] l[i] := cl_of (t := t) (by omega) (by omega) (has_iff.2 ⟨b3, b4⟩) (has_iff.2 ⟨a3, a4⟩)
  have hp := List.pairwise_iff_getElem.1 hv.nc
  rcases Nat.lt_trichotomy i j with h | h | h
  · exact absurd hc (hp i j hi hj h)
  · exact h
  · exact absurd hc' (hp j i hj hi h)
/-- the setting of a number and a kind at a time -/
def find (l : List St) (n k t : Int) : Option Nat := l.findIdx? (hit n k t)
theorem find_some {l : List St} {n k t : Int} {i : Nat} (h : find l n k t = some i) : ∃ hi : i < l.length, hit n k t l[i] = true := by
  unfold find at h
  obtain ⟨hi, h1, -⟩ := List.findIdx?_eq_some_iff_getElem.1 h
  exact ⟨hi, h1⟩
theorem find_is {l : List St} {n k t : Int} {i : Nat} (hv : Va l) (hi : i < l.length) (h : hit n k t l[i] = true) : find l n k t = some i := by
  cases hf : find l n k t with
  | none =>
    have := List.findIdx?_eq_none_iff.1 hf l[i] (List.getElem_mem hi)
    rw [h] at this; cases this
  | some j =>
    obtain ⟨hj, h2⟩ := find_some hf
    rw [hit_one hv hi hj h h2]
theorem find_none {l : List St} {n k t : Int} : find l n k t = none ↔ ∀ s ∈ l, hit n k t s = false := List.findIdx?_eq_none_iff
/-- the condition of a number; 0 if it has none -/
def cond (c : List (Int × Int)) (n : Int) : Int := match c.find? fun x => x.1 == n with | some x => x.2 | none => 0
/-- the setting that counts -/
def counts (l : List St) (c : List (Int × Int)) (n t : Int) : Option Nat := match find l n 1 t with | some i => some i | none => if 0 < cond c n then find l n (cond c n) t else none
theorem counts_some {l : List St} {c : List (Int × Int)} {n t : Int} {i : Nat} (h : counts l c n t = some i) : ∃ hi : i < l.length, l[i].n = n ∧ l[i].f ≤ t ∧ t < l[i].e ∧ (l[i].k = 1 ∨ l[i].k = cond c n) := by
  unfold counts at h
  cases hf : find l n 1 t with
  | some j =>
    rw [hf] at h; cases h
    obtain ⟨hi, h1⟩ := find_some hf
    obtain ⟨a1, a2, a3, a4⟩ := hit_iff.1 h1
    exact ⟨hi, a1, a3, a4, .inl a2⟩
  | none =>
    rw [hf] at h
    by_cases hc : 0 < cond c n
    · simp only [hc, if_true] at h
      obtain ⟨hi, h1⟩ := find_some h
      obtain ⟨a1, a2, a3, a4⟩ := hit_iff.1 h1
      exact ⟨hi, a1, a3, a4, .inr a2⟩
    · simp only [hc, if_false] at h; cases h
structure Ro where
  kind : Int
  path : List Int
  used : List Nat
/-- the route from the number n on: its path up to n, the settings used by then; 5: a loop, 6: too many -/
def go (l : List St) (c : List (Int × Int)) (t : Int) : Nat → Int → List Int → List Nat → Ro
  | 0, n, p, u => ⟨6, p, u⟩
  | fuel + 1, n, p, u =>
    match counts l c n t with
    | none => ⟨max (cond c n) 1, p, u⟩
    | some i =>
      if u.length = 5 then ⟨6, p, u⟩
      else
        let to := (l[i]?.getD ⟨0, 0, 0, 0, 0⟩).to
        if to ∈ p then ⟨5, p ++ [to], u ++ [i]⟩ else go l c t fuel to (p ++ [to]) (u ++ [i])
def route (l : List St) (c : List (Int × Int)) (n t : Int) : Ro := go l c t 6 n [n] []
end Tw
end Go.Proofs.YtlldlkjngcgcjaaGreatDoor
namespace Go.Proofs.YtlldlkjngcgcjaaGreatDoor
namespace Tw
set_option linter.unusedVariables false
set_option linter.unusedSimpArgs false
/-- the i-th forward is that of a setting that counts -/
def Stp (l : List St) (c : List (Int × Int)) (t : Int) (p : List Int) (u : List Nat) (i : Nat) : Prop :=
  ∃ (j : Nat) (s : St), u[i]? = some j ∧ l[j]? = some s ∧ p[i]? = some s.n ∧ p[i + 1]? = some s.to ∧ s.f ≤ t ∧ t < s.e ∧ (s.k = 1 ∨ s.k = cond c s.n)
theorem Stp.more {l : List St} {c : List (Int × Int)} {t : Int} {p : List Int} {u : List Nat} {i : Nat} (h : Stp l c t p u i) (a : Int) (b : Nat) : Stp l c t (p ++ [a]) (u ++ [b]) i := by
  obtain ⟨j, s, h1, h2, h3, h4, h5⟩ := h
  obtain ⟨k1, e1⟩ := List.getElem?_eq_some_iff.1 h1
  obtain ⟨k3, e3⟩ := List.getElem?_eq_some_iff.1 h3
  obtain ⟨k4, e4⟩ := List.getElem?_eq_some_iff.1 h4
  exact ⟨j, s, by rw [List.getElem?_append_left k1]; exact h1, h2, by rw [List.getElem?_append_left k3]; exact h3, by rw [List.getElem?_append_left k4]; exact h4, h5⟩
structure Inv (l : List St) (c : List (Int × Int)) (t : Int) (fuel : Nat) (n : Int) (p : List Int) (u : List Nat) : Prop where
  len : p.length = u.length + 1
  last : p[u.length]? = some n
  stp : ∀ i, i < u.length → Stp l c t p u i
  nd : p.Nodup
  fu : u.length + fuel = 6
/-- what holds of a route -/
structure En (l : List St) (c : List (Int × Int)) (t : Int) (n : Int) (r : Ro) : Prop where
  len : r.path.length = r.used.length + 1
  first : r.path[0]? = some n
  u5 : r.used.length ≤ 5
  stp : ∀ i, i < r.used.length → Stp l c t r.path r.used i
  nd : (r.path.take r.used.length).Nodup
  fin : (∃ m, r.path[r.used.length]? = some m ∧ counts l c m t = none ∧ r.kind = max (cond c m) 1 ∧ r.path.Nodup) ∨ (r.kind = 6 ∧ r.used.length = 5 ∧ r.path.Nodup) ∨ (r.kind = 5 ∧ ∃ m, r.path[r.used.length]? = some m ∧ m ∈ r.path.take r.used.length)
theorem go_ok (l : List St) (c : List (Int × Int)) (t n0 : Int) : ∀ (fuel : Nat) (n : Int) (p : List Int) (u : List Nat), 1 ≤ fuel → p[0]? = some n0 → Inv l c t fuel n p u → En l c t n0 (go l c t fuel n p u)
  | 0, n, p, u, h, _, _ => absurd h (by omega)
  | fuel + 1, n, p, u, _, h0, hI => by
    have hlen := hI.len
    have hfu := hI.fu
    unfold go
    cases hc : counts l c n t with
    | none =>
      exact ⟨hlen, h0, by dsimp only; omega, hI.stp, hI.nd.sublist (List.take_sublist _ _), .inl ⟨n, hI.last, hc, rfl, hI.nd⟩⟩
    | some i =>
      dsimp only
      by_cases h5 : u.length = 5
      · rw [if_pos h5]
        exact ⟨hlen, h0, by dsimp only; omega, hI.stp, hI.nd.sublist (List.take_sublist _ _), .inr (.inl ⟨rfl, h5, hI.nd⟩)⟩
      · rw [if_neg h5]
        obtain ⟨hi, c1, c2, c3, c4⟩ := counts_some hc
        rw [List.getElem?_eq_getElem hi, Option.getD_some]
        generalize hs : l[i] = s at *
        have hpt : (p ++ [s.to]).take (u ++ [i]).length = p := by
          rw [List.length_append, List.length_singleton, ← hlen, List.take_left]
        have hst : ∀ j, j < (u ++ [i]).length → Stp l c t (p ++ [s.to]) (u ++ [i]) j := fun j hj => by
          rw [List.length_append, List.length_singleton] at hj
          rcases Nat.lt_or_ge j u.length with h1 | h1
          · exact (hI.stp j h1).more _ _
          · obtain rfl : j = u.length := by omega
            refine ⟨i, s, by simp, by rw [List.getElem?_eq_getElem hi, hs], ?_, ?_, c2, c3, ?_⟩
            · rw [List.getElem?_append_left (by omega), hI.last, c1]
            · rw [← hlen]; simp
            · rw [c1]; exact c4
        have hl2 : (p ++ [s.to]).length = (u ++ [i]).length + 1 := by simp [hlen]
        have h02 : (p ++ [s.to])[0]? = some n0 := by rw [List.getElem?_append_left (by omega)]; exact h0
        have hlast : (p ++ [s.to])[(u ++ [i]).length]? = some s.to := by
          rw [List.length_append, List.length_singleton, ← hlen]; simp
        by_cases hm : s.to ∈ p
        · rw [if_pos hm]
          exact ⟨hl2, h02, by simp; omega, hst, by dsimp only; rw [hpt]; exact hI.nd, .inr (.inr ⟨rfl, s.to, hlast, by dsimp only; rw [hpt]; exact hm⟩)⟩
        · rw [if_neg hm]
          refine go_ok l c t n0 fuel s.to (p ++ [s.to]) (u ++ [i]) (by omega) h02 ⟨hl2, hlast, hst, ?_, by simp; omega⟩
          rw [List.nodup_append]
          refine ⟨hI.nd, by simp, fun a ha b hb e => ?_⟩
          rw [List.mem_singleton] at hb
          exact hm (by rw [← hb, ← e]; exact ha)
theorem route_ok (l : List St) (c : List (Int × Int)) (n t : Int) : En l c t n (route l c n t) :=
  go_ok l c t n 6 n [n] [] (by decide) rfl ⟨rfl, rfl, fun i h => by simp at h, by simp, rfl⟩
end Tw
end Go.Proofs.YtlldlkjngcgcjaaGreatDoor
namespace Go.Proofs.YtlldlkjngcgcjaaGreatDoor
namespace Tw
set_option linter.unusedVariables false
set_option linter.unusedSimpArgs false
def toOf (l : List St) (i : Nat) : Int := (l[i]?.getD ⟨0, 0, 0, 0, 0⟩).to
/-- from n by the settings u over the numbers p -/
def Ch (l : List St) (c : List (Int × Int)) (t : Int) : Int → List Int → List Nat → Prop
  | _, [], [] => True
  | n, m :: p, i :: u => counts l c n t = some i ∧ toOf l i = m ∧ Ch l c t m p u
  | _, _, _ => False
theorem Ch.len {l : List St} {c : List (Int × Int)} {t : Int} : ∀ {n : Int} {p : List Int} {u : List Nat}, Ch l c t n p u → p.length = u.length
  | _, [], [], _ => rfl
  | n, m :: p, i :: u, h => by have := Ch.len h.2.2; simp [this]
theorem Ch.drop {l : List St} {c : List (Int × Int)} {t : Int} : ∀ {n : Int} {p : List Int} {u : List Nat} (k : Nat), Ch l c t n p u → k ≤ p.length → ∃ m, (n :: p)[k]? = some m ∧ Ch l c t m (p.drop k) (u.drop k)
  | n, p, u, 0, h, _ => ⟨n, rfl, h⟩
  | _, [], [], k + 1, _, hk => absurd hk (by simp)
  | n, m :: p, i :: u, k + 1, h, hk => by
    obtain ⟨m', h1, h2⟩ := Ch.drop k h.2.2 (by simpa using hk)
    exact ⟨m', by simpa using h1, by simpa using h2⟩
/-- a chain that ends at a number without a setting is the route -/
theorem go_is (l : List St) (c : List (Int × Int)) (t : Int) : ∀ (p' : List Int) (u' : List Nat) (fuel : Nat) (n : Int) (p : List Int) (u : List Nat), Ch l c t n p' u' → counts l c (p'.getLastD n) t = none → (p ++ p').Nodup → u.length + u'.length ≤ 5 → u.length + fuel = 6 → go l c t fuel n p u = ⟨max (cond c (p'.getLastD n)) 1, p ++ p', u ++ u'⟩
  | [], [], 0, n, p, u, _, _, _, h5, hf => absurd hf (by simp at h5; omega)
  | [], [], fuel + 1, n, p, u, hC, hN, hd, h5, hf => by
    have hN' : counts l c n t = none := hN
    unfold go; rw [hN']; simp
  | m :: p', i :: u', 0, n, p, u, _, _, _, h5, hf => absurd hf (by simp at h5; omega)
  | m :: p', i :: u', fuel + 1, n, p, u, hC, hN, hd, h5, hf => by
    obtain ⟨h1, h2, h3⟩ := hC
    simp only [List.length_cons] at h5
    have hN' : counts l c (p'.getLastD m) t = none := by
      rw [List.getLastD_cons] at hN; exact hN
    unfold go
    rw [h1]
    dsimp only
    rw [if_neg (by omega)]
    have h2' : (l[i]?.getD ⟨0, 0, 0, 0, 0⟩).to = m := h2
    rw [h2']
    have hm : m ∉ p := fun hm => by
      rw [List.nodup_append] at hd
      exact hd.2.2 m hm m (by simp) rfl
    rw [if_neg hm, go_is l c t p' u' fuel m (p ++ [m]) (u ++ [i]) h3 hN' (by simpa using hd) (by simp; omega) (by simp; omega)]
    rw [List.getLastD_cons]
    simp
/-- a route that ends so is a chain -/
theorem go_ch (l : List St) (c : List (Int × Int)) (t : Int) : ∀ (fuel : Nat) (n : Int) (p : List Int) (u : List Nat), u.length + fuel = 6 → p.Nodup → ∃ (p' : List Int) (u' : List Nat), (go l c t fuel n p u).path = p ++ p' ∧ (go l c t fuel n p u).used = u ++ u' ∧ Ch l c t n p' u' ∧ u.length + u'.length ≤ 6 ∧ ((go l c t fuel n p u).kind < 5 → cond c (p'.getLastD n) ≤ 4 → counts l c (p'.getLastD n) t = none ∧ (p ++ p').Nodup ∧ u.length + u'.length ≤ 5)
  | 0, n, p, u, hf, hd => ⟨[], [], by simp [go], by simp [go], trivial, by simp; omega, fun h => by simp [go] at h⟩
  | fuel + 1, n, p, u, hf, hd => by
    unfold go
    cases hc : counts l c n t with
    | none => exact ⟨[], [], by simp, by simp, trivial, by simp; omega, fun _ _ => ⟨hc, by simpa using hd, by simp; omega⟩⟩
    | some i =>
      dsimp only
      by_cases h5 : u.length = 5
      · rw [if_pos h5]
        exact ⟨[], [], by simp, by simp, trivial, by simp; omega, fun h => by simp at h⟩
      · rw [if_neg h5]
        obtain ⟨m, hm0⟩ : ∃ m, toOf l i = m := ⟨_, rfl⟩
        have hm1 : (l[i]?.getD ⟨0, 0, 0, 0, 0⟩).to = m := hm0
        rw [hm1]
        by_cases hm : m ∈ p
        · rw [if_pos hm]
          exact ⟨[m], [i], rfl, rfl, ⟨hc, hm0, trivial⟩, by simp; omega, fun h => by simp at h⟩
        · rw [if_neg hm]
          have hd2 : (p ++ [m]).Nodup := by
            rw [List.nodup_append]
            exact ⟨hd, by simp, fun a ha b hb e => by rw [List.mem_singleton] at hb; exact hm (by rw [← hb, ← e]; exact ha)⟩
          obtain ⟨p', u', h1, h2, h3, h4, h6⟩ := go_ch l c t fuel m (p ++ [m]) (u ++ [i]) (by simp; omega) hd2
          refine ⟨m :: p', i :: u', by rw [h1]; simp, by rw [h2]; simp, ⟨hc, hm0, h3⟩, by simp at h4 ⊢; omega, fun h7 h8 => ?_⟩
          rw [List.getLastD_cons] at h8 ⊢
          obtain ⟨a1, a2, a3⟩ := h6 h7 h8
          exact ⟨a1, by simpa using a2, by simp at a3 ⊢; omega⟩
end Tw
end Go.Proofs.YtlldlkjngcgcjaaGreatDoor
namespace Go.Proofs.YtlldlkjngcgcjaaGreatDoor
namespace Tw
set_option linter.unusedVariables false
set_option linter.unusedSimpArgs false
theorem last_drop : ∀ (k : Nat) (n m : Int) (p : List Int), (n :: p)[k]? = some m → (p.drop k).getLastD m = p.getLastD n
  | 0, n, m, p, h => by
    have : n = m := by simpa using h
    rw [this]; rfl
  | k + 1, n, m, [], h => by simp at h
  | k + 1, n, m, a :: p, h => by
    rw [List.drop_succ_cons, List.getLastD_cons]
    exact last_drop k a m p (by simpa using h)
/-- ForwardHides: a route that ends at a number that has no setting -/
theorem hides {l : List St} {c : List (Int × Int)} {n t : Int} (hc : ∀ m, cond c m ≤ 4) (hk : (route l c n t).kind < 5) {k : Nat} (h : k < (route l c n t).path.length) :
    ∃ m, (route l c n t).path[k]? = some m ∧ route l c m t = ⟨(route l c n t).kind, (route l c n t).path.drop k, (route l c n t).used.drop k⟩ := by
  obtain ⟨p, u, h1, h2, h3, h4, h5⟩ := go_ch l c t 6 n [n] [] rfl (by simp)
  obtain ⟨a1, a2, a3⟩ := h5 hk (hc _)
  have hr : route l c n t = ⟨max (cond c (p.getLastD n)) 1, [n] ++ p, [] ++ u⟩ := go_is l c t p u 6 n [n] [] h3 a1 a2 a3 rfl
  rw [hr] at h ⊢
  have hkl : k ≤ p.length := by simp at h; omega
  obtain ⟨m, b1, b2⟩ := h3.drop k hkl
  have hl := last_drop k n m p b1
  have hdr : (n :: p).drop k = m :: p.drop k := by
    obtain ⟨hk1, hk2⟩ := List.getElem?_eq_some_iff.1 b1
    rw [List.drop_eq_getElem_cons hk1, hk2]; rfl
  refine ⟨m, b1, ?_⟩
  have hd : ([m] ++ p.drop k).Nodup := by
    have : ((n :: p).drop k).Nodup := List.Nodup.sublist (List.drop_sublist _ _) a2
    rw [hdr] at this; exact this
  have := go_is l c t (p.drop k) (u.drop k) 6 m [m] [] b2 (by rw [hl]; exact a1) hd (by simp at a3 ⊢; omega) rfl
  rw [hl] at this
  show go l c t 6 m [m] [] = _
  rw [this]
  show Ro.mk _ (m :: p.drop k) (u.drop k) = Ro.mk _ ((n :: p).drop k) (u.drop k)
  rw [hdr]
/-- what counts alike leads alike -/
theorem go_congr {l : List St} {c c' : List (Int × Int)} {t t' : Int} (h1 : ∀ m, counts l c m t = counts l c' m t') (h2 : ∀ m, counts l c m t = none → cond c m = cond c' m) : ∀ (fuel : Nat) (n : Int) (p : List Int) (u : List Nat), go l c t fuel n p u = go l c' t' fuel n p u
  | 0, n, p, u => rfl
  | fuel + 1, n, p, u => by
    unfold go
    rw [← h1 n]
    cases hc : counts l c n t with
    | none => dsimp only; rw [h2 n hc]
    | some i =>
      dsimp only
      split
      · rfl
      · split
        · rfl
        · exact go_congr h1 h2 fuel _ _ _
/-- ForwardHides: a setting of the kind 1 hides the condition of its number -/
theorem hidden {l : List St} {c c' : List (Int × Int)} {k t : Int} (hk : find l k 1 t ≠ none) (hc : ∀ m, m ≠ k → cond c m = cond c' m) (n : Int) : route l c n t = route l c' n t := by
  have hone : ∀ (d : List (Int × Int)), counts l d k t = find l k 1 t := fun d => by
    unfold counts
    cases hf : find l k 1 t with
    | none => exact absurd hf hk
    | some i => rfl
  refine go_congr (fun m => ?_) (fun m hm => ?_) 6 n [n] []
  · by_cases e : m = k
    · rw [e, hone, hone]
    · unfold counts; rw [hc m e]
  · by_cases e : m = k
    · rw [e, hone] at hm; exact absurd hm hk
    · exact hc m e
/-- ForwardLocal: between two times at which no spell begins or ends -/
theorem same_time {l : List St} {c : List (Int × Int)} {t t' : Int} (h : ∀ s ∈ l, s.has t = s.has t') (n : Int) : route l c n t = route l c n t' := by
  have hf : ∀ m k, find l m k t = find l m k t' := fun m k => by
    have : ∀ (a : List St), (∀ s ∈ a, s.has t = s.has t') → a.findIdx? (hit m k t) = a.findIdx? (hit m k t') := by
      intro a
      induction a with
      | nil => intro _; rfl
      | cons s a ih =>
        intro ha
        rw [List.findIdx?_cons, List.findIdx?_cons, ih fun x hx => ha x (List.mem_cons_of_mem _ hx)]
        have e : hit m k t s = hit m k t' s := by unfold hit; rw [ha s (List.mem_cons_self ..)]
        rw [e]
    exact this l h
  have hcn : ∀ m, counts l c m t = counts l c m t' := fun m => by
    unfold counts; rw [hf, hf]
  exact go_congr hcn (fun _ _ => rfl) 6 n [n] []
end Tw
end Go.Proofs.YtlldlkjngcgcjaaGreatDoor
namespace Go.Proofs.YtlldlkjngcgcjaaGreatDoor
namespace Tw
set_option linter.unusedVariables false
set_option linter.unusedSimpArgs false
theorem go_pre (l : List St) (c : List (Int × Int)) (t : Int) : ∀ (fuel : Nat) (n : Int) (p : List Int) (u : List Nat), ∃ p', (go l c t fuel n p u).path = p ++ p'
  | 0, n, p, u => ⟨[], by simp [go]⟩
  | fuel + 1, n, p, u => by
    unfold go
    cases hc : counts l c n t with
    | none => exact ⟨[], by simp⟩
    | some i =>
      dsimp only
      split
      · exact ⟨[], by simp⟩
      · split
        · exact ⟨_, rfl⟩
        · obtain ⟨p', h⟩ := go_pre l c t fuel (l[i]?.getD ⟨0, 0, 0, 0, 0⟩).to (p ++ [(l[i]?.getD ⟨0, 0, 0, 0, 0⟩).to]) (u ++ [i])
          exact ⟨(l[i]?.getD ⟨0, 0, 0, 0, 0⟩).to :: p', by rw [h]; simp⟩
/-- fewer settings l' (l'[j] is l[K j]) and conditions c' do the same for a number -/
def Al (l l' : List St) (c c' : List (Int × Int)) (t : Int) (K : Nat → Nat) (m : Int) : Prop :=
  (counts l' c' m t = none ∧ counts l c m t = none ∧ cond c' m = cond c m) ∨ ∃ j, counts l' c' m t = some j ∧ counts l c m t = some (K j) ∧ toOf l' j = toOf l (K j)
theorem go_map {l l' : List St} {c c' : List (Int × Int)} {t : Int} {K : Nat → Nat} {S : Int → Prop} (h : ∀ m, S m → Al l l' c c' t K m) : ∀ (fuel : Nat) (n : Int) (p : List Int) (u : List Nat), n ∈ p → (∀ x ∈ (go l c t fuel n p (u.map K)).path, S x) → go l c t fuel n p (u.map K) = ⟨(go l' c' t fuel n p u).kind, (go l' c' t fuel n p u).path, (go l' c' t fuel n p u).used.map K⟩
  | 0, n, p, u, _, _ => rfl
  | fuel + 1, n, p, u, hn, hS => by
    have hSn : S n := by
      obtain ⟨p', hp⟩ := go_pre l c t (fuel + 1) n p (u.map K)
      exact hS n (by rw [hp]; exact List.mem_append_left _ hn)
    rcases h n hSn with ⟨h1, h2, h3⟩ | ⟨j, h1, h2, h3⟩
    · unfold go; rw [h1, h2, h3]
    · unfold go at hS ⊢
      rw [h2] at hS
      rw [h1, h2]
      dsimp only at hS ⊢
      rw [List.length_map] at hS ⊢
      have h3' : (l'[j]?.getD ⟨0, 0, 0, 0, 0⟩).to = (l[K j]?.getD ⟨0, 0, 0, 0, 0⟩).to := h3
      rw [h3']
      generalize (l[K j]?.getD ⟨0, 0, 0, 0, 0⟩).to = m at *
      by_cases h5 : u.length = 5
      · rw [if_pos h5, if_pos h5]
      · rw [if_neg h5] at hS
        rw [if_neg h5, if_neg h5]
        have e : u.map K ++ [K j] = (u ++ [j]).map K := by simp
        by_cases hm : m ∈ p
        · rw [if_pos hm, if_pos hm, e]
        · rw [if_neg hm, e] at hS
          rw [if_neg hm, if_neg hm, e]
          exact go_map h fuel m (p ++ [m]) (u ++ [j]) (by simp) hS
/-- the settings of the numbers in S that have the second t, with where they stood -/
structure Few (l l' : List St) (t : Int) (K : Nat → Nat) (S : Int → Prop) : Prop where
  at_ : ∀ (j : Nat) (hj : j < l'.length), ∃ hk : K j < l.length, l'[j] = l[K j]
  all : ∀ (i : Nat) (hi : i < l.length), S l[i].n → l[i].has t = true → ∃ j, j < l'.length ∧ K j = i
theorem Few.find {l l' : List St} {t : Int} {K : Nat → Nat} {S : Int → Prop} (h : Few l l' t K S) (hv : Va l) {m : Int} (hm : S m) (k : Int) :
    (find l' m k t = none ∧ find l m k t = none) ∨ ∃ j, find l' m k t = some j ∧ find l m k t = some (K j) ∧ toOf l' j = toOf l (K j) := by
  cases hf : Tw.find l' m k t with
  | none =>
    refine .inl ⟨rfl, ?_⟩
    cases hg : Tw.find l m k t with
    | none => rfl
    | some i =>
      obtain ⟨hi, h1⟩ := find_some hg
      obtain ⟨a1, a2, a3, a4⟩ := hit_iff.1 h1
      obtain ⟨j, hj, e⟩ := h.all i hi (by rw [a1]; exact hm) (has_iff.2 ⟨a3, a4⟩)
      obtain ⟨hk, e2⟩ := h.at_ j hj
      have h3 := find_none.1 hf l'[j] (List.getElem_mem hj)
      subst e
      rw [e2, h1] at h3; cases h3
  | some j =>
    obtain ⟨hj, h1⟩ := find_some hf
    obtain ⟨hk, e⟩ := h.at_ j hj
    rw [e] at h1
    refine .inr ⟨j, rfl, find_is hv hk h1, ?_⟩
    unfold toOf
    rw [List.getElem?_eq_getElem hj, List.getElem?_eq_getElem hk, e]
theorem Few.al {l l' : List St} {c c' : List (Int × Int)} {t : Int} {K : Nat → Nat} {S : Int → Prop} (h : Few l l' t K S) (hv : Va l) (hc : ∀ m, S m → cond c' m = cond c m) {m : Int} (hm : S m) : Al l l' c c' t K m := by
  unfold Al counts
  rw [hc m hm]
  rcases h.find hv hm 1 with ⟨h1, h2⟩ | ⟨j, h1, h2, h3⟩
  · rw [h1, h2]
    dsimp only
    by_cases h0 : 0 < cond c m
    · rw [if_pos h0, if_pos h0]
      rcases h.find hv hm (cond c m) with ⟨h3, h4⟩ | ⟨j, h3, h4, h5⟩
      · exact .inl ⟨h3, h4, rfl⟩
      · exact .inr ⟨j, h3, h4, h5⟩
    · rw [if_neg h0, if_neg h0]; exact .inl ⟨rfl, rfl, rfl⟩
  · rw [h1, h2]; exact .inr ⟨j, rfl, rfl, h3⟩
/-- ForwardLocal -/
theorem local_ {l l' : List St} {c c' : List (Int × Int)} {n t : Int} {K : Nat → Nat} (hv : Va l) (h : Few l l' t K fun x => x ∈ (route l c n t).path) (hc : ∀ m ∈ (route l c n t).path, cond c' m = cond c m) :
    (route l c n t).kind = (route l' c' n t).kind ∧ (route l c n t).path = (route l' c' n t).path ∧ (route l c n t).used = (route l' c' n t).used.map K := by
  have := go_map (S := fun x => x ∈ (route l c n t).path) (fun m hm => h.al hv hc hm) 6 n [n] [] (by simp) (fun x hx => hx)
  have e : route l c n t = ⟨(route l' c' n t).kind, (route l' c' n t).path, (route l' c' n t).used.map K⟩ := this
  have e1 := congrArg Ro.kind e
  have e2 := congrArg Ro.path e
  have e3 := congrArg Ro.used e
  exact ⟨e1, e2, e3⟩
theorem cond_filter {c : List (Int × Int)} {S : Int → Bool} {m : Int} (hm : S m = true) : cond (c.filter fun x => S x.1) m = cond c m := by
  have : ∀ (a : List (Int × Int)), (a.filter fun x => S x.1).find? (fun x => x.1 == m) = a.find? fun x => x.1 == m := by
    intro a
    induction a with
    | nil => rfl
    | cons x a ih =>
      by_cases h1 : x.1 = m
      · have hx : S x.1 = true := by rw [h1]; exact hm
        have hb : (x.1 == m) = true := by simp [h1]
        rw [List.filter_cons_of_pos (by exact hx), List.find?_cons_of_pos (by exact hb), List.find?_cons_of_pos (by exact hb)]
      · have hb : ¬ (x.1 == m) = true := by simp [h1]
        rw [List.find?_cons_of_neg (by exact hb)]
        cases hx : S x.1 with
        | true => rw [List.filter_cons_of_pos (by exact hx), List.find?_cons_of_neg (by exact hb), ih]
        | false => rw [List.filter_cons_of_neg (by simp [hx]), ih]
  unfold cond
  rw [this]
end Tw
end Go.Proofs.YtlldlkjngcgcjaaGreatDoor
namespace Go.Proofs.YtlldlkjngcgcjaaGreatDoor
namespace Tw
set_option linter.unusedVariables false
set_option linter.unusedSimpArgs false
/-- where the setting of the kind 1 of a number leads -/
def nx (l : List St) (t n : Int) : Option Int := (find l n 1 t).map (toOf l)
/-- the loop of n, begun with it, from the number cur on; out: the numbers by then -/
def lp (l : List St) (t n : Int) : Nat → Int → List Int → Option (List Int)
  | 0, _, _ => none
  | fuel + 1, cur, out =>
    match nx l t cur with
    | none => none
    | some m => if m = n then some out else if m ∈ out then none else lp l t n fuel m (out ++ [m])
/-- each leads to the next one -/
def Lk (l : List St) (t : Int) (r : List Int) : Prop := ∀ i a b, r[i]? = some a → r[i + 1]? = some b → nx l t a = some b
structure Lp (l : List St) (t n : Int) (r : List Int) : Prop where
  first : r[0]? = some n
  nd : r.Nodup
  lk : Lk l t r
  last : ∃ z, r[r.length - 1]? = some z ∧ nx l t z = some n
theorem lk_snoc {l : List St} {t : Int} {r : List Int} {cur m : Int} (h : Lk l t r) (hr : r[r.length - 1]? = some cur) (hm : nx l t cur = some m) : Lk l t (r ++ [m]) := fun i a b h1 h2 => by
  have hpos : 0 < r.length := by
    rcases Nat.eq_zero_or_pos r.length with e | e
    · have : r = [] := List.eq_nil_of_length_eq_zero e
      rw [this] at hr; simp at hr
    · exact e
  rcases Nat.lt_or_ge (i + 1) r.length with h3 | h3
  · rw [List.getElem?_append_left (by omega)] at h1
    rw [List.getElem?_append_left h3] at h2
    exact h i a b h1 h2
  · have h4 := (List.getElem?_eq_some_iff.1 h2).1
    rw [List.length_append, List.length_singleton] at h4
    have h5 : i = r.length - 1 := by omega
    rw [List.getElem?_append_left (by omega), h5, hr] at h1
    cases h1
    have h6 : i + 1 = r.length := by omega
    rw [h6] at h2
    simp at h2
    rw [← h2]; exact hm
theorem lp_sound {l : List St} {t n : Int} {r : List Int} : ∀ (fuel : Nat) (cur : Int) (out : List Int), out[0]? = some n → out[out.length - 1]? = some cur → out.Nodup → Lk l t out → lp l t n fuel cur out = some r → Lp l t n r
  | 0, cur, out, _, _, _, _, h => by cases h
  | fuel + 1, cur, out, h0, h1, h2, h3, h => by
    unfold lp at h
    cases hc : nx l t cur with
    | none => rw [hc] at h; cases h
    | some m =>
      rw [hc] at h
      dsimp only at h
      by_cases e : m = n
      · rw [if_pos e] at h
        cases h
        exact ⟨h0, h2, h3, cur, h1, by rw [hc, e]⟩
      · rw [if_neg e] at h
        by_cases hm : m ∈ out
        · rw [if_pos hm] at h; cases h
        · rw [if_neg hm] at h
          have h0' := (List.getElem?_eq_some_iff.1 h0).1
          refine lp_sound fuel m (out ++ [m]) (by rw [List.getElem?_append_left h0']; exact h0) (by simp) ?_ (lk_snoc h3 h1 hc) h
          rw [List.nodup_append]
          exact ⟨h2, by simp, fun a ha b hb e2 => by rw [List.mem_singleton] at hb; exact hm (by rw [← hb, ← e2]; exact ha)⟩
/-- a loop is found: from its place k on -/
theorem lp_found {l : List St} {t n : Int} {r : List Int} (h : Lp l t n r) : ∀ (d k fuel : Nat) (cur : Int), k + d + 1 = r.length → d < fuel → r[k]? = some cur → lp l t n fuel cur (r.take (k + 1)) = some r
  | 0, k, 0, cur, _, hf, _ => absurd hf (by omega)
  | d + 1, k, 0, cur, _, hf, _ => absurd hf (by omega)
  | 0, k, fuel + 1, cur, hk, hf, hc => by
    obtain ⟨z, h1, h2⟩ := h.last
    have e : k = r.length - 1 := by omega
    rw [e, h1] at hc
    cases hc
    unfold lp
    rw [h2]
    dsimp only
    rw [if_pos rfl, List.take_of_length_le (by omega)]
  | d + 1, k, fuel + 1, cur, hk, hf, hc => by
    have hlt : k + 1 < r.length := by omega
    have hm : r[k + 1]? = some r[k + 1] := List.getElem?_eq_getElem hlt
    have hn := h.lk k cur _ hc hm
    unfold lp
    rw [hn]
    dsimp only
    have h0 := h.first
    have hinj := List.pairwise_iff_getElem.1 (show r.Pairwise (fun a b => a ≠ b) from h.nd)
    obtain ⟨h00, h01⟩ := List.getElem?_eq_some_iff.1 h0
    have hne : r[k + 1] ≠ n := fun e => hinj 0 (k + 1) h00 hlt (by omega) (by rw [h01, e])
    rw [if_neg hne, if_neg]
    · have e : r.take (k + 1) ++ [r[k + 1]] = r.take (k + 1 + 1) := by
        rw [List.take_add_one (i := k + 1), hm, Option.toList_some]
      rw [e]
      exact lp_found h d (k + 1) fuel _ (by omega) (by omega) hm
    · intro hin
      obtain ⟨i, hi, e⟩ := List.getElem_of_mem hin
      rw [List.length_take] at hi
      have e2 : (r.take (k + 1))[i] = r[i]'(by omega) := List.getElem_take
      exact hinj i (k + 1) (by omega) hlt (by omega) (by rw [← e2, e])
/-- the loop of a number, begun with it -/
def loopOf (l : List St) (t n : Int) : Option (List Int) := lp l t n (l.length + 1) n [n]
theorem loopOf_some {l : List St} {t n : Int} {r : List Int} (h : loopOf l t n = some r) : Lp l t n r :=
  lp_sound (l.length + 1) n [n] rfl rfl (by simp) (fun i a b h1 h2 => by
    have := (List.getElem?_eq_some_iff.1 h2).1
    simp at this) h
theorem nodup_len : ∀ (r L : List Int), r.Nodup → (∀ x ∈ r, x ∈ L) → r.length ≤ L.length
  | [], L, _, _ => Nat.zero_le _
  | a :: r, L, hd, hs => by
    obtain ⟨h1, h2⟩ := List.nodup_cons.1 hd
    have ha := hs a (List.mem_cons_self ..)
    have ih := nodup_len r (L.erase a) h2 fun x hx => by
      have hne : x ≠ a := fun e => h1 (by rw [← e]; exact hx)
      exact (List.mem_erase_of_ne hne).2 (hs x (List.mem_cons_of_mem _ hx))
    rw [List.length_erase_of_mem ha] at ih
    have := List.length_pos_of_mem ha
    simp only [List.length_cons]; omega
theorem nx_in {l : List St} {t a b : Int} (h : nx l t a = some b) : a ∈ l.map St.n := by
  unfold nx at h
  cases hf : find l a 1 t with
  | none => rw [hf] at h; cases h
  | some i =>
    obtain ⟨hi, h1⟩ := find_some hf
    exact List.mem_map.2 ⟨l[i], List.getElem_mem hi, (hit_iff.1 h1).1⟩
theorem Lp.len {l : List St} {t n : Int} {r : List Int} (h : Lp l t n r) : 1 ≤ r.length ∧ r.length ≤ l.length := by
  obtain ⟨h00, -⟩ := List.getElem?_eq_some_iff.1 h.first
  refine ⟨h00, ?_⟩
  have := nodup_len r (l.map St.n) h.nd fun x hx => by
    obtain ⟨i, hi, e⟩ := List.getElem_of_mem hx
    rcases Nat.lt_or_ge (i + 1) r.length with h1 | h1
    · exact nx_in (h.lk i x _ (by rw [List.getElem?_eq_getElem hi, e]) (List.getElem?_eq_getElem h1))
    · obtain ⟨z, h2, h3⟩ := h.last
      have h4 : i = r.length - 1 := by omega
      rw [← h4, List.getElem?_eq_getElem hi, e] at h2
      cases h2
      exact nx_in h3
  rwa [List.length_map] at this
/-- the loop is found exactly if there is one -/
theorem loopOf_iff {l : List St} {t n : Int} {r : List Int} : loopOf l t n = some r ↔ Lp l t n r := by
  refine ⟨loopOf_some, fun h => ?_⟩
  obtain ⟨h1, h2⟩ := h.len
  have hf := lp_found h (r.length - 1) 0 (l.length + 1) n (by omega) (by omega) h.first
  have e : r.take (0 + 1) = [n] := by
    rw [List.take_add_one, h.first]; rfl
  rw [e] at hf; exact hf
end Tw
end Go.Proofs.YtlldlkjngcgcjaaGreatDoor
namespace Go.Proofs.YtlldlkjngcgcjaaGreatDoor
namespace Tw
set_option linter.unusedVariables false
set_option linter.unusedSimpArgs false
theorem Lp.turn {l : List St} {t n m : Int} {a b : List Int} (h : Lp l t n (a ++ b)) (hb : b[0]? = some m) : Lp l t m (b ++ a) := by
  have hb0 := (List.getElem?_eq_some_iff.1 hb).1
  cases a with
  | nil =>
    have e : n = m := by
      have := h.first
      rw [List.nil_append, hb] at this
      exact (Option.some.inj this).symm
    rw [List.append_nil, ← e]; exact h
  | cons x a =>
    have e : x = n := by
      have := h.first
      simpa using this
    subst e
    obtain ⟨z, z1, z2⟩ := h.last
    have hz : b[b.length - 1]? = some z := by
      rw [List.length_append, List.getElem?_append_right (by omega)] at z1
      rw [← z1]; congr 1; omega
    refine ⟨by rw [List.getElem?_append_left hb0]; exact hb, ?_, fun i p q h1 h2 => ?_, ?_⟩
    · have := h.nd
      rw [List.nodup_append] at this ⊢
      exact ⟨this.2.1, this.1, fun u hu v hv e => this.2.2 v hv u hu e.symm⟩
    · rcases Nat.lt_trichotomy (i + 1) b.length with h3 | h3 | h3
      · rw [List.getElem?_append_left (by omega)] at h1
        rw [List.getElem?_append_left h3] at h2
        refine h.lk ((x :: a).length + i) p q ?_ ?_
        · rw [List.getElem?_append_right (by omega)]
          rw [← h1]; congr 1; omega
        · rw [List.getElem?_append_right (by omega)]
          rw [← h2]; congr 1; omega
      · rw [List.getElem?_append_left (by omega)] at h1
        rw [List.getElem?_append_right (by omega)] at h2
        have e1 : i = b.length - 1 := by omega
        rw [e1, hz] at h1
        have e2 : i + 1 - b.length = 0 := by omega
        rw [e2] at h2
        simp at h2
        cases h1
        rw [← h2]; exact z2
      · rw [List.getElem?_append_right (by omega)] at h1 h2
        have h4 := (List.getElem?_eq_some_iff.1 h2).1
        have h5 := (List.getElem?_eq_some_iff.1 h1).1
        refine h.lk (i - b.length) p q ?_ ?_
        · rw [List.getElem?_append_left h5]; exact h1
        · rw [List.getElem?_append_left (by omega)]
          rw [← h2]; congr 1; omega
    · have h6 : (x :: a).length - 1 < (x :: a).length := by simp
      refine ⟨(x :: a)[(x :: a).length - 1], ?_, ?_⟩
      · rw [List.length_append, List.getElem?_append_right (by simp only [List.length_cons]; omega), ← List.getElem?_eq_getElem h6]
        congr 1; simp only [List.length_cons]; omega
      · refine h.lk ((x :: a).length - 1) _ m ?_ ?_
        · rw [List.getElem?_append_left h6, List.getElem?_eq_getElem h6]
        · rw [List.getElem?_append_right (by simp only [List.length_cons]; omega), ← hb]
          congr 1; simp only [List.length_cons]; omega
end Tw
end Go.Proofs.YtlldlkjngcgcjaaGreatDoor
namespace Go.Proofs.YtlldlkjngcgcjaaGreatDoor
namespace Tw
set_option linter.unusedVariables false
set_option linter.unusedSimpArgs false
theorem Lp.unique {l : List St} {t n : Int} {r r' : List Int} (h : Lp l t n r) (h' : Lp l t n r') : r = r' := by
  have e := (loopOf_iff.2 h).symm.trans (loopOf_iff.2 h')
  exact Option.some.inj e
theorem Lp.step {l : List St} {t n : Int} {r : List Int} (h : Lp l t n r) {x : Int} (hx : x ∈ r) : ∃ y, nx l t x = some y := by
  obtain ⟨i, hi, e⟩ := List.getElem_of_mem hx
  rcases Nat.lt_or_ge (i + 1) r.length with h1 | h1
  · exact ⟨_, h.lk i x _ (by rw [List.getElem?_eq_getElem hi, e]) (List.getElem?_eq_getElem h1)⟩
  · obtain ⟨z, h2, h3⟩ := h.last
    have h4 : i = r.length - 1 := by omega
    rw [← h4, List.getElem?_eq_getElem hi, e] at h2
    cases h2
    exact ⟨n, h3⟩
/-- a loop begun with any of its numbers -/
theorem Lp.at {l : List St} {t n m : Int} {r : List Int} (h : Lp l t n r) (hm : m ∈ r) : ∃ r', Lp l t m r' ∧ ∀ x, x ∈ r' ↔ x ∈ r := by
  obtain ⟨i, hi, e⟩ := List.getElem_of_mem hm
  have hr : r = r.take i ++ r.drop i := (List.take_append_drop i r).symm
  refine ⟨r.drop i ++ r.take i, Lp.turn (n := n) (by rw [← hr]; exact h) (by rw [List.getElem?_drop, Nat.add_zero, List.getElem?_eq_getElem hi, e]), fun x => ?_⟩
  conv => rhs; rw [hr]
  rw [List.mem_append, List.mem_append]; exact Or.comm
theorem min_ex : ∀ (r : List Int), r ≠ [] → ∃ m ∈ r, ∀ x ∈ r, m ≤ x
  | [], h => absurd rfl h
  | [a], _ => ⟨a, List.mem_cons_self .., fun x hx => by rw [List.mem_singleton.1 hx]; exact Int.le_refl _⟩
  | a :: b :: r, _ => by
    obtain ⟨m, h1, h2⟩ := min_ex (b :: r) (by simp)
    rcases Int.le_total a m with h3 | h3
    · exact ⟨a, List.mem_cons_self .., fun x hx => by
        rcases List.mem_cons.1 hx with rfl | hx
        · exact Int.le_refl _
        · exact Int.le_trans h3 (h2 x hx)⟩
    · exact ⟨m, List.mem_cons_of_mem _ h1, fun x hx => by
        rcases List.mem_cons.1 hx with rfl | hx
        · exact h3
        · exact h2 x hx⟩
theorem Lp.ne {l : List St} {t n : Int} {r : List Int} (h : Lp l t n r) : n ∈ r := List.mem_of_getElem? h.first
theorem Lp.least {l : List St} {t n : Int} {r : List Int} (h : Lp l t n r) : ∃ m r', Lp l t m r' ∧ (∀ x ∈ r', m ≤ x) ∧ ∀ x, x ∈ r' ↔ x ∈ r := by
  obtain ⟨m, h1, h2⟩ := min_ex r (List.ne_nil_of_mem h.ne)
  obtain ⟨r', h3, h4⟩ := h.at h1
  exact ⟨m, r', h3, fun x hx => h2 x ((h4 x).1 hx), h4⟩
theorem Lp.head {l : List St} {t n : Int} {r : List Int} (h : Lp l t n r) : r.headD 0 = n := by
  cases r with
  | nil => have := h.first; simp at this
  | cons a r => have := h.first; simpa using this
/-- the list of all loops: each begun with its least number, in their order -/
structure Ls (l : List St) (t : Int) (out : List (List Int)) : Prop where
  up : out.Pairwise fun a b => a.headD 0 < b.headD 0
  is : ∀ r, r ∈ out ↔ ∃ n, Lp l t n r ∧ ∀ x ∈ r, n ≤ x
theorem up_unique : ∀ (a b : List (List Int)), a.Pairwise (fun a b => a.headD 0 < b.headD 0) → b.Pairwise (fun a b => a.headD 0 < b.headD 0) → (∀ r, r ∈ a ↔ r ∈ b) → a = b
  | [], [], _, _, _ => rfl
  | [], y :: b, _, _, h => absurd ((h y).2 (List.mem_cons_self ..)) List.not_mem_nil
  | x :: a, [], _, _, h => absurd ((h x).1 (List.mem_cons_self ..)) List.not_mem_nil
  | x :: a, y :: b, ha, hb, h => by
    obtain ⟨a1, a2⟩ := List.pairwise_cons.1 ha
    obtain ⟨b1, b2⟩ := List.pairwise_cons.1 hb
    have e : x = y := by
      rcases List.mem_cons.1 ((h x).1 (List.mem_cons_self ..)) with e | hx
      · exact e
      · rcases List.mem_cons.1 ((h y).2 (List.mem_cons_self ..)) with e | hy
        · exact e.symm
        · have h1 := b1 x hx
          have h2 := a1 y hy
          omega
    subst e
    rw [up_unique a b a2 b2 fun r => ?_]
    constructor
    · intro hr
      rcases List.mem_cons.1 ((h r).1 (List.mem_cons_of_mem _ hr)) with e | h1
      · have := a1 r hr; rw [e] at this; omega
      · exact h1
    · intro hr
      rcases List.mem_cons.1 ((h r).2 (List.mem_cons_of_mem _ hr)) with e | h1
      · have := b1 r hr; rw [e] at this; omega
      · exact h1
theorem Ls.unique {l : List St} {t : Int} {a b : List (List Int)} (ha : Ls l t a) (hb : Ls l t b) : a = b :=
  up_unique a b ha.up hb.up fun r => (ha.is r).trans (hb.is r).symm
/-- a number is in one of the loops exactly if there is a loop begun with it -/
theorem Ls.through {l : List St} {t n : Int} {out : List (List Int)} (h : Ls l t out) : (∃ r ∈ out, n ∈ r) ↔ ∃ r, Lp l t n r := by
  constructor
  · rintro ⟨r, h1, h2⟩
    obtain ⟨m, h3, -⟩ := (h.is r).1 h1
    obtain ⟨r', h4, -⟩ := h3.at h2
    exact ⟨r', h4⟩
  · rintro ⟨r, h1⟩
    obtain ⟨m, r', h2, h3, h4⟩ := h1.least
    exact ⟨r', (h.is r').2 ⟨m, h2, h3⟩, (h4 n).2 h1.ne⟩
theorem nx_some {l : List St} {t a b : Int} (h : nx l t a = some b) : ∃ (i : Nat) (hi : i < l.length), find l a 1 t = some i ∧ hit a 1 t l[i] = true := by
  unfold nx at h
  cases hf : find l a 1 t with
  | none => rw [hf] at h; cases h
  | some i =>
    obtain ⟨hi, h1⟩ := find_some hf
    exact ⟨i, hi, rfl, h1⟩
theorem nx_back {l : List St} (hv : Va l) {k a : Int} {i : Nat} (hi : i < l.length) (hf : find l a 1 k = some i) (hh : hit a 1 k l[i] = true) {T : Int} (h1 : l[i].f ≤ T) (h2 : T ≤ k) : nx l T a = nx l k a := by
  obtain ⟨a1, a2, a3, a4⟩ := hit_iff.1 hh
  have : find l a 1 T = some i := find_is hv hi (hit_iff.2 ⟨a1, a2, h1, by omega⟩)
  unfold nx
  rw [this, hf]
/-- a loop begins when a spell of one of its settings begins -/
theorem begins_go {l : List St} (hv : Va l) {k f : Int} (hfk : f ≤ k) (hg : ∃ g ∈ l, g.f = f) : ∀ r : List Int, (∀ x ∈ r, ∃ y, nx l k x = some y) → ∃ T, f ≤ T ∧ T ≤ k ∧ (∃ g ∈ l, g.f = T) ∧ ∀ T', T ≤ T' → T' ≤ k → ∀ x ∈ r, nx l T' x = nx l k x
  | [], _ => ⟨f, Int.le_refl _, hfk, hg, fun T' _ _ x hx => absurd hx List.not_mem_nil⟩
  | x :: r, h => by
    obtain ⟨T, h1, h2, h3, h4⟩ := begins_go hv hfk hg r fun y hy => h y (List.mem_cons_of_mem _ hy)
    obtain ⟨y, hy⟩ := h x (List.mem_cons_self ..)
    obtain ⟨i, hi, hf, hh⟩ := nx_some hy
    obtain ⟨-, -, a3, -⟩ := hit_iff.1 hh
    rcases Int.le_total l[i].f T with h5 | h5
    · refine ⟨T, h1, h2, h3, fun T' b1 b2 z hz => ?_⟩
      rcases List.mem_cons.1 hz with rfl | hz
      · exact nx_back hv hi hf hh (by omega) b2
      · exact h4 T' b1 b2 z hz
    · refine ⟨l[i].f, by omega, a3, ⟨l[i], List.getElem_mem hi, rfl⟩, fun T' b1 b2 z hz => ?_⟩
      rcases List.mem_cons.1 hz with rfl | hz
      · exact nx_back hv hi hf hh b1 b2
      · exact h4 T' (by omega) b2 z hz
theorem Lp.move {l : List St} {t t' n : Int} {r : List Int} (h : Lp l t n r) (he : ∀ x ∈ r, nx l t' x = nx l t x) : Lp l t' n r := by
  refine ⟨h.first, h.nd, fun i a b h1 h2 => by rw [he a (List.mem_of_getElem? h1)]; exact h.lk i a b h1 h2, ?_⟩
  obtain ⟨z, h1, h2⟩ := h.last
  exact ⟨z, h1, by rw [he z (List.mem_of_getElem? h1)]; exact h2⟩
theorem begins {l : List St} (hv : Va l) {s : St} (hs : s ∈ l) (hk1 : s.k = 1) {k : Int} {r : List Int} (hh : s.has k = true) (h : Lp l k s.n r) : ∃ T, s.f ≤ T ∧ T ≤ k ∧ (∃ g ∈ l, g.f = T) ∧ Lp l T s.n r := by
  obtain ⟨h1, h2, h3, h4⟩ := begins_go hv (has_iff.1 hh).1 ⟨s, hs, rfl⟩ r fun x hx => h.step hx
  exact ⟨h1, h2, h3, h4.1, h.move (h4.2 h1 (Int.le_refl _) h3)⟩
end Tw
end Go.Proofs.YtlldlkjngcgcjaaGreatDoor
namespace Go.Proofs.YtlldlkjngcgcjaaGreatDoor
namespace Tw
set_option linter.unusedVariables false
set_option linter.unusedSimpArgs false
/-- valid but for the length -/
def Vs (l : List St) : Prop := (∀ s ∈ l, Fm s) ∧ l.Pairwise fun a b => ¬ Cl a b
theorem va_vs {l : List St} : Va l ↔ l.length ≤ 40 ∧ Vs l := ⟨fun h => ⟨h.len, h.fm, h.nc⟩, fun h => ⟨h.1, h.2.1, h.2.2⟩⟩
theorem vs_nil : Vs [] := ⟨fun s h => absurd h List.not_mem_nil, List.Pairwise.nil⟩
theorem vs_snoc {l : List St} {s : St} : Vs (l ++ [s]) ↔ Vs l ∧ Fm s ∧ ∀ r ∈ l, ¬ Cl r s := by
  unfold Vs
  rw [List.pairwise_append]
  constructor
  · rintro ⟨h1, h2, -, h3⟩
    exact ⟨⟨fun x hx => h1 x (List.mem_append_left _ hx), h2⟩, h1 s (by simp), fun r hr => h3 r hr s (by simp)⟩
  · rintro ⟨⟨h1, h2⟩, h3, h4⟩
    refine ⟨fun x hx => ?_, h2, List.pairwise_singleton _ _, fun r hr x hx => by rw [List.mem_singleton.1 hx]; exact h4 r hr⟩
    rcases List.mem_append.1 hx with hx | hx
    · exact h1 x hx
    · rw [List.mem_singleton.1 hx]; exact h3
theorem vs_take {l : List St} {i : Nat} (h : i < l.length) : Vs (l.take (i + 1)) ↔ Vs (l.take i) ∧ Fm l[i] ∧ ∀ r ∈ l.take i, ¬ Cl r l[i] := by
  rw [List.take_succ_eq_append_getElem h, vs_snoc]
theorem Vs.sub {l l' : List St} (h : Vs l) (hs : l'.Sublist l) : Vs l' := ⟨fun s hx => h.1 s (hs.subset hx), h.2.sublist hs⟩
theorem vs_take_no {l : List St} {i : Nat} (h : ¬ Vs (l.take i)) : ¬ Vs l := fun hv => h (hv.sub (List.take_sublist _ _))
/-- valid conditions, step by step: the last number by then -/
def Cn (c : Int × Int) : Prop := 0 ≤ c.1 ∧ c.1 ≤ 99999999 ∧ 2 ≤ c.2 ∧ c.2 ≤ 4
def lastC (c : List (Int × Int)) : Int := (c.getLast?.map (·.1)).getD (-1)
/-- valid but for the length -/
structure Vc (c : List (Int × Int)) : Prop where
  fm : ∀ x ∈ c, Cn x
  up : c.Pairwise fun a b => a.1 < b.1
theorem vc_nil : Vc [] := ⟨fun s h => absurd h List.not_mem_nil, List.Pairwise.nil⟩
theorem lastC_snoc (c : List (Int × Int)) (x : Int × Int) : lastC (c ++ [x]) = x.1 := by simp [lastC]
theorem lastC_le {c : List (Int × Int)} (h : Vc c) : ∀ y ∈ c, y.1 ≤ lastC c := fun y hy => by
  rcases List.eq_nil_or_concat c with rfl | ⟨c', z, rfl⟩
  · exact absurd hy List.not_mem_nil
  · rw [List.concat_eq_append] at hy h ⊢
    rw [lastC_snoc]
    rcases List.mem_append.1 hy with h1 | h1
    · exact Int.le_of_lt ((List.pairwise_append.1 h.up).2.2 y h1 z (by simp))
    · rw [List.mem_singleton.1 h1]; exact Int.le_refl _
theorem vc_snoc {c : List (Int × Int)} {x : Int × Int} : Vc (c ++ [x]) ↔ Vc c ∧ Cn x ∧ lastC c < x.1 := by
  constructor
  · rintro ⟨h1, h2⟩
    have h3 := List.pairwise_append.1 h2
    refine ⟨⟨fun y hy => h1 y (List.mem_append_left _ hy), h3.1⟩, h1 x (by simp), ?_⟩
    rcases List.eq_nil_or_concat c with rfl | ⟨c', z, rfl⟩
    · have := (h1 x (by simp)).1
      show -1 < x.1
      omega
    · rw [List.concat_eq_append, lastC_snoc]; exact h3.2.2 z (by simp) x (by simp)
  · rintro ⟨h1, h2, h3⟩
    refine ⟨fun y hy => ?_, List.pairwise_append.2 ⟨h1.up, List.pairwise_singleton _ _, fun y hy z hz => ?_⟩⟩
    · rcases List.mem_append.1 hy with hy | hy
      · exact h1.fm y hy
      · rw [List.mem_singleton.1 hy]; exact h2
    · rw [List.mem_singleton.1 hz]
      have := lastC_le h1 y hy
      omega
theorem vc_take {c : List (Int × Int)} {i : Nat} (h : i < c.length) : Vc (c.take (i + 1)) ↔ Vc (c.take i) ∧ Cn c[i] ∧ lastC (c.take i) < c[i].1 := by
  rw [List.take_succ_eq_append_getElem h, vc_snoc]
theorem vc_take_no {c : List (Int × Int)} {i : Nat} (h : ¬ Vc (c.take i)) : ¬ Vc c := fun hv =>
  h ⟨fun x hx => hv.fm x (List.mem_of_mem_take hx), hv.up.sublist (List.take_sublist _ _)⟩
/-- of conditions that rise, that of a number -/
theorem cond_of {c : List (Int × Int)} (h : Vc c) {x : Int × Int} (hx : x ∈ c) : cond c x.1 = x.2 := by
  unfold cond
  cases hf : c.find? fun y => y.1 == x.1 with
  | none =>
    have := List.find?_eq_none.1 hf x hx
    simp at this
  | some y =>
    have h1 := List.find?_some hf
    have h2 := List.mem_of_find?_eq_some hf
    simp only [beq_iff_eq] at h1
    obtain ⟨i, hi, ei⟩ := List.getElem_of_mem hx
    obtain ⟨j, hj, ej⟩ := List.getElem_of_mem h2
    have hp := List.pairwise_iff_getElem.1 h.up
    rcases Nat.lt_trichotomy i j with h3 | h3 | h3
    · have := hp i j hi hj h3
      rw [ei, ej] at this; omega
    · subst h3; rw [← ei, ← ej]
    · have := hp j i hj hi h3
      rw [ei, ej] at this; omega
theorem cond_no {c : List (Int × Int)} {n : Int} (h : ∀ x ∈ c, x.1 ≠ n) : cond c n = 0 := by
  unfold cond
  cases hf : c.find? fun y => y.1 == n with
  | none => rfl
  | some y =>
    have h1 := List.find?_some hf
    simp only [beq_iff_eq] at h1
    exact absurd h1 (h y (List.mem_of_find?_eq_some hf))
theorem cond_le {c : List (Int × Int)} (h : Vc c) (n : Int) : cond c n = 0 ∨ 2 ≤ cond c n ∧ cond c n ≤ 4 := by
  unfold cond
  cases hf : c.find? fun y => y.1 == n with
  | none => exact .inl rfl
  | some y => exact .inr ((h.fm y (List.mem_of_find?_eq_some hf)).2.2)
def pick (c n : Int) : Int := (if c < 0 then -(c + 1) else c) % n
theorem pick_in (c : Int) {n : Int} (h : 0 < n) : 0 ≤ pick c n ∧ pick c n < n := ⟨Int.emod_nonneg _ (by omega), Int.emod_lt_of_pos _ h⟩
/-- five integers -/
structure X5 where
  a : Int
  b : Int
  c : Int
  d : Int
  e : Int
/-- the setting that they determine -/
def one (x : X5) : St := ⟨10 + pick x.a 8, if pick x.b 8 > 4 then pick x.b 8 - 3 else 1, 10 + (pick x.a 8 + 1 + pick x.c 7) % 8, pick x.d 50, pick x.d 50 + 1 + pick x.e 60⟩
/-- a setting between the numbers 10 to 17 -/
structure Sm (s : St) : Prop where
  n0 : 10 ≤ s.n
  n2 : s.n ≤ 17
  t0 : 10 ≤ s.to
  t2 : s.to ≤ 17
  ne : s.n ≠ s.to
  k1 : 1 ≤ s.k
  k4 : s.k ≤ 4
  f0 : 0 ≤ s.f
  f2 : s.f ≤ 49
  fe : s.f < s.e
  e2 : s.e ≤ 109
theorem one_sm (x : X5) : Sm (one x) := by
  have ha := pick_in x.a (n := 8) (by decide)
  have hb := pick_in x.b (n := 8) (by decide)
  have hc := pick_in x.c (n := 7) (by decide)
  have hd := pick_in x.d (n := 50) (by decide)
  have he := pick_in x.e (n := 60) (by decide)
  constructor <;> simp only [one] <;> (try split) <;> omega
theorem Sm.fm {s : St} (h : Sm s) : Fm s := by
  obtain ⟨h1, h2, h3, h4, h5, h6, h7, h8, h9, h10, h11⟩ := h
  constructor <;> omega
open Classical in
/-- the settings that integers determine: i of them looked at -/
noncomputable def madeG (xs : List X5) : List St := xs.foldl (fun l x => if Vs (l ++ [one x]) then l ++ [one x] else l) []
noncomputable def made (xs : List X5) : List St := madeG (xs.take 16)
open Classical in
theorem madeG_snoc (xs : List X5) (x : X5) : madeG (xs ++ [x]) = if Vs (madeG xs ++ [one x]) then madeG xs ++ [one x] else madeG xs := by
  unfold madeG; rw [List.foldl_append]; rfl
theorem snoc_ind {α : Type} {p : List α → Prop} (h0 : p []) (h1 : ∀ l a, p l → p (l ++ [a])) (l : List α) : p l := by
  suffices h : ∀ (r : List α), p r.reverse by rw [← List.reverse_reverse l]; exact h _
  intro r
  induction r with
  | nil => exact h0
  | cons a r ih => rw [List.reverse_cons]; exact h1 _ _ ih
open Classical in
theorem madeG_ok (xs : List X5) : Vs (madeG xs) ∧ (∀ s ∈ madeG xs, Sm s) ∧ (madeG xs).length ≤ xs.length := by
  refine snoc_ind (p := fun xs => Vs (madeG xs) ∧ (∀ s ∈ madeG xs, Sm s) ∧ (madeG xs).length ≤ xs.length) ⟨vs_nil, fun s h => absurd h List.not_mem_nil, Nat.le_refl _⟩ (fun xs x ih => ?_) xs
  rw [madeG_snoc]
  obtain ⟨h1, h2, h3⟩ := ih
  split
  · rename_i hv
    refine ⟨hv, fun s hs => ?_, by simp; exact h3⟩
    rcases List.mem_append.1 hs with hs | hs
    · exact h2 s hs
    · rw [List.mem_singleton.1 hs]; exact one_sm x
  · exact ⟨h1, h2, by simp; omega⟩
theorem made_va (xs : List X5) : Va (made xs) := by
  have h := madeG_ok (xs.take 16)
  have : (xs.take 16).length ≤ 16 := by simp; omega
  exact va_vs.2 ⟨by unfold made; omega, h.1⟩
theorem made_sm (xs : List X5) : ∀ s ∈ made xs, Sm s := (madeG_ok (xs.take 16)).2.1
theorem made_len (xs : List X5) : (made xs).length ≤ 16 := by
  have h := (madeG_ok (xs.take 16)).2.2
  have : (xs.take 16).length ≤ 16 := by simp; omega
  unfold made; omega
/-- the conditions that an integer determines: those of the first i numbers -/
def dig (x : Int) (i : Nat) : Int := pick x 65536 / (2 : Int) ^ (2 * i) % 4
def condG (x : Int) : Nat → List (Int × Int)
  | 0 => []
  | i + 1 => if dig x i > 0 then condG x i ++ [(10 + (i : Int), 1 + dig x i)] else condG x i
def conds (x : Int) : List (Int × Int) := condG x 8
theorem condG_ok (x : Int) : ∀ i, i ≤ 8 → Vc (condG x i) ∧ (∀ y ∈ condG x i, 10 ≤ y.1 ∧ y.1 < 10 + (i : Int)) ∧ (condG x i).length ≤ i
  | 0 => fun _ => ⟨vc_nil, fun y h => absurd h List.not_mem_nil, Nat.le_refl _⟩
  | i + 1 => fun h => by
    obtain ⟨h1, h2, h3⟩ := condG_ok x i (by omega)
    have hd : 0 ≤ dig x i ∧ dig x i < 4 := ⟨Int.emod_nonneg _ (by decide), Int.emod_lt_of_pos _ (by decide)⟩
    unfold condG
    · split
      · rename_i hp
        have hl : lastC (condG x i) < 10 + (i : Int) := by
          rcases List.eq_nil_or_concat (condG x i) with e | ⟨c', z, e⟩
          · rw [e]; show (-1 : Int) < _; omega
          · rw [e, List.concat_eq_append, lastC_snoc]; exact (h2 z (by rw [e]; simp)).2
        refine ⟨vc_snoc.2 ⟨h1, ⟨by show (0 : Int) ≤ 10 + _; omega, by show 10 + (i : Int) ≤ _; omega, by show (2 : Int) ≤ 1 + _; omega, by show 1 + dig x i ≤ 4; omega⟩, hl⟩, fun y hy => ?_, by simp; exact h3⟩
        rcases List.mem_append.1 hy with hy | hy
        · have := h2 y hy; omega
        · rw [List.mem_singleton.1 hy]; show 10 ≤ 10 + (i : Int) ∧ 10 + (i : Int) < _; omega
      · exact ⟨h1, fun y hy => by have := h2 y hy; omega, by omega⟩
theorem conds_ok (x : Int) : Vc (conds x) ∧ (∀ y ∈ conds x, 10 ≤ y.1 ∧ y.1 ≤ 17) ∧ (conds x).length ≤ 8 := by
  obtain ⟨h1, h2, h3⟩ := condG_ok x 8 (Nat.le_refl _)
  exact ⟨h1, fun y hy => by have := h2 y hy; omega, h3⟩
end Tw
end Go.Proofs.YtlldlkjngcgcjaaGreatDoor
namespace Go.Proofs.YtlldlkjngcgcjaaGreatDoor
namespace Tw
set_option linter.unusedVariables false
set_option linter.unusedSimpArgs false
theorem counts_nil (l : List St) (n t : Int) : counts l [] n t = find l n 1 t := by
  unfold counts
  cases find l n 1 t with
  | none => rfl
  | some i => rfl
theorem nx_counts (l : List St) (n t : Int) : nx l t n = (counts l [] n t).map (toOf l) := by rw [counts_nil]; rfl
/-- the route is the loop: from its place k on -/
theorem go_loop {l : List St} {t n : Int} {r : List Int} (h : Lp l t n r) (h5 : r.length ≤ 5) : ∀ (d k fuel : Nat) (cur : Int) (u : List Nat), k + d + 1 = r.length → u.length = k → k + fuel = 6 → r[k]? = some cur →
    ∃ u', u'.length = r.length ∧ go l [] t fuel cur (r.take (k + 1)) u = ⟨5, r ++ [n], u'⟩
  | 0, k, 0, cur, u, hk, hu, hf, hc => absurd hf (by omega)
  | d + 1, k, 0, cur, u, hk, hu, hf, hc => absurd hf (by omega)
  | 0, k, fuel + 1, cur, u, hk, hu, hf, hc => by
    obtain ⟨z, h1, h2⟩ := h.last
    have e : k = r.length - 1 := by omega
    rw [e, h1] at hc
    cases hc
    rw [nx_counts] at h2
    cases hx : counts l [] cur t with
    | none => rw [hx] at h2; cases h2
    | some i =>
      rw [hx] at h2
      have h3 : toOf l i = n := Option.some.inj h2
      refine ⟨u ++ [i], by simp; omega, ?_⟩
      unfold go
      rw [hx]
      dsimp only
      rw [if_neg (by omega), List.take_of_length_le (by omega)]
      change (if toOf l i ∈ r then _ else _) = _
      rw [h3, if_pos h.ne]
      change Ro.mk 5 (r ++ [toOf l i]) (u ++ [i]) = _
      rw [h3]
  | d + 1, k, fuel + 1, cur, u, hk, hu, hf, hc => by
    have hlt : k + 1 < r.length := by omega
    have hm : r[k + 1]? = some r[k + 1] := List.getElem?_eq_getElem hlt
    have hn := h.lk k cur _ hc hm
    rw [nx_counts] at hn
    cases hx : counts l [] cur t with
    | none => rw [hx] at hn; cases hn
    | some i =>
      rw [hx] at hn
      have h3 : toOf l i = r[k + 1] := Option.some.inj hn
      have hinj := List.pairwise_iff_getElem.1 (show r.Pairwise (fun a b => a ≠ b) from h.nd)
      have hnot : r[k + 1] ∉ r.take (k + 1) := fun hin => by
        obtain ⟨i, hi, e⟩ := List.getElem_of_mem hin
        rw [List.length_take] at hi
        have e2 : (r.take (k + 1))[i] = r[i]'(by omega) := List.getElem_take
        exact hinj i (k + 1) (by omega) hlt (by omega) (by rw [← e2, e])
      obtain ⟨u', hu', hg⟩ := go_loop h h5 d (k + 1) fuel r[k + 1] (u ++ [i]) (by omega) (by simp; omega) (by omega) hm
      refine ⟨u', hu', ?_⟩
      unfold go
      rw [hx]
      dsimp only
      rw [if_neg (by omega)]
      change (if toOf l i ∈ r.take (k + 1) then _ else go l [] t fuel (toOf l i) (r.take (k + 1) ++ [toOf l i]) (u ++ [i])) = _
      rw [h3, if_neg hnot, ← hg]
      have e : r.take (k + 1) ++ [r[k + 1]] = r.take (k + 1 + 1) := by
        rw [List.take_add_one (i := k + 1), hm, Option.toList_some]
      rw [e]
theorem loop_route {l : List St} {t n : Int} {r : List Int} (h : Lp l t n r) (h5 : r.length ≤ 5) : ∃ u, u.length = r.length ∧ route l [] n t = ⟨5, r ++ [n], u⟩ := by
  have h1 := h.len.1
  have h0 : r.take (0 + 1) = [n] := by rw [List.take_add_one, h.first]; rfl
  obtain ⟨u, hu, hg⟩ := go_loop h h5 (r.length - 1) 0 6 n [] (by omega) rfl (by omega) h.first
  rw [h0] at hg
  exact ⟨u, hu, hg⟩
/-- a route that meets a number twice ends in a loop of this number -/
theorem route_loop {l : List St} (hv : Va l) {t n : Int} (h : (route l [] n t).kind = 5) : ∃ m, (route l [] n t).path[(route l [] n t).used.length]? = some m ∧ ∃ r, Lp l t m r := by
  have hE := route_ok l [] n t
  generalize route l [] n t = R at h hE ⊢
  have hs : ∀ i a b, i < R.used.length → R.path[i]? = some a → R.path[i + 1]? = some b → nx l t a = some b := fun i a b hi h1 h2 => by
    obtain ⟨j, s, -, h4, h5, h6, h7, h8, h9⟩ := hE.stp i hi
    rw [h5] at h1; cases h1
    rw [h6] at h2; cases h2
    obtain ⟨hj, ej⟩ := List.getElem?_eq_some_iff.1 h4
    have hk : s.k = 1 := by
      rcases h9 with h9 | h9
      · exact h9
      · have := (hv.fm s (by rw [← ej]; exact List.getElem_mem hj)).k1
        have h0 : cond [] s.n = 0 := rfl
        omega
    have hf : find l s.n 1 t = some j := find_is hv hj (by rw [ej]; exact hit_iff.2 ⟨rfl, hk, h7, h8⟩)
    unfold nx
    rw [hf]
    simp [toOf, h4]
  rcases hE.fin with ⟨m, -, -, hk, -⟩ | ⟨hk, -⟩ | ⟨-, m, hm, hin⟩
  · rw [h] at hk
    have h0 : cond [] m = 0 := rfl
    rw [h0] at hk
    exact absurd hk (by decide)
  · rw [h] at hk; exact absurd hk (by decide)
  · refine ⟨m, hm, (R.path.take R.used.length).drop ((R.path.take R.used.length).idxOf m), ?_⟩
    generalize hj : (R.path.take R.used.length).idxOf m = j
    have hl := hE.len
    have hjl : j < (R.path.take R.used.length).length := by rw [← hj]; exact List.idxOf_lt_length_of_mem hin
    have hjl2 : j < R.used.length := by rw [List.length_take] at hjl; omega
    have hjm : (R.path.take R.used.length)[j] = m := by subst hj; exact List.getElem_idxOf hjl
    have hat : ∀ i, j + i < R.used.length → ((R.path.take R.used.length).drop j)[i]? = R.path[j + i]? := fun i hi => by
      rw [List.getElem?_drop, List.getElem?_take_of_lt hi]
    have hlen : ((R.path.take R.used.length).drop j).length = R.used.length - j := by simp; omega
    refine ⟨?_, hE.nd.sublist (List.drop_sublist _ _), fun i a b h1 h2 => ?_, ?_⟩
    · rw [List.getElem?_drop, Nat.add_zero, List.getElem?_eq_getElem hjl, hjm]
    · have h3 := (List.getElem?_eq_some_iff.1 h2).1
      rw [hlen] at h3
      rw [hat i (by omega)] at h1
      rw [hat (i + 1) (by omega)] at h2
      exact hs (j + i) a b (by omega) h1 h2
    · rw [hlen]
      have h4 : R.used.length - 1 < R.path.length := by omega
      refine ⟨R.path[R.used.length - 1], ?_, hs (R.used.length - 1) _ m (by omega) (List.getElem?_eq_getElem h4) ?_⟩
      · rw [hat _ (by omega), ← List.getElem?_eq_getElem h4]
        congr 1; omega
      · rw [← hm]; congr 1; omega
/-- no loop: one forward leads to another number -/
theorem nx_ne {l : List St} (hv : Va l) {t a b : Int} (h : nx l t a = some b) : a ≠ b := by
  obtain ⟨i, hi, hf, hh⟩ := nx_some h
  have hb : toOf l i = b := by
    unfold nx at h; rw [hf] at h; exact Option.some.inj h
  have h1 := (hit_iff.1 hh).1
  have h2 := (hv.fm l[i] (List.getElem_mem hi)).ne
  unfold toOf at hb
  rw [List.getElem?_eq_getElem hi, Option.getD_some] at hb
  omega
theorem Lp.two {l : List St} (hv : Va l) {t n : Int} {r : List Int} (h : Lp l t n r) : 2 ≤ r.length := by
  have h1 := h.len.1
  rcases Nat.lt_or_ge 1 r.length with h2 | h2
  · exact h2
  · exfalso
    obtain ⟨z, h3, h4⟩ := h.last
    have h5 := h.first
    have e : r.length - 1 = 0 := by omega
    rw [e, h5] at h3
    cases h3
    exact nx_ne hv h4 rfl
end Tw
end Go.Proofs.YtlldlkjngcgcjaaGreatDoor
namespace Go.Proofs.YtlldlkjngcgcjaaGreatDoor
namespace Tw
set_option linter.unusedVariables false
set_option linter.unusedSimpArgs false
theorem cond_ext {a b : List (Int × Int)} (ha : Vc a) (hb : Vc b) {m : Int} (h : ∀ x : Int × Int, x.1 = m → (x ∈ a ↔ x ∈ b)) : cond a m = cond b m := by
  by_cases hx : ∃ x ∈ a, x.1 = m
  · obtain ⟨x, h1, h2⟩ := hx
    have e1 := cond_of ha h1
    have e2 := cond_of hb ((h x h2).1 h1)
    rw [h2] at e1 e2
    rw [e1, e2]
  · have h1 : ∀ x ∈ a, x.1 ≠ m := fun x hx' e => hx ⟨x, hx', e⟩
    rw [cond_no h1, cond_no fun x hx' e => h1 x ((h x e).2 hx') e]
theorem lastC_lt {c : List (Int × Int)} {b : Int} (h : ∀ y ∈ c, y.1 < b) (h0 : -1 < b) : lastC c < b := by
  rcases List.eq_nil_or_concat c with rfl | ⟨c', z, rfl⟩
  · exact h0
  · rw [List.concat_eq_append] at h ⊢
    rw [lastC_snoc]; exact h z (by simp)
/-- the law's loop: the conditions by then, and whether the further one is there -/
def oddT (k kk : Int) (s : List (Int × Int) × Bool) (x : Int × Int) : List (Int × Int) × Bool :=
  let s1 := if decide (x.1 > k) && !s.2 then (s.1 ++ [(k, kk)], true) else s
  (if x.1 = k then s1.1 else s1.1 ++ [x], s1.2)
def oddG (k kk : Int) (d0 : Bool) (q : List (Int × Int)) : List (Int × Int) × Bool := q.foldl (oddT k kk) ([], d0)
def odd (k kk : Int) (d0 : Bool) (q : List (Int × Int)) : List (Int × Int) := if (oddG k kk d0 q).2 then (oddG k kk d0 q).1 else (oddG k kk d0 q).1 ++ [(k, kk)]
theorem oddG_snoc (k kk : Int) (d0 : Bool) (q : List (Int × Int)) (x : Int × Int) : oddG k kk d0 (q ++ [x]) = oddT k kk (oddG k kk d0 q) x := by
  unfold oddG; rw [List.foldl_append]; rfl
structure OI (k kk : Int) (d0 : Bool) (q : List (Int × Int)) (s : List (Int × Int) × Bool) : Prop where
  vc : Vc s.1
  mem : ∀ x : Int × Int, x.1 ≠ k → (x ∈ s.1 ↔ x ∈ q)
  at_ : ∀ y ∈ s.1, y.1 = k → y = (k, kk) ∧ ∃ z ∈ q, k < z.1
  no : s.2 = false → ∀ z ∈ q, z.1 ≤ k
  len : s.1.length ≤ q.length + (if s.2 then 1 else 0)
theorem oddG_ok {k kk : Int} (hk : Cn (k, kk)) (d0 : Bool) (q : List (Int × Int)) (hq : Vc q) : OI k kk d0 q (oddG k kk d0 q) := by
  revert hq
  refine snoc_ind (p := fun q => Vc q → OI k kk d0 q (oddG k kk d0 q)) (fun _ => ⟨vc_nil, fun x _ => Iff.rfl, fun y hy => absurd hy List.not_mem_nil, fun _ z hz => absurd hz List.not_mem_nil, ?_⟩) (fun q x ih hv => ?_) q
  · show (0 : Nat) ≤ _; exact Nat.zero_le _
  obtain ⟨hq, hx, hl⟩ := vc_snoc.1 hv
  obtain ⟨h1, h2, h3, h4, h5⟩ := ih hq
  rw [oddG_snoc]
  generalize hs : oddG k kk d0 q = s at h1 h2 h3 h4 h5 ⊢
  obtain ⟨o, d⟩ := s
  dsimp only at h1 h2 h3 h4 h5
  have hlt : ∀ y ∈ q, y.1 < x.1 := fun y hy => by have := lastC_le hq y hy; omega
  have h0 : 0 ≤ x.1 := hx.1
  have hk0 : 0 ≤ k := hk.1
  unfold oddT
  dsimp only
  by_cases hgt : x.1 > k
  · have hne : x.1 ≠ k := by omega
    rw [if_neg hne]
    cases d with
    | false =>
      have hle := h4 rfl
      have ho : ∀ y ∈ o, y.1 < k := fun y hy => by
        by_cases e : y.1 = k
        · obtain ⟨-, z, hz, hz2⟩ := h3 y hy e
          have := hle z hz; omega
        · have := hle y ((h2 y e).1 hy); omega
      have hv1 : Vc (o ++ [(k, kk)]) := vc_snoc.2 ⟨h1, hk, lastC_lt ho (by show -1 < k; omega)⟩
      rw [if_pos (by simp [hgt])]
      refine ⟨vc_snoc.2 ⟨hv1, hx, by rw [lastC_snoc]; exact hgt⟩, fun y hy => ?_, fun y hy e => ?_, fun e => (nomatch e), ?_⟩
      · simp only [List.mem_append, List.mem_singleton]
        rw [h2 y hy]
        constructor
        · rintro ((h | h) | h)
          · exact .inl h
          · exact absurd (by rw [h]) hy
          · exact .inr h
        · rintro (h | h)
          · exact .inl (.inl h)
          · exact .inr h
      · simp only [List.mem_append, List.mem_singleton] at hy
        rcases hy with (hy | hy) | hy
        · have := ho y hy; omega
        · exact ⟨hy, x, by simp, hgt⟩
        · rw [hy] at e; exact absurd e hne
      · simp at h5 ⊢; omega
    | true =>
      rw [if_neg (by simp)]
      have ho : ∀ y ∈ o, y.1 < x.1 := fun y hy => by
        by_cases e : y.1 = k
        · omega
        · exact hlt y ((h2 y e).1 hy)
      refine ⟨vc_snoc.2 ⟨h1, hx, lastC_lt ho (by omega)⟩, fun y hy => ?_, fun y hy e => ?_, fun e => (nomatch e), by simp at h5 ⊢; omega⟩
      · simp only [List.mem_append, List.mem_singleton]; rw [h2 y hy]
      · simp only [List.mem_append, List.mem_singleton] at hy
        rcases hy with hy | hy
        · obtain ⟨e1, z, h6, h7⟩ := h3 y hy e
          exact ⟨e1, z, by simp [h6], h7⟩
        · rw [hy] at e; exact absurd e hne
  · have hif : (if (decide (x.1 > k) && !d) = true then (o ++ [(k, kk)], true) else (o, d)) = (o, d) := if_neg (by simp [hgt])
    rw [hif]
    dsimp only
    by_cases hne : x.1 = k
    · rw [if_pos hne]
      refine ⟨h1, fun y hy => ?_, fun y hy e => ?_, fun e z hz => ?_, by cases d <;> simp at h5 ⊢ <;> omega⟩
      · rw [h2 y hy]
        simp only [List.mem_append, List.mem_singleton]
        exact ⟨.inl, fun h => h.resolve_right fun e => hy (by rw [e]; exact hne)⟩
      · obtain ⟨e1, z, h6, h7⟩ := h3 y hy e
        exact ⟨e1, z, by simp [h6], h7⟩
      · simp only [List.mem_append, List.mem_singleton] at hz
        rcases hz with hz | hz
        · exact h4 e z hz
        · rw [hz]; omega
    · rw [if_neg hne]
      have ho : ∀ y ∈ o, y.1 < x.1 := fun y hy => by
        by_cases e : y.1 = k
        · obtain ⟨-, z, hz, hz2⟩ := h3 y hy e
          have := hlt z hz; omega
        · exact hlt y ((h2 y e).1 hy)
      refine ⟨vc_snoc.2 ⟨h1, hx, lastC_lt ho (by omega)⟩, fun y hy => ?_, fun y hy e => ?_, fun e z hz => ?_, by cases d <;> simp at h5 ⊢ <;> omega⟩
      · simp only [List.mem_append, List.mem_singleton]; rw [h2 y hy]
      · simp only [List.mem_append, List.mem_singleton] at hy
        rcases hy with hy | hy
        · obtain ⟨e1, z, h6, h7⟩ := h3 y hy e
          exact ⟨e1, z, by simp [h6], h7⟩
        · rw [hy] at e; exact absurd e hne
      · simp only [List.mem_append, List.mem_singleton] at hz
        rcases hz with hz | hz
        · exact h4 e z hz
        · rw [hz]; omega
theorem odd_ok {k kk : Int} (hk : Cn (k, kk)) (d0 : Bool) {q : List (Int × Int)} (hq : Vc q) : Vc (odd k kk d0 q) ∧ (odd k kk d0 q).length ≤ q.length + 1 ∧ ∀ m, m ≠ k → cond q m = cond (odd k kk d0 q) m := by
  obtain ⟨h1, h2, h3, h4, h5⟩ := oddG_ok hk d0 q hq
  unfold odd
  generalize oddG k kk d0 q = s at h1 h2 h3 h4 h5 ⊢
  obtain ⟨o, d⟩ := s
  dsimp only at *
  have hk0 : 0 ≤ k := hk.1
  cases d with
  | true => exact ⟨h1, h5, fun m hm => cond_ext hq h1 fun x hx => (h2 x (by rw [hx]; exact hm)).symm⟩
  | false =>
    have hle := h4 rfl
    have ho : ∀ y ∈ o, y.1 < k := fun y hy => by
      by_cases e : y.1 = k
      · obtain ⟨-, z, hz, hz2⟩ := h3 y hy e
        have := hle z hz; omega
      · have := hle y ((h2 y e).1 hy); omega
    have hv1 : Vc (o ++ [(k, kk)]) := vc_snoc.2 ⟨h1, hk, lastC_lt ho (by show -1 < k; omega)⟩
    refine ⟨hv1, by simp at h5 ⊢; exact h5, fun m hm => cond_ext hq hv1 fun x hx => ?_⟩
    rw [List.mem_append, List.mem_singleton, h2 x (by rw [hx]; exact hm)]
    exact ⟨.inl, fun h => h.resolve_right fun e => hm (by rw [← hx, e])⟩
end Tw
end Go.Proofs.YtlldlkjngcgcjaaGreatDoor
namespace Go.Proofs.YtlldlkjngcgcjaaGreatDoor
namespace Tw
set_option linter.unusedVariables false
set_option linter.unusedSimpArgs false
/-- where the settings stood that have P, of the first i -/
def kept (l : List St) (P : St → Bool) : Nat → List Nat
  | 0 => []
  | i + 1 => if (l[i]?.map P).getD false then kept l P i ++ [i] else kept l P i
def some_ (l : List St) (P : St → Bool) (i : Nat) : List St := (l.take i).filter P
theorem kept_succ {l : List St} {P : St → Bool} {i : Nat} (h : i < l.length) : kept l P (i + 1) = if P l[i] then kept l P i ++ [i] else kept l P i := by
  show (if (l[i]?.map P).getD false then _ else _) = _
  rw [List.getElem?_eq_getElem h]; rfl
theorem some_succ {l : List St} {P : St → Bool} {i : Nat} (h : i < l.length) : some_ l P (i + 1) = if P l[i] then some_ l P i ++ [l[i]] else some_ l P i := by
  unfold some_
  rw [List.take_succ_eq_append_getElem h, List.filter_append]
  cases hp : P l[i] <;> simp [hp]
theorem kept_ok {l : List St} {P : St → Bool} : ∀ i, i ≤ l.length → (some_ l P i).length = (kept l P i).length ∧ (∀ j (hj : j < (some_ l P i).length), ∃ k, (kept l P i)[j]? = some k ∧ k < i ∧ ∃ hk : k < l.length, (some_ l P i)[j] = l[k]) ∧ ∀ i' (h : i' < l.length), i' < i → P l[i'] = true → ∃ j, j < (some_ l P i).length ∧ (kept l P i)[j]? = some i'
  | 0, _ => ⟨rfl, fun j hj => absurd hj (by simp [some_]), fun i' _ h => absurd h (Nat.not_lt_zero _)⟩
  | i + 1, hi => by
    obtain ⟨h1, h2, h3⟩ := kept_ok (l := l) (P := P) i (by omega)
    have hl : i < l.length := hi
    rw [kept_succ hl]
    have hs := some_succ (P := P) hl
    cases hp : P l[i] with
    | false =>
      rw [hp] at hs
      simp only [Bool.false_eq_true, if_false] at hs ⊢
      rw [hs]
      refine ⟨h1, fun j hj => ?_, fun i' h hi' hp' => ?_⟩
      · obtain ⟨k, a1, a2, a3⟩ := h2 j hj
        exact ⟨k, a1, by omega, a3⟩
      · rcases Nat.lt_or_ge i' i with h4 | h4
        · exact h3 i' h h4 hp'
        · obtain rfl : i' = i := by omega
          rw [hp] at hp'; cases hp'
    | true =>
      rw [hp] at hs
      simp only [if_true] at hs ⊢
      rw [hs]
      refine ⟨by simp [h1], fun j hj => ?_, fun i' h hi' hp' => ?_⟩
      · rw [List.length_append, List.length_singleton] at hj
        rcases Nat.lt_or_ge j (some_ l P i).length with h4 | h4
        · obtain ⟨k, a1, a2, a3, a4⟩ := h2 j h4
          refine ⟨k, by rw [List.getElem?_append_left (by omega)]; exact a1, by omega, a3, ?_⟩
          rw [List.getElem_append_left h4]; exact a4
        · have h5 : j = (some_ l P i).length := by omega
          subst h5
          refine ⟨i, by rw [h1]; simp, by omega, hl, ?_⟩
          simp
      · rcases Nat.lt_or_ge i' i with h4 | h4
        · obtain ⟨j, a1, a2⟩ := h3 i' h h4 hp'
          exact ⟨j, by simp; omega, by rw [List.getElem?_append_left (by omega)]; exact a2⟩
        · obtain rfl : i' = i := by omega
          exact ⟨(some_ l P i').length, by rw [List.length_append]; exact Nat.lt_succ_self _, by rw [h1]; simp⟩
theorem few_ok {l : List St} {P : St → Bool} {t : Int} {S : Int → Prop} (hP : ∀ s ∈ l, S s.n → s.has t = true → P s = true) : Few l (l.filter P) t (fun j => (kept l P l.length)[j]?.getD 0) S := by
  obtain ⟨h1, h2, h3⟩ := kept_ok (l := l) (P := P) l.length (Nat.le_refl _)
  have e : some_ l P l.length = l.filter P := by unfold some_; rw [List.take_length]
  rw [e] at h1 h2 h3
  refine ⟨fun j hj => ?_, fun i hi hs ht => ?_⟩
  · obtain ⟨k, a1, a2, a3, a4⟩ := h2 j hj
    simp only [a1, Option.getD_some]
    exact ⟨a3, a4⟩
  · obtain ⟨j, a1, a2⟩ := h3 i hi hi (hP _ (List.getElem_mem hi) hs ht)
    exact ⟨j, a1, by simp only [a2, Option.getD_some]⟩
/-- the next time at which a spell begins or ends, or e -/
def endS (t : Int) (e : Int) (s : St) : Int :=
  let a := if s.f > t then min e s.f else e
  if s.e > t then min a s.e else a
def endG (t e : Int) (l : List St) : Int := l.foldl (endS t) e
theorem endG_ok (t : Int) : ∀ (l : List St) (e : Int), t < e → t < endG t e l ∧ endG t e l ≤ e ∧ ∀ s ∈ l, (s.f > t → endG t e l ≤ s.f) ∧ (s.e > t → endG t e l ≤ s.e)
  | [], e, h => ⟨h, Int.le_refl _, fun s hs => absurd hs List.not_mem_nil⟩
  | s :: l, e, h => by
    have h0 : t < endS t e s ∧ endS t e s ≤ e ∧ (s.f > t → endS t e s ≤ s.f) ∧ (s.e > t → endS t e s ≤ s.e) := by
      unfold endS; dsimp only
      split <;> split <;> omega
    obtain ⟨h1, h2, h3⟩ := endG_ok t l (endS t e s) h0.1
    have e1 : endG t e (s :: l) = endG t (endS t e s) l := rfl
    rw [e1]
    refine ⟨h1, by omega, fun x hx => ?_⟩
    rcases List.mem_cons.1 hx with rfl | hx
    · exact ⟨fun h4 => by have := h0.2.2.1 h4; omega, fun h4 => by have := h0.2.2.2 h4; omega⟩
    · exact h3 x hx
theorem end_same {l : List St} {t e : Int} (h : t < e) : ∀ s ∈ l, s.has t = s.has (endG t e l - 1) := fun s hs => by
  obtain ⟨h1, h2, h3⟩ := endG_ok t l e h
  obtain ⟨h4, h5⟩ := h3 s hs
  rw [Bool.eq_iff_iff, has_iff, has_iff]
  omega
/-- the first time of some times at which there is a loop of the number -/
def firstL (all : List St) (n : Int) (ts : List Int) : Option Int := ts.find? fun t => (loopOf all t n).isSome
/-- the times at which a spell begins while s counts -/
def timesL (all : List St) (s : St) : List Int := (all.filter fun r => s.has r.f).map St.f
theorem first_none {all ts : List _} {s : St} (hv : Va all) (hs : s ∈ all) (hk : s.k = 1) (hp : ∀ T, T ∈ ts ↔ T ∈ timesL all s) (h : firstL all s.n ts = none) {k : Int} (hh : s.has k = true) : ¬ ∃ r, Lp all k s.n r := by
  rintro ⟨r, hr⟩
  obtain ⟨T, h1, h2, ⟨g, hg, eg⟩, h3⟩ := begins hv hs hk hh hr
  have hT : T ∈ ts := (hp T).2 (List.mem_map.2 ⟨g, List.mem_filter.2 ⟨hg, by rw [eg]; exact has_iff.2 ⟨h1, by have := (has_iff.1 hh).2; omega⟩⟩, eg⟩)
  have := List.find?_eq_none.1 h T hT
  rw [loopOf_iff.2 h3] at this
  exact this rfl
theorem first_some {all ts : List _} {s : St} (hv : Va all) (hs : s ∈ all) (hk : s.k = 1) (hp : ∀ T, T ∈ ts ↔ T ∈ timesL all s) (hsort : ts.Pairwise (· ≤ ·)) {a : Int} (h : firstL all s.n ts = some a) : s.has a = true ∧ (∃ r, Lp all a s.n r) ∧ ∀ k, s.f ≤ k → k < a → ¬ ∃ r, Lp all k s.n r := by
  have h1 := List.mem_of_find?_eq_some h
  have h2 := List.find?_some h
  obtain ⟨g, hg, eg⟩ := List.mem_map.1 ((hp a).1 h1)
  obtain ⟨hg1, hg2⟩ := List.mem_filter.1 hg
  rw [eg] at hg2
  refine ⟨hg2, ?_, ?_⟩
  · obtain ⟨r, hr⟩ := Option.isSome_iff_exists.1 h2
    exact ⟨r, loopOf_some hr⟩
  · rintro k hk1 hk2 ⟨r, hr⟩
    have hh : s.has k = true := has_iff.2 ⟨hk1, by have := (has_iff.1 hg2).2; omega⟩
    obtain ⟨T, h3, h4, ⟨g', hg', eg'⟩, h5⟩ := begins hv hs hk hh hr
    have hT : T ∈ ts := (hp T).2 (List.mem_map.2 ⟨g', List.mem_filter.2 ⟨hg', by rw [eg']; exact has_iff.2 ⟨h3, by have := (has_iff.1 hh).2; omega⟩⟩, eg'⟩)
    obtain ⟨h6, as, bs, e, h7⟩ := List.find?_eq_some_iff_append.1 h
    subst e
    rcases List.mem_append.1 hT with h8 | h8
    · have := h7 T h8
      rw [loopOf_iff.2 h5] at this
      cases this
    · rw [List.pairwise_append] at hsort
      have h9 := (List.pairwise_cons.1 hsort.2.1).1
      rcases List.mem_cons.1 h8 with rfl | h8
      · omega
      · have := h9 T h8; omega
/-- the order of the settings plays no part -/
theorem route_turn {o : List St} {a : St} (hv : Va (o ++ [a])) (c : List (Int × Int)) (n t : Int) : (route (o ++ [a]) c n t).kind = (route (a :: o) c n t).kind ∧ (route (o ++ [a]) c n t).path = (route (a :: o) c n t).path := by
  have hf : Few (o ++ [a]) (a :: o) t (fun j => match j with | 0 => o.length | j + 1 => j) fun x => x ∈ (route (o ++ [a]) c n t).path := by
    refine ⟨fun j hj => ?_, fun i hi _ _ => ?_⟩
    · cases j with
      | zero => exact ⟨by simp, by simp⟩
      | succ j =>
        have hj' : j < o.length := by simpa using hj
        exact ⟨by simp; omega, by simp [List.getElem_append_left hj']⟩
    · rcases Nat.lt_or_ge i o.length with h1 | h1
      · exact ⟨i + 1, by simp; omega, rfl⟩
      · rw [List.length_append, List.length_singleton] at hi
        exact ⟨0, by simp, by show o.length = i; omega⟩
  have := local_ hv hf fun m _ => rfl
  exact ⟨this.1, this.2.1⟩
/-- the first forward -/
theorem route_first {l : List St} {c : List (Int × Int)} {n t : Int} {i : Nat} (h : counts l c n t = some i) : ∃ p, (route l c n t).path = n :: toOf l i :: p := by
  unfold route go
  rw [h]
  dsimp only
  rw [if_neg (by decide)]
  change ∃ p, (if toOf l i ∈ [n] then Ro.mk 5 ([n] ++ [toOf l i]) ([] ++ [i]) else go l c t 5 (toOf l i) ([n] ++ [toOf l i]) ([] ++ [i])).path = _
  split
  · exact ⟨[], rfl⟩
  · obtain ⟨p', h1⟩ := go_pre l c t 5 (toOf l i) ([n] ++ [toOf l i]) ([] ++ [i])
    exact ⟨p', by rw [h1]; rfl⟩
end Tw
end Go.Proofs.YtlldlkjngcgcjaaGreatDoor
namespace Go.Proofs.YtlldlkjngcgcjaaGreatDoor
namespace Tw
set_option linter.unusedVariables false
set_option linter.unusedSimpArgs false
theorem foldl_min : ∀ (r : List Int) (a : Int), r.foldl min a ≤ a ∧ (∀ x ∈ r, r.foldl min a ≤ x) ∧ (r.foldl min a = a ∨ r.foldl min a ∈ r)
  | [], a => ⟨Int.le_refl _, fun x hx => absurd hx List.not_mem_nil, .inl rfl⟩
  | y :: r, a => by
    obtain ⟨h1, h2, h3⟩ := foldl_min r (min a y)
    rw [List.foldl_cons]
    refine ⟨by omega, fun x hx => ?_, ?_⟩
    · rcases List.mem_cons.1 hx with rfl | hx
      · omega
      · exact h2 x hx
    · rcases h3 with h3 | h3
      · rcases Int.le_total a y with h4 | h4
        · exact .inl (by rw [h3]; omega)
        · exact .inr (List.mem_cons.2 (.inl (by rw [h3]; omega)))
      · exact .inr (List.mem_cons_of_mem _ h3)
theorem minOf_ok {r : List Int} (h : r ≠ []) : Lib.minOf r ∈ r ∧ ∀ x ∈ r, Lib.minOf r ≤ x := by
  cases r with
  | nil => exact absurd rfl h
  | cons a r =>
    obtain ⟨h1, h2, h3⟩ := foldl_min (a :: r) a
    unfold Lib.minOf
    rw [List.headD_cons]
    refine ⟨?_, h2⟩
    rcases h3 with h3 | h3
    · rw [h3]; exact List.mem_cons_self ..
    · exact h3
/-- the place of the least number -/
def least (r : List Int) : Nat := r.idxOf (Lib.minOf r)
theorem idxOf_lib {r : List Int} {x : Int} (h : x ∈ r) : Lib.idxOf r x = (r.idxOf x : Nat) := by
  have hk : r.idxOf x < r.length := List.idxOf_lt_length_of_mem h
  have := Lib.idxOf_hit r r.length (r.idxOf x) x hk (Nat.le_refl _) (by rw [List.getD_eq_getElem?_getD, List.getElem?_eq_getElem hk]; exact List.getElem_idxOf hk) fun j hj e => by
    have hj2 : j < r.length := by omega
    rw [List.getD_eq_getElem?_getD, List.getElem?_eq_getElem hj2] at e
    have h2 : (r[j] == x) = false := by simpa using List.not_of_lt_findIdx (p := fun y => y == x) (xs := r) hj
    rw [show r[j] = x from e] at h2
    simp at h2
  rwa [List.take_length] at this
/-- begun with its least number -/
def rot (r : List Int) : List Int := r.drop (least r) ++ r.take (least r)
theorem rot_ok {l : List St} {t n : Int} {r : List Int} (h : Lp l t n r) : Lp l t (Lib.minOf r) (rot r) ∧ (∀ x, x ∈ rot r ↔ x ∈ r) ∧ ∀ x ∈ rot r, Lib.minOf r ≤ x := by
  have hne := List.ne_nil_of_mem h.ne
  obtain ⟨h1, h2⟩ := minOf_ok hne
  have hk : least r < r.length := List.idxOf_lt_length_of_mem h1
  have hm : ∀ x, x ∈ rot r ↔ x ∈ r := fun x => by
    unfold rot
    conv => rhs; rw [← List.take_append_drop (least r) r]
    rw [List.mem_append, List.mem_append]; exact Or.comm
  refine ⟨Lp.turn (n := n) (by rw [List.take_append_drop]; exact h) ?_, hm, fun x hx => h2 x ((hm x).1 hx)⟩
  rw [List.getElem?_drop, Nat.add_zero, List.getElem?_eq_getElem hk]
  exact congrArg some (List.getElem_idxOf hk)
/-- a loop of the list, set in its place -/
def insH (r : List Int) : List (List Int) → List (List Int)
  | [] => [r]
  | x :: out => if r.headD 0 < x.headD 0 then r :: x :: out else if r.headD 0 = x.headD 0 then x :: out else x :: insH r out
theorem insH_ok {r : List Int} : ∀ {out : List (List Int)}, out.Pairwise (fun a b => a.headD 0 < b.headD 0) → (∀ y ∈ out, r.headD 0 = y.headD 0 → r = y) → (insH r out).Pairwise (fun a b => a.headD 0 < b.headD 0) ∧ ∀ x, x ∈ insH r out ↔ x = r ∨ x ∈ out
  | [], _, _ => ⟨List.pairwise_singleton _ _, fun x => by simp [insH]⟩
  | y :: out, hp, he => by
    obtain ⟨h1, h2⟩ := List.pairwise_cons.1 hp
    unfold insH
    by_cases h3 : r.headD 0 < y.headD 0
    · rw [if_pos h3]
      refine ⟨List.pairwise_cons.2 ⟨fun z hz => ?_, hp⟩, fun x => by simp⟩
      rcases List.mem_cons.1 hz with rfl | hz
      · exact h3
      · have := h1 z hz; omega
    · rw [if_neg h3]
      by_cases h4 : r.headD 0 = y.headD 0
      · rw [if_pos h4]
        refine ⟨hp, fun x => ⟨.inr, fun h => h.elim (fun e => ?_) id⟩⟩
        rw [e, he y (List.mem_cons_self ..) h4]; exact List.mem_cons_self ..
      · rw [if_neg h4]
        obtain ⟨h5, h6⟩ := insH_ok (r := r) (out := out) h2 fun z hz => he z (List.mem_cons_of_mem _ hz)
        refine ⟨List.pairwise_cons.2 ⟨fun z hz => ?_, h5⟩, fun x => ?_⟩
        · rcases (h6 z).1 hz with rfl | hz
          · omega
          · exact h1 z hz
        · rw [List.mem_cons, h6, List.mem_cons]
          constructor
          · rintro (h | h | h)
            · exact .inr (.inl h)
            · exact .inl h
            · exact .inr (.inr h)
          · rintro (h | h | h)
            · exact .inr (.inl h)
            · exact .inl h
            · exact .inr (.inr h)
def loopsG (l : List St) (t : Int) (ns : List St) : List (List Int) := ns.foldl (fun out s => match loopOf l t s.n with | some r => insH (rot r) out | none => out) []
def loopsL (l : List St) (t : Int) : List (List Int) := loopsG l t l
/-- the loops of the numbers of some settings -/
structure LsG (l : List St) (t : Int) (ns : List St) (out : List (List Int)) : Prop where
  up : out.Pairwise fun a b => a.headD 0 < b.headD 0
  is : ∀ r, r ∈ out ↔ (∃ n, Lp l t n r ∧ ∀ x ∈ r, n ≤ x) ∧ ∃ s ∈ ns, s.n ∈ r
theorem LsG.ls {l : List St} {t : Int} {out : List (List Int)} (h : LsG l t l out) : Ls l t out := ⟨h.up, fun r => (h.is r).trans ⟨fun h => h.1, fun hr => ⟨hr, by
  obtain ⟨n, h1, h2⟩ := hr
  obtain ⟨y, hy⟩ := h1.step h1.ne
  obtain ⟨s, hs, e⟩ := List.mem_map.1 (nx_in hy)
  exact ⟨s, hs, by rw [e]; exact h1.ne⟩⟩⟩⟩
theorem LsG.nil (l : List St) (t : Int) : LsG l t [] [] := ⟨List.Pairwise.nil, fun r => ⟨fun h => absurd h List.not_mem_nil, fun ⟨_, s, h, _⟩ => absurd h List.not_mem_nil⟩⟩
theorem heads {l : List St} {t a b : Int} {r r' : List Int} (h : Lp l t a r) (h' : Lp l t b r') (e : r.headD 0 = r'.headD 0) : r = r' := by
  rw [h.head, h'.head] at e
  subst e
  exact h.unique h'
theorem LsG.snoc {l : List St} {t : Int} {ns : List St} {out : List (List Int)} (h : LsG l t ns out) (s : St) : LsG l t (ns ++ [s]) (match loopOf l t s.n with | some r => insH (rot r) out | none => out) := by
  cases hl : loopOf l t s.n with
  | none =>
    refine ⟨h.up, fun r => (h.is r).trans ⟨fun ⟨h1, x, h2, h3⟩ => ⟨h1, x, by simp [h2], h3⟩, fun ⟨h1, x, h2, h3⟩ => ⟨h1, ?_⟩⟩⟩
    rcases List.mem_append.1 h2 with h2 | h2
    · exact ⟨x, h2, h3⟩
    · rw [List.mem_singleton.1 h2] at h3
      obtain ⟨m, h4, -⟩ := h1
      obtain ⟨r', h5, -⟩ := h4.at h3
      rw [loopOf_iff.2 h5] at hl; cases hl
  | some r =>
    have hr := loopOf_some hl
    obtain ⟨h1, h2, h3⟩ := rot_ok hr
    obtain ⟨h4, h5⟩ := insH_ok (r := rot r) h.up fun y hy e => by
      obtain ⟨⟨m, hm, -⟩, -⟩ := (h.is y).1 hy
      exact heads h1 hm e
    refine ⟨h4, fun x => (h5 x).trans ⟨?_, ?_⟩⟩
    · rintro (rfl | hx)
      · exact ⟨⟨_, h1, h3⟩, s, by simp, (h2 _).2 hr.ne⟩
      · obtain ⟨a1, y, a2, a3⟩ := (h.is x).1 hx
        exact ⟨a1, y, by simp [a2], a3⟩
    · rintro ⟨a1, y, a2, a3⟩
      rcases List.mem_append.1 a2 with a2 | a2
      · exact .inr ((h.is x).2 ⟨a1, y, a2, a3⟩)
      · rw [List.mem_singleton.1 a2] at a3
        obtain ⟨m, b1, b2⟩ := a1
        obtain ⟨r', b3, b4⟩ := b1.at a3
        have e := b3.unique hr
        subst e
        refine .inl ?_
        have hmr : m ∈ r' := (b4 m).2 b1.ne
        obtain ⟨c1, c2⟩ := minOf_ok (List.ne_nil_of_mem hr.ne)
        have e : Lib.minOf r' = m := Int.le_antisymm (c2 m hmr) (b2 _ ((b4 _).1 c1))
        rw [e] at h1
        exact b1.unique h1
theorem loopsL_ok (l : List St) (t : Int) : Ls l t (loopsL l t) := by
  suffices h : ∀ ns, LsG l t ns (loopsG l t ns) from (h l).ls
  intro ns
  refine snoc_ind (p := fun ns => LsG l t ns (loopsG l t ns)) (LsG.nil l t) (fun ns s ih => ?_) ns
  have e : loopsG l t (ns ++ [s]) = (match loopOf l t s.n with | some r => insH (rot r) (loopsG l t ns) | none => loopsG l t ns) := by
    unfold loopsG; rw [List.foldl_append]; rfl
  rw [e]
  exact ih.snoc s
theorem Ls.is_ {l : List St} {t : Int} {out : List (List Int)} (h : Ls l t out) : out = loopsL l t := h.unique (loopsL_ok l t)
end Tw
end Go.Proofs.YtlldlkjngcgcjaaGreatDoor
namespace Go.Proofs.YtlldlkjngcgcjaaGreatDoor
namespace Tw
set_option linter.unusedVariables false
set_option linter.unusedSimpArgs false
theorem go_none {l : List St} {c : List (Int × Int)} {t n : Int} (h : counts l c n t = none) (fuel : Nat) (p : List Int) (u : List Nat) : go l c t (fuel + 1) n p u = ⟨max (cond c n) 1, p, u⟩ := by
  show (match counts l c n t with | none => _ | some i => _) = _
  rw [h]
theorem go_many {l : List St} {c : List (Int × Int)} {t n : Int} {i : Nat} (h : counts l c n t = some i) (fuel : Nat) (p : List Int) (u : List Nat) (h5 : u.length = 5) : go l c t (fuel + 1) n p u = ⟨6, p, u⟩ := by
  show (match counts l c n t with | none => _ | some i => _) = _
  rw [h]
  exact if_pos h5
theorem go_met {l : List St} {c : List (Int × Int)} {t n : Int} {i : Nat} (h : counts l c n t = some i) (fuel : Nat) (p : List Int) (u : List Nat) (h5 : u.length ≠ 5) (hm : toOf l i ∈ p) : go l c t (fuel + 1) n p u = ⟨5, p ++ [toOf l i], u ++ [i]⟩ := by
  show (match counts l c n t with | none => _ | some i => _) = _
  rw [h]
  show (if u.length = 5 then _ else _) = _
  rw [if_neg h5]
  exact if_pos hm
theorem go_on {l : List St} {c : List (Int × Int)} {t n : Int} {i : Nat} (h : counts l c n t = some i) (fuel : Nat) (p : List Int) (u : List Nat) (h5 : u.length ≠ 5) (hm : toOf l i ∉ p) : go l c t (fuel + 1) n p u = go l c t fuel (toOf l i) (p ++ [toOf l i]) (u ++ [i]) := by
  show (match counts l c n t with | none => _ | some i => _) = _
  rw [h]
  show (if u.length = 5 then _ else _) = _
  rw [if_neg h5]
  exact if_neg hm
/-- where the settings of the kind 1 lead; -1 for nowhere -/
def nextI (l : List St) (n t : Int) : Int := (nx l t n).getD (-1)
theorem nextI_none {l : List St} {n t : Int} (h : nx l t n = none) : nextI l n t = -1 := by unfold nextI; rw [h]; rfl
theorem nextI_some {l : List St} {n t m : Int} (h : nx l t n = some m) : nextI l n t = m := by unfold nextI; rw [h]; rfl
theorem nx_pos {l : List St} (hf : ∀ s ∈ l, 0 ≤ s.to) {n t m : Int} (h : nx l t n = some m) : 0 ≤ m := by
  obtain ⟨i, hi, h1, -⟩ := nx_some h
  unfold nx at h
  rw [h1] at h
  have : toOf l i = m := Option.some.inj h
  unfold toOf at this
  rw [List.getElem?_eq_getElem hi, Option.getD_some] at this
  have := hf l[i] (List.getElem_mem hi)
  omega
/-- the path that follows the settings of the kind 1, as far as it is the route's -/
structure Fo (l : List St) (t n : Int) (i : Nat) (p : List Int) : Prop where
  len : p.length = i + 1
  is : ∃ (u : List Nat) (m : Int), u.length = i ∧ p[i]? = some m ∧ i ≤ 5 ∧ go l [] t (6 - i) m p u = route l [] n t
theorem Fo.start (l : List St) (t n : Int) : Fo l t n 0 [n] := ⟨rfl, [], n, rfl, rfl, by decide, rfl⟩
theorem Fo.none {l : List St} {t n : Int} {i : Nat} {p : List Int} (h : Fo l t n i p) {m : Int} (hm : p[i]? = some m) (hx : nx l t m = none) : (route l [] n t).kind = 1 ∧ (route l [] n t).path = p := by
  obtain ⟨u, m', h1, h2, h3, h4⟩ := h.is
  rw [h2] at hm; cases hm
  have hc : counts l [] m t = Option.none := by
    rw [nx_counts] at hx
    cases hh : counts l [] m t with
    | none => rfl
    | some j => rw [hh] at hx; cases hx
  rw [← h4, show 6 - i = (5 - i) + 1 by omega, go_none hc]
  exact ⟨rfl, rfl⟩
theorem Fo.some {l : List St} {t n : Int} {i : Nat} {p : List Int} (h : Fo l t n i p) {m k : Int} (hm : p[i]? = some m) (hx : nx l t m = some k) :
    (i = 5 → (route l [] n t).kind = 6 ∧ (route l [] n t).path = p) ∧ (i < 5 → k ∈ p → (route l [] n t).kind = 5 ∧ (route l [] n t).path = p ++ [k]) ∧ (i < 5 → k ∉ p → Fo l t n (i + 1) (p ++ [k])) := by
  obtain ⟨u, m', h1, h2, h3, h4⟩ := h.is
  rw [h2] at hm; cases hm
  rw [nx_counts] at hx
  cases hh : counts l [] m t with
  | none => rw [hh] at hx; cases hx
  | some j =>
    rw [hh] at hx
    have hj : toOf l j = k := Option.some.inj hx
    have e6 : 6 - i = (5 - i) + 1 := by omega
    rw [e6] at h4
    refine ⟨fun h5 => ?_, fun h5 hk => ?_, fun h5 hk => ?_⟩
    · rw [← h4, go_many hh _ _ _ (by omega)]; exact ⟨rfl, rfl⟩
    · rw [← h4, go_met hh _ _ _ (by omega) (by rw [hj]; exact hk), hj]; exact ⟨rfl, rfl⟩
    · refine ⟨by simp [h.len], u ++ [j], k, by simp [h1], ?_, by omega, ?_⟩
      · have := h.len
        rw [List.getElem?_append_right (by omega)]; simp [this]
      · rw [← h4, go_on hh _ _ _ (by omega) (by rw [hj]; exact hk), hj]
        congr 1; omega
end Tw
end Go.Proofs.YtlldlkjngcgcjaaGreatDoor

/- What the walks of chapter 22 share. Package forward and its reference: isIn, isNumber, isFormed, has. The first place where a test holds (slices.IndexFunc, ContainsFunc). Package forward: settings that clash; areSettings. Package forward: areSettings. A map of the call's own, with keys of any kind (kv: as values, kl: as the reader's keys), as a function from keys to elements. A map of strings of the call's own, as a list of keys and elements (each key once). Package forward: the maps of a moment. Package forward: at. Regions in a round of a range over a function: what was shown outside a round holds in it. A range over a function whose iterator writes cells that it has made itself (a row that it hands on and then changes): a contract of such an iterator, and the statement over it, for a body that goes on or returns. Marks of ranges over functions: many of them (a range over a function in a loop's round). The statement over an iterator (SeqC) whose loop variable is boxed: the frame of a round is not to be written out. -/
import Derived.Test.YtlldlkjngcgcjaaGreatDoorProg
import Derived.Test.YtlldlkjngcgcjaaGreatDoorQ01
import Derived.Maps.OwnSet
import Derived.Maps.RangeWalk
import Derived.DeepKeys4
import Derived.RangeFuncNested
import Derived.RangeFuncBound
import Derived.RangeFuncCalls
import Derived.RangeFuncLeaves
import Derived.RangeFuncBox
import Derived.OrdersIn
import Derived.OwnWalkIn
import Derived.RangeFuncWrites
namespace Go.Proofs.YtlldlkjngcgcjaaGreatDoor
set_option linter.unusedVariables false
set_option linter.unusedSimpArgs false
open Go.RowKit
theorem bNx (W : World) (o : Obj) : Below W.heap.size W (W.alloc o) := (Below.refl W.heap.size W).alloc (Nat.le_refl _) o
/-- an int -/
def I6 (x : Int) : Prop := -9223372036854775808 ≤ x ∧ x ≤ 9223372036854775807
theorem exKx {α : Sort _} (a : α) : ∃ x, Kp (a = x) := ⟨a, ⟨rfl⟩⟩
theorem At.callx {α : Type} {size : Nat} {f : α → List Value} {w w' : World} {A : Option Addr} {p : List α} (h : At size f w w.heap.size A p) (hb : Below w.heap.size w w') : At size f w' w'.heap.size A p := (h.below hb).more hb.size
theorem At.run {α : Type} {size : Nat} {f : α → List Value} {w : World} {B : Nat} {A : Option Addr} {p : List α} (h : At size f w B A p) (hB : B ≤ w.heap.size) {i : Nat} (hi : i < p.length) :
    ∃ b off, A = some ⟨b, off, none⟩ ∧ b < w.heap.size ∧ ∀ w', Below w.heap.size w w' → ∀ j u, (f p[i])[j]? = some u → w'.cell? ⟨b, off + i * size + j, none⟩ = some u := by
  obtain ⟨b, off, e, hb, hc⟩ := h (by omega)
  exact ⟨b, off, e, by omega, fun w' hw j u hj => (hw.cell (p := ⟨b, off + i * size + j, none⟩) (by show b < _; omega)).trans (hc i p[i] (List.getElem?_eq_getElem hi) j u hj)⟩
def inC (c : Int) : List Value := [.int .i64 c]
end Go.Proofs.YtlldlkjngcgcjaaGreatDoor
namespace Go.Proofs.YtlldlkjngcgcjaaGreatDoor
set_option linter.unusedVariables false
set_option linter.unusedSimpArgs false
open Go.RowKit
/-- a setting as a value, and as cells; a condition -/
def stV (s : Tw.St) : Value := .agg #[.int .i64 s.n, .int .i64 s.k, .int .i64 s.to, .int .i64 s.f, .int .i64 s.e]
def stC (s : Tw.St) : List Value := [.int .i64 s.n, .int .i64 s.k, .int .i64 s.to, .int .i64 s.f, .int .i64 s.e]
def cdV (c : Int × Int) : Value := .agg #[.int .i64 c.1, .int .i64 c.2]
def cdC (c : Int × Int) : List Value := [.int .i64 c.1, .int .i64 c.2]
def inB (n lo hi : Int) : Bool := decide (lo ≤ n) && decide (n ≤ hi)
theorem wIn_any (n lo hi : Int) (w : World) :
    Calls Tryz.prog 45 #[.int .i64 n, .int .i64 lo, .int .i64 hi] w fun e w' => e = .returned (.bool (inB n lo hi)) ∧ w = w' := by
  by_cases h1 : lo ≤ n <;> by_cases h2 : n ≤ hi
  all_goals
    go_enter Tryz.func45, Tryz.ntmps45
    go_wp2
    go_ret
    exact ⟨by simp [inB, *] <;> omega, rfl⟩
theorem wNumber_any (n : Int) (w : World) :
    Calls Tryz.prog 44 #[.int .i64 n] w fun e w' => e = .returned (.bool (inB n 0 99999999)) ∧ w = w' := by
  go_enter Tryz.func44, Tryz.ntmps44
  go_wp2_with (go_at_call 45; refine (wIn_any _ _ _ _).mono ?_; rintro e w' ⟨rfl, rfl⟩)
  go_ret
  exact ⟨rfl, rfl⟩
theorem rNumber_any (n : Int) (w : World) :
    Calls Tryz.prog 125 #[.int .i64 n] w fun e w' => e = .returned (.bool (inB n 0 99999999)) ∧ w = w' := by
  by_cases h1 : 0 ≤ n <;> by_cases h2 : n ≤ 99999999
  all_goals
    go_enter Tryz.func125, Tryz.ntmps125
    go_wp2
    go_ret
    exact ⟨by simp [inB, *] <;> omega, rfl⟩
theorem inB_t {n lo hi : Int} (h : lo ≤ n ∧ n ≤ hi) : inB n lo hi = true := by simp [inB, h]
theorem inB_f {n lo hi : Int} (h : ¬ (lo ≤ n ∧ n ≤ hi)) : inB n lo hi = false := by
  cases e : inB n lo hi with
  | false => rfl
  | true => simp [inB] at e; exact absurd e h
open Classical in
noncomputable def fmB (s : Tw.St) : Bool := decide (Tw.Fm s)
open Classical in
theorem fmB_t {s : Tw.St} (h : Tw.Fm s) : fmB s = true := decide_eq_true h
open Classical in
theorem fmB_f {s : Tw.St} (h : ¬ Tw.Fm s) : fmB s = false := decide_eq_false h
open Classical in
theorem fmB_iff {s : Tw.St} : fmB s = true ↔ Tw.Fm s := decide_eq_true_iff
/-- the ways in which a setting is formed or not, in the order of the tests -/
theorem fm_ways (s : Tw.St) :
    (¬ (0 ≤ s.n ∧ s.n ≤ 99999999) ∧ fmB s = false) ∨
    ((0 ≤ s.n ∧ s.n ≤ 99999999) ∧ ¬ (0 ≤ s.to ∧ s.to ≤ 99999999) ∧ fmB s = false) ∨
    ((0 ≤ s.n ∧ s.n ≤ 99999999) ∧ (0 ≤ s.to ∧ s.to ≤ 99999999) ∧ s.n = s.to ∧ fmB s = false) ∨
    ((0 ≤ s.n ∧ s.n ≤ 99999999) ∧ (0 ≤ s.to ∧ s.to ≤ 99999999) ∧ s.n ≠ s.to ∧ ¬ (1 ≤ s.k ∧ s.k ≤ 4) ∧ fmB s = false) ∨
    ((0 ≤ s.n ∧ s.n ≤ 99999999) ∧ (0 ≤ s.to ∧ s.to ≤ 99999999) ∧ s.n ≠ s.to ∧ (1 ≤ s.k ∧ s.k ≤ 4) ∧ ¬ 0 ≤ s.f ∧ fmB s = false) ∨
    ((0 ≤ s.n ∧ s.n ≤ 99999999) ∧ (0 ≤ s.to ∧ s.to ≤ 99999999) ∧ s.n ≠ s.to ∧ (1 ≤ s.k ∧ s.k ≤ 4) ∧ 0 ≤ s.f ∧ ¬ s.f < s.e ∧ fmB s = false) ∨
    ((0 ≤ s.n ∧ s.n ≤ 99999999) ∧ (0 ≤ s.to ∧ s.to ≤ 99999999) ∧ s.n ≠ s.to ∧ (1 ≤ s.k ∧ s.k ≤ 4) ∧ 0 ≤ s.f ∧ s.f < s.e ∧ ¬ s.e ≤ 10000001 ∧ fmB s = false) ∨
    ((0 ≤ s.n ∧ s.n ≤ 99999999) ∧ (0 ≤ s.to ∧ s.to ≤ 99999999) ∧ s.n ≠ s.to ∧ (1 ≤ s.k ∧ s.k ≤ 4) ∧ 0 ≤ s.f ∧ s.f < s.e ∧ s.e ≤ 10000001 ∧ fmB s = true) := by
  by_cases h : Tw.Fm s
  · rw [fmB_t h]
    obtain ⟨h1, h2, h3, h4, h5, h6, h7, h8, h9, h10⟩ := h
    simp only [Bool.true_eq_false, and_false, false_or, and_true]
    omega
  · rw [fmB_f h]
    have hn : ¬ ((0 ≤ s.n ∧ s.n ≤ 99999999) ∧ (0 ≤ s.to ∧ s.to ≤ 99999999) ∧ s.n ≠ s.to ∧ (1 ≤ s.k ∧ s.k ≤ 4) ∧ 0 ≤ s.f ∧ s.f < s.e ∧ s.e ≤ 10000001) := fun ⟨⟨a, b⟩, ⟨c, d⟩, e, ⟨f, g⟩, i, j, k⟩ => h ⟨a, b, c, d, e, f, g, i, j, k⟩
    simp only [Bool.false_eq_true, and_false, or_false, and_true]
    omega
set_option maxRecDepth 100000 in
set_option maxHeartbeats 4000000 in
theorem wFormed_any (s : Tw.St) (w : World) :
    Calls Tryz.prog 42 #[.agg #[.int .i64 s.n, .int .i64 s.k, .int .i64 s.to, .int .i64 s.f, .int .i64 s.e]] w fun e w' => e = .returned (.bool (fmB s)) ∧ Below w.heap.size w w' := by
  have hw := fm_ways s
  generalize fmB s = r at *
  obtain ⟨n, k, to, f, e⟩ := s
  dsimp only at hw ⊢
  have B := Bx.mk w 33 #[.int .i64 n, .int .i64 k, .int .i64 to, .int .i64 f, .int .i64 e]
  have hb := bNx w (.cells #[.int .i64 n, .int .i64 k, .int .i64 to, .int .i64 f, .int .i64 e] 33)
  have c0 := B.cell 0 rfl
  have c1 := B.cell 1 rfl
  have c2 := B.cell 2 rfl
  have c3 := B.cell 3 rfl
  have c4 := B.cell 4 rfl
  clear B
  rcases hw with ⟨h1, rfl⟩ | ⟨h1, h2, rfl⟩ | ⟨h1, h2, h3, rfl⟩ | ⟨h1, h2, h3, h4, rfl⟩ | ⟨h1, h2, h3, h4, h5, rfl⟩ | ⟨h1, h2, h3, h4, h5, h6, rfl⟩ | ⟨h1, h2, h3, h4, h5, h6, h7, rfl⟩ | ⟨h1, h2, h3, h4, h5, h6, h7, rfl⟩
  all_goals
    have g1 := fun w0 => wNumber_any n w0
    have g2 := fun w0 => wNumber_any to w0
    have g4 := fun w0 => wIn_any k 1 4 w0
    try rw [inB_t h1] at g1
    try rw [inB_f h1] at g1
    try rw [inB_t h2] at g2
    try rw [inB_f h2] at g2
    try rw [inB_t h4] at g4
    try rw [inB_f h4] at g4
    try (have t3 : (n != to) = false := by simp [h3])
    try (have t3 : (n != to) = true := bne_iff_ne.2 h3)
    try clear h3
    go_enter Tryz.func42, Tryz.ntmps42
    go_wp2_with (first | (go_at_call 44; refine (g1 _).mono ?_; rintro _ w1 ⟨rfl, rfl⟩) | (go_at_call 44; refine (g2 _).mono ?_; rintro _ w1 ⟨rfl, rfl⟩) | (go_at_call 45; refine (g4 _).mono ?_; rintro _ w1 ⟨rfl, rfl⟩))
    go_ret
    exact ⟨ret_bool (by first | rfl | (simp; done) | (simp; omega)), hb⟩
end Go.Proofs.YtlldlkjngcgcjaaGreatDoor
namespace Go.Proofs.YtlldlkjngcgcjaaGreatDoor
set_option linter.unusedVariables false
set_option linter.unusedSimpArgs false
/-- the first place where a test holds, or -1 -/
def idxI {α : Type} (p : α → Bool) (l : List α) : Int := match l.findIdx? p with | some i => (i : Int) | none => -1
theorem idx_hit {α : Type} {p : α → Bool} {l : List α} {k : Nat} (hk : k < l.length) (h1 : p l[k] = true) (h2 : ∀ (j : Nat) (hj : j < k), p (l[j]'(by omega)) = false) : idxI p l = k := by
  unfold idxI
  have : l.findIdx? p = some k := by
    rw [List.findIdx?_eq_some_iff_getElem]
    exact ⟨hk, h1, fun j hj => by rw [h2 j hj]; simp⟩
  rw [this]
theorem idx_none {α : Type} {p : α → Bool} {l : List α} (h : ∀ (j : Nat) (hj : j < l.length), p l[j] = false) : idxI p l = -1 := by
  unfold idxI
  have : l.findIdx? p = none := by
    rw [List.findIdx?_eq_none_iff]
    intro c hc
    obtain ⟨j, hj, rfl⟩ := List.mem_iff_getElem.1 hc
    exact h j hj
  rw [this]
theorem idx_any {α : Type} (p : α → Bool) (l : List α) : decide (0 ≤ idxI p l) = l.any p := by
  unfold idxI
  cases h : l.findIdx? p with
  | some i =>
    obtain ⟨h1, h2, h3⟩ := List.findIdx?_eq_some_iff_getElem.1 h
    have : l.any p = true := List.any_eq_true.2 ⟨l[i], List.getElem_mem h1, h2⟩
    rw [this]; simp
  | none =>
    have : l.any p = false := by
      rw [List.any_eq_false]
      intro x hx
      have := List.findIdx?_eq_none_iff.1 h x hx
      simp [this]
    rw [this]; simp
end Go.Proofs.YtlldlkjngcgcjaaGreatDoor
namespace Go.Proofs.YtlldlkjngcgcjaaGreatDoor
set_option linter.unusedVariables false
set_option linter.unusedSimpArgs false
open Go.RowKit
theorem wHas_any (f e t : Int) (w : World) :
    Calls Tryz.prog 58 #[.agg #[.int .i64 f, .int .i64 e], .int .i64 t] w fun x w' => x = .returned (.bool (decide (f ≤ t) && decide (t < e))) ∧ Below w.heap.size w w' := by
  have B := Bx.mk w 31 #[.int .i64 f, .int .i64 e]
  have hb := bNx w (.cells #[.int .i64 f, .int .i64 e] 31)
  have c0 := B.cell 0 rfl
  have c1 := B.cell 1 rfl
  clear B
  by_cases h1 : f ≤ t <;> by_cases h2 : t < e
  all_goals
    go_enter Tryz.func58, Tryz.ntmps58
    go_wp2
    go_ret
    exact ⟨by simp [*] <;> omega, hb⟩
/-- two settings that cannot stand together -/
def clB (r s : Tw.St) : Bool := decide (r.n = s.n) && (decide (r.k = s.k) && (r.has s.f || s.has r.f))
theorem clB_iff {r s : Tw.St} : clB r s = true ↔ Tw.Cl r s := by
  simp [clB, Tw.Cl]
theorem cl_ways (r s : Tw.St) :
    (r.n ≠ s.n ∧ clB r s = false) ∨ (r.n = s.n ∧ r.k ≠ s.k ∧ clB r s = false) ∨ (r.n = s.n ∧ r.k = s.k ∧ (decide (r.f ≤ s.f) && decide (s.f < r.e)) = true ∧ clB r s = true) ∨
    (r.n = s.n ∧ r.k = s.k ∧ (decide (r.f ≤ s.f) && decide (s.f < r.e)) = false ∧ clB r s = (decide (s.f ≤ r.f) && decide (r.f < s.e))) := by
  unfold clB Tw.St.has
  by_cases h1 : r.n = s.n
  · by_cases h2 : r.k = s.k
    · rw [decide_eq_true h1, decide_eq_true h2]
      cases h3 : (decide (r.f ≤ s.f) && decide (s.f < r.e)) <;> simp [h1, h2]
    · rw [decide_eq_false h2]; simp [h1, h2]
  · rw [decide_eq_false h1]; simp [h1]
theorem clash_any (r s : Tw.St) (g : Nat) (w : World) (hB : Bx w g 33 #[.int .i64 s.n, .int .i64 s.k, .int .i64 s.to, .int .i64 s.f, .int .i64 s.e]) :
    Calls Tryz.prog 100 #[.agg #[.int .i64 r.n, .int .i64 r.k, .int .i64 r.to, .int .i64 r.f, .int .i64 r.e], .pointer (some ⟨g, 0, none⟩)] w fun e w' => e = .returned (.bool (clB r s)) ∧ Below w.heap.size w w' := by
  have hw := cl_ways r s
  have hH1 := fun w0 => wHas_any r.f r.e s.f w0
  have hH2 := fun w0 => wHas_any s.f s.e r.f w0
  generalize clB r s = res at *
  generalize (decide (r.f ≤ s.f) && decide (s.f < r.e)) = b1 at *
  generalize (decide (s.f ≤ r.f) && decide (r.f < s.e)) = b2 at *
  obtain ⟨n, k, to, f, e⟩ := r
  obtain ⟨sn, sk, sto, sf, se⟩ := s
  dsimp only at hw hH1 hH2 hB ⊢
  have B := Bx.mk w 33 #[.int .i64 n, .int .i64 k, .int .i64 to, .int .i64 f, .int .i64 e]
  have hb := bNx w (.cells #[.int .i64 n, .int .i64 k, .int .i64 to, .int .i64 f, .int .i64 e] 33)
  replace hB := hB.call hb
  have c0 := B.cell 0 rfl
  have c1 := B.cell 1 rfl
  have c2 := B.cell 2 rfl
  have c3 := B.cell 3 rfl
  have c4 := B.cell 4 rfl
  have d0 := hB.cell 0 rfl
  have d1 := hB.cell 1 rfl
  have d2 := hB.cell 2 rfl
  have d3 := hB.cell 3 rfl
  have d4 := hB.cell 4 rfl
  rcases hw with ⟨h1, rfl⟩ | ⟨h1, h2, rfl⟩ | ⟨h1, h2, rfl, rfl⟩ | ⟨h1, h2, rfl, rfl⟩
  · have t1 : (n == sn) = false := by simpa using h1
    clear B hB hH1 hH2 h1
    go_enter Tryz.func100, Tryz.ntmps100
    go_wp2
    go_ret
    exact ⟨by simp, hb⟩
  · have t1 : (n == sn) = true := by simpa using h1
    have t2 : (k == sk) = false := by simpa using h2
    clear B hB hH1 hH2 h1 h2
    go_enter Tryz.func100, Tryz.ntmps100
    go_wp2
    go_ret
    exact ⟨by simp, hb⟩
  · have t1 : (n == sn) = true := by simpa using h1
    have t2 : (k == sk) = true := by simpa using h2
    clear B hB hH2 h1 h2
    go_enter Tryz.func100, Tryz.ntmps100
    go_wp2_with fail
    refine (hH1 _).mono ?_
    rintro _ w1 ⟨rfl, hb1⟩
    go_wp2
    go_ret
    exact ⟨by simp, bCall hb hb1⟩
  · have t1 : (n == sn) = true := by simpa using h1
    have t2 : (k == sk) = true := by simpa using h2
    clear h1 h2
    go_enter Tryz.func100, Tryz.ntmps100
    go_wp2_with fail
    refine (hH1 _).mono ?_
    rintro _ w1 ⟨rfl, hb1⟩
    clear c0 c1 c2 c3 c4 d0 d1 d2 d3 d4
    replace B := B.call hb1
    replace hB := hB.call hb1
    replace hb := bCall hb hb1
    have c0 := B.cell 0 rfl
    have c1 := B.cell 1 rfl
    have c2 := B.cell 2 rfl
    have c3 := B.cell 3 rfl
    have c4 := B.cell 4 rfl
    have d0 := hB.cell 0 rfl
    have d1 := hB.cell 1 rfl
    have d2 := hB.cell 2 rfl
    have d3 := hB.cell 3 rfl
    have d4 := hB.cell 4 rfl
    go_wp2_with fail
    refine (hH2 _).mono ?_
    rintro _ w2 ⟨rfl, hb2⟩
    go_wp2
    go_ret
    exact ⟨by simp, bCall hb hb2⟩
set_option maxRecDepth 100000 in
set_option maxHeartbeats 4000000 in
theorem idxS_any (l : List Tw.St) (A : Option Addr) (cap g : Nat) (s : Tw.St) (w : World) (hA : At 5 stC w w.heap.size A l) (hn : l.length ≤ cap) (hl : l.length ≤ 9223372036854775807) (hB : Bx w g 33 #[.int .i64 s.n, .int .i64 s.k, .int .i64 s.to, .int .i64 s.f, .int .i64 s.e]) :
    Calls Tryz.prog 126 #[.slice A l.length cap, .func (.func 100) #[] #[.pointer (some ⟨g, 0, none⟩)]] w fun e w' => e = .returned (.int .i64 (idxI (fun r => clB r s) l)) ∧ Below w.heap.size w w' := by
  obtain ⟨p, hp⟩ : ∃ p : Tw.St → Bool, p = fun r => clB r s := ⟨_, rfl⟩
  have hq : ∀ (r : Tw.St) W, Below w.heap.size w W → Calls Tryz.prog 100 #[.agg #[.int .i64 r.n, .int .i64 r.k, .int .i64 r.to, .int .i64 r.f, .int .i64 r.e], .pointer (some ⟨g, 0, none⟩)] W fun e w' => e = .returned (.bool (p r)) ∧ Below W.heap.size W w' := fun r W h => by
    rw [hp]; exact clash_any r s g W (hB.below h hB.lt)
  rw [← hp]
  clear hp
  go_enter Tryz.func126, Tryz.ntmps126
  go_wp2
  go_loopw [8] (fun s8 wr => ∃ k : Nat, k ≤ l.length ∧ s8 = .int .i64 k ∧ Kp (∀ (j : Nat) (hj : j < l.length), j < k → p l[j] = false) ∧ Below w.heap.size w wr) (fun s8 _ => l.length - (intOf s8).toNat)
  case atStart => exact ⟨0, Nat.zero_le _, rfl, ⟨fun j hj h => by omega⟩, bStart _⟩
  case round =>
    obtain ⟨k, hk, rfl, hno, hb⟩ := hrel
    by_cases hlt : k < l.length
    · obtain ⟨b, off, rfl, hbB, hcell⟩ := hA (by omega)
      have hck : l[k]? = some l[k] := List.getElem?_eq_getElem hlt
      have hcl := fun (j : Nat) u (hj : (stC l[k])[j]? = some u) => (hb.cell (p := ⟨b, off + k * 5 + j, none⟩) hbB).trans (hcell k _ hck j u hj)
      have hcl0 := hcl 0 _ rfl
      have hcl1 := hcl 1 _ rfl
      have hcl2 := hcl 2 _ rfl
      have hcl3 := hcl 3 _ rfl
      have hcl4 := hcl 4 _ rfl
      simp only [Nat.add_zero] at hcl0
      have hP := hq l[k] wr hb
      have hh := fun (h : p l[k] = true) => idx_hit hlt h (fun j hj => hno.out j (by omega) hj)
      have hnx : Kp (p l[k] = false → ∀ (j : Nat) (hj : j < l.length), j < k + 1 → p l[j] = false) := ⟨fun h j hj hjk => by
        rcases Nat.lt_or_ge j k with h1 | h1
        · exact hno.out j hj h1
        · obtain rfl : j = k := by omega
          exact h⟩
      have hfin : Kp (p l[k] = true → idxI p l = k) := ⟨hh⟩
      clear hcell hA hck hno hh hq hcl hB
      generalize p l[k] = t at *
      generalize l[k] = x at *
      cases t
      · go_wp2_with (refine hP.mono ?_; rintro _ w1 ⟨rfl, hb1⟩; clear hP)
        exact ⟨⟨k + 1, by omega, by go_num, ⟨by first | exact hnx.out rfl | exact hnx.out trivial⟩, bCall hb hb1⟩, by simp [intOf]; omega⟩
      · go_wp2_with (refine hP.mono ?_; rintro _ w1 ⟨rfl, hb1⟩; clear hP)
        go_ret
        exact ⟨ret_int (by first | exact (hfin.out rfl).symm | exact (hfin.out trivial).symm), bCall hb hb1⟩
    · have hfin : Kp (idxI p l = -1) := ⟨idx_none fun j hj => hno.out j hj (by omega)⟩
      clear hno hq hB
      go_wp2
      go_ret
      exact ⟨ret_int hfin.out.symm, hb⟩
theorem conS_any (l : List Tw.St) (A : Option Addr) (cap g : Nat) (s : Tw.St) (w : World) (hA : At 5 stC w w.heap.size A l) (hn : l.length ≤ cap) (hl : l.length ≤ 9223372036854775807) (hB : Bx w g 33 #[.int .i64 s.n, .int .i64 s.k, .int .i64 s.to, .int .i64 s.f, .int .i64 s.e]) :
    Calls Tryz.prog 101 #[.slice A l.length cap, .func (.func 100) #[] #[.pointer (some ⟨g, 0, none⟩)]] w fun e w' => e = .returned (.bool (l.any fun r => clB r s)) ∧ Below w.heap.size w w' := by
  have hI := idxS_any l A cap g s w hA hn hl hB
  have hd := idx_any (fun r : Tw.St => clB r s) l
  generalize idxI (fun r : Tw.St => clB r s) l = i at *
  generalize (l.any fun r => clB r s) = r at *
  clear hA hB
  by_cases h : 0 ≤ i
  all_goals
    have t0 : decide (0 ≤ i) = r := hd
    first | rw [decide_eq_true h] at t0 | rw [decide_eq_false h] at t0
    subst t0
    clear hd
    go_enter Tryz.func101, Tryz.ntmps101
    go_wp2_with (go_at_call 126; refine hI.mono ?_; rintro _ w1 ⟨rfl, hb1⟩; clear hI)
    go_ret
    exact ⟨ret_bool (by simp <;> omega), hb1⟩
end Go.Proofs.YtlldlkjngcgcjaaGreatDoor
namespace Go.Proofs.YtlldlkjngcgcjaaGreatDoor
set_option linter.unusedVariables false
set_option linter.unusedSimpArgs false
open Go.RowKit
open Classical in
noncomputable def vaB (l : List Tw.St) : Bool := decide (Tw.Va l)
open Classical in
theorem vaB_t {l : List Tw.St} (h : Tw.Va l) : vaB l = true := decide_eq_true h
open Classical in
theorem vaB_f {l : List Tw.St} (h : ¬ Tw.Va l) : vaB l = false := decide_eq_false h
open Classical in
theorem vaB_iff {l : List Tw.St} : vaB l = true ↔ Tw.Va l := decide_eq_true_iff
set_option maxRecDepth 100000 in
set_option maxHeartbeats 4000000 in
theorem wSet_any (l : List Tw.St) (A : Option Addr) (cap : Nat) (w : World) (hA : At 5 stC w w.heap.size A l) (hn : l.length ≤ cap) (hl : l.length ≤ 9223372036854775807) :
    Calls Tryz.prog 52 #[.slice A l.length cap] w fun e w' => e = .returned (.bool (vaB l)) ∧ Below w.heap.size w w' := by
  by_cases h40 : l.length ≤ 40
  · go_enter Tryz.func52, Tryz.ntmps52
    go_wp2
    go_loopw [11] (fun s11 wr => ∃ k : Nat, k ≤ l.length ∧ s11 = .int .i64 k ∧ Kp (Tw.Vs (l.take k)) ∧ Below w.heap.size w wr) (fun s11 _ => l.length - (intOf s11).toNat)
    case atStart => exact ⟨0, Nat.zero_le _, rfl, ⟨by simpa using Tw.vs_nil⟩, bStart _⟩
    case round =>
      obtain ⟨k, hk, rfl, hvs, hb⟩ := hrel
      by_cases hlt : k < l.length
      · obtain ⟨b, off, rfl, hbB, hcell⟩ := hA.run (Nat.le_refl _) hlt
        have hcl0 := hcell wr hb 0 _ rfl
        have hcl1 := hcell wr hb 1 _ rfl
        have hcl2 := hcell wr hb 2 _ rfl
        have hcl3 := hcell wr hb 3 _ rfl
        have hcl4 := hcell wr hb 4 _ rfl
        simp only [Nat.add_zero] at hcl0
        have hF := wFormed_any l[k]
        have hC := fun (g : Nat) (W : World) (hW : Below w.heap.size w W) (hB : Bx W g 33 #[.int .i64 l[k].n, .int .i64 l[k].k, .int .i64 l[k].to, .int .i64 l[k].f, .int .i64 l[k].e]) => conS_any (l.take k) (some ⟨b, off, none⟩) cap g l[k] W (((hA.take k).below hW).more hW.size) (by simp; omega) (by simp; omega) hB
        simp only [List.length_take, Nat.min_eq_left hk] at hC
        have hany : ((l.take k).any fun r => clB r l[k]) = false ↔ ∀ r ∈ l.take k, ¬ Tw.Cl r l[k] := by
          rw [List.any_eq_false]
          exact ⟨fun h r hr hc => h r hr (clB_iff.2 hc), fun h r hr hc => h r hr (clB_iff.1 hc)⟩
        have hyes : Kp (fmB l[k] = true → ((l.take k).any fun r => clB r l[k]) = false → Tw.Vs (l.take (k + 1))) := ⟨fun h1 h2 => (Tw.vs_take hlt).2 ⟨hvs.out, fmB_iff.1 h1, hany.1 h2⟩⟩
        have hno1 : Kp (fmB l[k] = false → vaB l = false) := ⟨fun h1 => vaB_f fun hv => by
          have := fmB_t (hv.fm l[k] (List.getElem_mem hlt))
          rw [h1] at this; cases this⟩
        have hno2 : Kp (((l.take k).any fun r => clB r l[k]) = true → vaB l = false) := ⟨fun h1 => vaB_f fun hv => by
          have h2 := ((Tw.vs_take hlt).1 ((Tw.va_vs.1 hv).2.sub (List.take_sublist _ _))).2.2
          rw [hany.2 h2] at h1; cases h1⟩
        clear hcell hA hany hvs
        generalize ((l.take k).any fun r => clB r l[k]) = b2 at *
        generalize fmB l[k] = b1 at *
        generalize l[k] = s at *
        obtain ⟨n, kk, to, f, e⟩ := s
        dsimp only at hcl0 hcl1 hcl2 hcl3 hcl4 hF hC
        have B := Bx.mk wr 33 #[.int .i64 n, .int .i64 kk, .int .i64 to, .int .i64 f, .int .i64 e]
        have hbn := bNew hb (.cells #[.int .i64 n, .int .i64 kk, .int .i64 to, .int .i64 f, .int .i64 e] 33)
        have c0 := B.cell 0 rfl
        have c1 := B.cell 1 rfl
        have c2 := B.cell 2 rfl
        have c3 := B.cell 3 rfl
        have c4 := B.cell 4 rfl
        go_wp2_with fail
        refine (hF _).mono ?_
        rintro _ w1 ⟨rfl, hb1⟩
        replace B := B.call hb1
        replace hbn := bCall hbn hb1
        clear c0 c1 c2 c3 c4 hcl0 hcl1 hcl2 hcl3 hcl4 hF hb1
        cases b1
        · have hr : Kp (vaB l = false) := ⟨by first | exact hno1.out rfl | exact hno1.out trivial⟩
          clear hC B hyes hno2 hno1
          go_wp2
          go_ret
          exact ⟨by rw [hr.out]; first | rfl | simp, hbn⟩
        · have hC1 := hC _ _ hbn B
          go_wp2_with fail
          refine hC1.mono ?_
          rintro _ w2 ⟨rfl, hb2⟩
          replace hbn := bCall hbn hb2
          clear hC hC1 B hb2
          cases b2
          · have hnx : Kp (Tw.Vs (l.take (k + 1))) := ⟨by first | exact hyes.out rfl rfl | exact hyes.out trivial rfl | exact hyes.out trivial trivial⟩
            clear hyes hno1 hno2
            go_wp2
            exact ⟨⟨k + 1, by omega, by go_num, hnx, hbn⟩, by simp [intOf]; omega⟩
          · have hr : Kp (vaB l = false) := ⟨by first | exact hno2.out rfl | exact hno2.out trivial⟩
            clear hyes hno1 hno2
            go_wp2
            go_ret
            exact ⟨by rw [hr.out]; first | rfl | simp, hbn⟩
      · obtain rfl : k = l.length := by omega
        have hr : Kp (vaB l = true) := ⟨vaB_t (Tw.va_vs.2 ⟨h40, by have := hvs.out; rwa [List.take_length] at this⟩)⟩
        clear hvs hA
        go_wp2
        go_ret
        exact ⟨by rw [hr.out]; first | rfl | simp, hb⟩
  · have hr : Kp (vaB l = false) := ⟨vaB_f fun hv => h40 hv.len⟩
    have t40 : decide ((40 : Int) < (l.length : Int)) = true := decide_eq_true (by omega)
    go_enter Tryz.func52, Tryz.ntmps52
    go_wp2
    go_ret
    exact ⟨by rw [hr.out]; first | rfl | simp, bStart _⟩
end Go.Proofs.YtlldlkjngcgcjaaGreatDoor
namespace Go.Proofs.YtlldlkjngcgcjaaGreatDoor
set_option linter.unusedVariables false
set_option linter.unusedSimpArgs false
namespace Mg
open Go.RowKit
/-- every element reads as itself -/
def RV (v : Value) : Option (DataW Value × List MemPlace) := some (.held v, [])
structure Ky (P : Program) (k : TypeId) {κ : Type} (kv : κ → Value) (kl : κ → Lit) (ok : κ → Prop) : Prop where
  law : Maps.Keyed P k
  key : ∀ x, ok x → keyOf P k (kv x) = some (kl x)
  inj : ∀ x y, kv x = kv y → x = y
section
variable {κ α : Type} {P : Program} {k t e : TypeId} {kv : κ → Value} {kl : κ → Lit} {ok : κ → Prop} {enc : α → Value} {F : κ → Option α} {b n : Nat} {w w' : World}
theorem Ky.ne (K : Ky P k kv kl ok) {x y : κ} (hx : ok x) (hy : ok y) (h : x ≠ y) : kl x ≠ kl y := fun e =>
  h (K.inj x y (K.law.inj (K.key x hx) (by rw [e]; exact K.key y hy)))
theorem Ky.lit (K : Ky P k kv kl ok) {x : κ} (hx : ok x) : WideAt.IsKeyLit (kl x) := K.law.key (K.key x hx)
def upd [DecidableEq κ] (F : κ → Option α) (s : κ) (y : α) : κ → Option α := fun x => if x = s then some y else F x
/-- block b is a map that holds just these -/
def Mp (P : Program) (k : TypeId) (kl : κ → Lit) (ok : κ → Prop) (enc : α → Value) (F : κ → Option α) (b n : Nat) (w : World) : Prop :=
  ∃ D, w.ownsMap P k RV b n D ∧ Maps.IsMap D ∧ ∀ x : κ, ok x → (∀ z, D.atKey (kl x) z = match F x with | some y => .held (enc y) | none => z) ∧ Maps.has D (kl x) = (F x).isSome
theorem Mp.made (w : World) : Mp P k kl ok enc (fun _ => none) w.heap.size 0 (w.alloc (.map #[] 0)) :=
  ⟨_, w.ownsMap_made P k RV, Maps.isMap_empty, fun s _ => ⟨fun z => rfl, rfl⟩⟩
theorem Mp.below {B : Nat} (h : Mp P k kl ok enc F b n w) (hb : Below B w w') (hB : b < B) : Mp P k kl ok enc F b n w' := by
  obtain ⟨D, ⟨ent, clock, h1, h2, h3, h4⟩, hm, hs⟩ := h
  exact ⟨D, ⟨ent, clock, (hb.block b hB).trans h1, h2, h3, h4⟩, hm, hs⟩
theorem Mp.kept {row : Option Nat} (h : Mp P k kl ok enc F b n w) (hg : w.grownBy w' row) (hne : some b ≠ row) : Mp P k kl ok enc F b n w' := by
  obtain ⟨D, h1, h2⟩ := h
  exact ⟨D, h1.kept hg hne, h2⟩
theorem Mp.mono {m : Nat} (h : Mp P k kl ok enc F b n w) (hn : n ≤ m) : Mp P k kl ok enc F b m w := by
  obtain ⟨D, h1, h2⟩ := h
  exact ⟨D, h1.mono hn, h2⟩
theorem Mp.lt (h : Mp P k kl ok enc F b n w) : b < w.heap.size := by obtain ⟨D, h, _⟩ := h; exact h.lt
theorem Mp.ext {G : κ → Option α} (h : Mp P k kl ok enc F b n w) (hf : ∀ x, ok x → F x = G x) : Mp P k kl ok enc G b n w := by
  obtain ⟨D, h1, h2, h3⟩ := h
  exact ⟨D, h1, h2, fun x hx => by rw [← hf x hx]; exact h3 x hx⟩
theorem put_D [DecidableEq κ] (K : Ky P k kv kl ok) {D : DataW Value} (hmap : Maps.IsMap D) (hall : ∀ x : κ, ok x → (∀ z, D.atKey (kl x) z = match F x with | some y => .held (enc y) | none => z) ∧ Maps.has D (kl x) = (F x).isSome) {s : κ} (hs : ok s) (y : α) :
    ∀ x : κ, ok x → (∀ z, (D.put (kl s) (.held (enc y))).atKey (kl x) z = match upd F s y x with | some y => .held (enc y) | none => z) ∧ Maps.has (D.put (kl s) (.held (enc y))) (kl x) = (upd F s y x).isSome := fun x hx => by
  unfold upd
  by_cases h : x = s
  · subst h
    simp only [if_pos]
    exact ⟨fun z => Maps.atKey_put_same hmap (K.lit hs) _ _, by rw [Maps.has_put_same hmap (K.lit hs)]; rfl⟩
  · have hne := K.ne hx hs h
    simp only [if_neg h]
    exact ⟨fun z => by rw [Maps.atKey_put_other hne]; exact (hall x hx).1 z, by rw [Maps.has_put_other hne]; exact (hall x hx).2⟩
theorem wpList_put [DecidableEq κ] {ops : Array Oper} {rest : List Oper} {o : Oper} {a : Act} {Q : Exit → Act → World → Prop} (hg : o.guard = none) (m x v : Operand) (hop : o.op = Op.mapUpdate t m x v) (K : Ky P k kv kl ok) (ht : P.underlying t = some (.map k e))
    (hm : a.eval m = .map (some b)) (h : Mp P k kl ok enc F b n w) (hn : n < maxLen) (s : κ) (y : α) (hx : a.eval x = kv s) (hv : a.eval v = enc y) (hs : ok s)
    (hK : ∀ w', Mp P k kl ok enc (upd F s y) b (n + 1) w' → w.grownBy w' (some b) → wpList P ops Q rest (a.put o.dst undef) w') : wpList P ops Q (o :: rest) a w := by
  obtain ⟨D, hown, hmap, hall⟩ := h
  exact wpList_mapUpdate_own w hg m x v t hop k e K.law ht RV b n D hm hown hn _ _ (kl s) hx hv (K.key s hs) (.held (enc y)) [] rfl fun w' h1 h2 => hK w' ⟨_, h1, hmap.put _ _, put_D K hmap hall hs y⟩ h2
theorem wpList_look {ops : Array Oper} {rest : List Oper} {o : Oper} {a : Act} {Q : Exit → Act → World → Prop} (hg : o.guard = none) (m x : Operand) (hop : o.op = Op.lookup t m x true) (K : Ky P k kv kl ok) (ht : P.underlying t = some (.map k e))
    {z : Value} (hz : (zeroValue e).run P w = .ok z w) (hm : a.eval m = .map (some b)) (h : Mp P k kl ok enc F b n w) (s : κ) (hx : a.eval x = kv s) (hs : ok s)
    (hK : wpList P ops Q rest (a.put o.dst (.tuple #[(match F s with | some y => enc y | none => z), .bool (F s).isSome])) w) : wpList P ops Q (o :: rest) a w := by
  obtain ⟨D, hown, hmap, hall⟩ := h
  refine wpList_lookup_own_ok w hg m x t hop k e K.law ht RV hz (.held z) [] rfl b n D hm hown _ (kl s) hx (K.key s hs) fun v ps hv => ?_
  simp only [RV, Option.some.injEq, Prod.mk.injEq] at hv
  rw [(hall s hs).1] at hv
  have : v = (match F s with | some y => enc y | none => z) := by
    have := hv.1
    cases hl : F s <;> rw [hl] at this <;> cases this <;> rfl
  rw [this, (hall s hs).2]
  exact hK
/-- a look-up as an equation (both with 'ok' and without) -/
theorem Mp.look_run (h : Mp P k kl ok enc F b n w) (K : Ky P k kv kl ok) (ht : P.underlying t = some (.map k e)) {z : Value} (hz : (zeroValue e).run P w = .ok z w) {s : κ} (hs : ok s) :
    (Instr.lookup t (.map (some b)) (kv s) true).run P w = .ok (.tuple #[(match F s with | some y => enc y | none => z), .bool (F s).isSome]) w := by
  obtain ⟨D, hown, hmap, hall⟩ := h
  obtain ⟨v, ps, h1, h2⟩ := hown.look_ok K.law ht hz (zd := .held z) (zp := []) rfl (K.key s hs)
  simp only [RV, Option.some.injEq, Prod.mk.injEq] at h2
  rw [(hall s hs).1] at h2
  have : v = (match F s with | some y => enc y | none => z) := by
    have := h2.1
    cases hl : F s <;> rw [hl] at this <;> cases this <;> rfl
  rw [h1, this, (hall s hs).2]
theorem Mp.look_run1 (h : Mp P k kl ok enc F b n w) (K : Ky P k kv kl ok) (ht : P.underlying t = some (.map k e)) {z : Value} (hz : (zeroValue e).run P w = .ok z w) {s : κ} (hs : ok s) :
    (Instr.lookup t (.map (some b)) (kv s) false).run P w = .ok (match F s with | some y => enc y | none => z) w := by
  obtain ⟨D, hown, hmap, hall⟩ := h
  obtain ⟨v, ps, h1, h2⟩ := hown.lookup K.law ht hz (zd := .held z) (zp := []) rfl (K.key s hs)
  simp only [RV, Option.some.injEq, Prod.mk.injEq] at h2
  rw [(hall s hs).1] at h2
  have : v = (match F s with | some y => enc y | none => z) := by
    have := h2.1
    cases hl : F s <;> rw [hl] at this <;> cases this <;> rfl
  rw [h1, this]
/-- the map while it is ranged over -/
def Rn (P : Program) (k : TypeId) (kl : κ → Lit) (ok : κ → Prop) (enc : α → Value) (F : κ → Option α) (b r n : Nat) (w : World) (left : Lit → Bool) (cnt : Nat) : Prop :=
  ∃ D, w.ranges P k RV b r n D left cnt ∧ Maps.IsMap D ∧ (∀ x : κ, ok x → (∀ z, D.atKey (kl x) z = match F x with | some y => .held (enc y) | none => z) ∧ Maps.has D (kl x) = (F x).isSome) ∧ ∀ l, left l = true → Maps.has D l = true
theorem wpList_range_g {ops : Array Oper} {rest : List Oper} {o : Oper} {a : Act} {Q : Exit → Act → World → Prop} (hg : o.guard = none) (m : Operand) (hop : o.op = Op.range t m) (K : Ky P k kv kl ok) (ht : P.underlying t = some (.map k e))
    (hm : a.eval m = .map (some b)) (h : Mp P k kl ok enc F b n w)
    (hK : ∀ w' left cnt, Rn P k kl ok enc F b w.heap.size n w' left cnt → (∀ x, ok x → left (kl x) = (F x).isSome) → w.grownBy w' none → w'.heap.size = w.heap.size + 1 → wpList P ops Q rest (a.put o.dst (.pointer (some ⟨w.heap.size, 0, none⟩))) w') :
    wpList P ops Q (o :: rest) a w := by
  obtain ⟨D, hown, hmap, hall⟩ := h
  exact wpList_range_own w hg m t hop k e K.law ht RV b n D hm hown fun w' h1 h2 h3 => hK w' _ _ ⟨D, h1, hmap, hall, fun l h => h⟩ (fun x hx => (hall x hx).2) h2 h3
theorem wpList_next_g {ops : Array Oper} {rest : List Oper} {o : Oper} {a : Act} {Q : Exit → Act → World → Prop} (hg : o.guard = none) (it : Operand) (hop : o.op = Op.next it false) (K : Ky P k kv kl ok) (hinv : ∀ key l, keyOf P k key = some l → ∃ x, ok x ∧ key = kv x) (r : Nat) (left : Lit → Bool) (cnt : Nat)
    (hit : a.eval it = .pointer (some ⟨r, 0, none⟩)) (h : Rn P k kl ok enc F b r n w left cnt)
    (hDone : (∀ l, left l = false) → wpList P ops Q rest (a.put o.dst (.tuple #[.bool false])) w)
    (hMore : ∀ (s : κ) (y : α) (w' : World) (cnt' : Nat), ok s → left (kl s) = true → F s = some y → Rn P k kl ok enc F b r n w' (fun z => left z && !z.sameKey (kl s)) cnt' → cnt' < cnt → w.grownBy w' (some r) → w'.heap.size = w.heap.size →
      (Instr.entry (.pointer (some ⟨r, 0, none⟩))).run P w' = .ok (.tuple #[kv s, enc y]) w' → wpList P ops Q rest (a.put o.dst (.tuple #[.bool true, kv s, enc y])) w') :
    wpList P ops Q (o :: rest) a w := by
  obtain ⟨D, hr, hmap, hall, hleft⟩ := h
  refine wpList_next_ranges (α := κ) (β := Value) w hg it hop k K.law RV kv id (fun key l h => by obtain ⟨s, -, h1⟩ := hinv key l h; exact ⟨s, h1⟩) (fun v y _ => ⟨v, rfl⟩) b r n D left cnt hit hr
    (fun _ h0 => hDone h0) fun s c l y w' cnt' hkey hl hv hat hrg hlt hgr hsz hen => ?_
  obtain ⟨s', hs', h1⟩ := hinv _ _ hkey
  obtain rfl := K.inj _ _ h1
  obtain rfl : kl s = l := Option.some.inj ((K.key s hs').symm.trans hkey)
  have hh := hleft _ hl
  rw [(hall s hs').2] at hh
  obtain ⟨x, hx⟩ := Option.isSome_iff_exists.1 hh
  have hc : c = enc x := by
    have h2 := hat (.held c)
    rw [(hall s hs').1, hx] at h2
    simp only [RV, id, Option.some.injEq] at hv
    rw [← hv] at h2
    simp only [DataW.held.injEq] at h2
    exact h2.symm
  subst hc
  exact hMore s x w' cnt' hs' hl hx ⟨D, hrg, hmap, hall, fun l h => hleft l (by simp at h; exact h.1)⟩ hlt hgr hsz hen
end
/-- keys that are ints -/
def okI (x : Int) : Prop := (Lit.int .i64 x).wf = true
theorem ky_int {P : Program} {k : TypeId} (hk : P.underlying k = some (.int .i64)) : Ky P k (fun x : Int => .int .i64 x) (fun x => .int .i64 x) okI where
  law := Maps.int_keyed hk
  key := fun x hx => by
    have hx' : (Lit.int .i64 x).wf = true := hx
    simp [keyOf, mapKey, hk, hx']
  inj := fun x y h => by injection h
theorem inv_int {P : Program} {k : TypeId} (hk : P.underlying k = some (.int .i64)) (key : Value) (l : Lit) (h : keyOf P k key = some l) : ∃ x, okI x ∧ key = .int .i64 x := by
  obtain ⟨x, h1, -, h2⟩ := Maps.keyOf_int_inv hk h
  exact ⟨x, h2, h1⟩
end Mg
end Go.Proofs.YtlldlkjngcgcjaaGreatDoor
namespace Go.Proofs.YtlldlkjngcgcjaaGreatDoor
set_option linter.unusedVariables false
set_option linter.unusedSimpArgs false
open Go.RowKit
open Go.Maps (Keyed)
/-- every element reads as itself -/
def RV (v : Value) : Option (DataW Value × List MemPlace) := some (.held v, [])
theorem key_string {P : Program} {k : TypeId} (hk : P.underlying k = some .string) {s : List UInt8} (hs : s.length ≤ maxLen) : keyOf P k (.string ⟨s.toArray⟩) = some (.string s) := by
  have : (ByteArray.size ⟨s.toArray⟩) ≤ maxLen := hs
  simp [keyOf, mapKey, hk, this]
section
variable {α : Type} {P : Program} {k t e : TypeId} {enc : α → Value} {es : List (List UInt8 × α)} {b : Nat} {w w' : World}
/-- block b is a map that holds just these -/
def MapIs (P : Program) (k : TypeId) (enc : α → Value) (es : List (List UInt8 × α)) (b : Nat) (w : World) : Prop :=
  ∃ D, w.ownsMap P k RV b es.length D ∧ Maps.IsMap D ∧ ∀ s : List UInt8, (∀ z, D.atKey (.string s) z = match es.lookup s with | some x => .held (enc x) | none => z) ∧ Maps.has D (.string s) = (es.lookup s).isSome
theorem MapIs.made (w : World) : MapIs P k enc [] w.heap.size (w.alloc (.map #[] 0)) :=
  ⟨_, w.ownsMap_made P k RV, Maps.isMap_empty, fun s => ⟨fun z => rfl, rfl⟩⟩
theorem MapIs.below {B : Nat} (h : MapIs P k enc es b w) (hb : Below B w w') (hB : b < B) : MapIs P k enc es b w' := by
  obtain ⟨D, ⟨ent, clock, h1, h2, h3, h4⟩, hm, hs⟩ := h
  exact ⟨D, ⟨ent, clock, (hb.block b hB).trans h1, h2, h3, h4⟩, hm, hs⟩
theorem MapIs.lt (h : MapIs P k enc es b w) : b < w.heap.size := by obtain ⟨D, h, _⟩ := h; exact h.lt
theorem below_grownBy {B : Nat} {a : World} {row : Option Nat} (h : w.grownBy w' row) (hrow : ∀ b, row = some b → B ≤ b) (hB : B ≤ w.heap.size) (hb : Below B a w) : Below B a w' :=
  hb.trans ⟨h.os, h.tape, h.output, h.size, fun k hk => h.block k (by omega) (fun hh => by have := hrow k hh.symm; omega)⟩
theorem wpList_put {ops : Array Oper} {rest : List Oper} {o : Oper} {a : Act} {Q : Exit → Act → World → Prop} (hg : o.guard = none) (m x v : Operand) (hop : o.op = Op.mapUpdate t m x v) (hk : P.underlying k = some .string) (ht : P.underlying t = some (.map k e))
    (hm : a.eval m = .map (some b)) (h : MapIs P k enc es b w) (hn : es.length < maxLen) (s : List UInt8) (y : α) (hx : a.eval x = .string ⟨s.toArray⟩) (hv : a.eval v = enc y) (hs : s.length ≤ maxLen) (hnew : es.lookup s = none)
    (hK : ∀ w', MapIs P k enc (es ++ [(s, y)]) b w' → w.grownBy w' (some b) → wpList P ops Q rest (a.put o.dst undef) w') : wpList P ops Q (o :: rest) a w := by
  obtain ⟨D, hown, hmap, hall⟩ := h
  refine wpList_mapUpdate_own w hg m x v t hop k e (Maps.string_keyed hk) ht RV b es.length D hm hown hn _ _ (.string s) hx hv (key_string hk hs) (.held (enc y)) [] rfl fun w' h1 h2 => hK w' ⟨_, by simpa using h1, hmap.put _ _, fun s' => ?_⟩ h2
  rw [List.lookup_append]
  by_cases hss : s' = s
  · subst hss
    rw [hnew]
    refine ⟨fun z => ?_, ?_⟩
    · rw [Maps.atKey_put_same hmap (show WideAt.IsKeyLit (.string s') from trivial)]; simp
    · rw [Maps.has_put_same hmap (show WideAt.IsKeyLit (.string s') from trivial)]; simp
  · have hne : Lit.string s' ≠ Lit.string s := fun h => hss (by cases h; rfl)
    have hl : List.lookup s' [(s, y)] = none := by simp [List.lookup, beq_eq_false_iff_ne.2 hss]
    rw [hl, Option.or_none]
    exact ⟨fun z => by rw [Maps.atKey_put_other hne]; exact (hall s').1 z, by rw [Maps.has_put_other hne]; exact (hall s').2⟩
theorem wpList_look {ops : Array Oper} {rest : List Oper} {o : Oper} {a : Act} {Q : Exit → Act → World → Prop} (hg : o.guard = none) (m x : Operand) (hop : o.op = Op.lookup t m x true) (hk : P.underlying k = some .string) (ht : P.underlying t = some (.map k e))
    {z : Value} (hz : (zeroValue e).run P w = .ok z w) (hm : a.eval m = .map (some b)) (h : MapIs P k enc es b w) (s : List UInt8) (hx : a.eval x = .string ⟨s.toArray⟩) (hs : s.length ≤ maxLen)
    (hK : wpList P ops Q rest (a.put o.dst (.tuple #[(match es.lookup s with | some y => enc y | none => z), .bool (es.lookup s).isSome])) w) : wpList P ops Q (o :: rest) a w := by
  obtain ⟨D, hown, hmap, hall⟩ := h
  refine wpList_lookup_own_ok w hg m x t hop k e (Maps.string_keyed hk) ht RV hz (.held z) [] rfl b es.length D hm hown _ (.string s) hx (key_string hk hs) fun v ps hv => ?_
  simp only [RV, Option.some.injEq, Prod.mk.injEq] at hv
  rw [(hall s).1] at hv
  have : v = (match es.lookup s with | some y => enc y | none => z) := by
    have := hv.1
    cases hl : es.lookup s <;> rw [hl] at this <;> cases this <;> rfl
  rw [this, (hall s).2]
  exact hK
/-- the map while it is ranged over -/
def RangeIs (P : Program) (k : TypeId) (enc : α → Value) (es : List (List UInt8 × α)) (b r : Nat) (w : World) (left : Lit → Bool) (cnt : Nat) : Prop :=
  ∃ D, w.ranges P k RV b r es.length D left cnt ∧ Maps.IsMap D ∧ (∀ s : List UInt8, (∀ z, D.atKey (.string s) z = match es.lookup s with | some x => .held (enc x) | none => z) ∧ Maps.has D (.string s) = (es.lookup s).isSome) ∧ ∀ kl, left kl = true → Maps.has D kl = true
theorem wpList_range_k {ops : Array Oper} {rest : List Oper} {o : Oper} {a : Act} {Q : Exit → Act → World → Prop} (hg : o.guard = none) (m : Operand) (hop : o.op = Op.range t m) (hk : P.underlying k = some .string) (ht : P.underlying t = some (.map k e))
    (hm : a.eval m = .map (some b)) (h : MapIs P k enc es b w)
    (hK : ∀ w' left cnt, RangeIs P k enc es b w.heap.size w' left cnt → (∀ s : List UInt8, left (.string s) = (es.lookup s).isSome) → w.grownBy w' none → w'.heap.size = w.heap.size + 1 → wpList P ops Q rest (a.put o.dst (.pointer (some ⟨w.heap.size, 0, none⟩))) w') :
    wpList P ops Q (o :: rest) a w := by
  obtain ⟨D, hown, hmap, hall⟩ := h
  exact wpList_range_own w hg m t hop k e (Maps.string_keyed hk) ht RV b es.length D hm hown fun w' h1 h2 h3 => hK w' _ _ ⟨D, h1, hmap, hall, fun kl h => h⟩ (fun s => (hall s).2) h2 h3
theorem key_inv (hk : P.underlying k = some .string) (key : Value) (kl : Lit) (h : keyOf P k key = some kl) : ∃ s : List UInt8, key = .string ⟨s.toArray⟩ ∧ kl = .string s := by
  simp only [keyOf, mapKey, hk] at h
  cases key <;> simp at h
  rename_i s
  exact ⟨s.data.toList, by rw [Lib.mk_data], h.2.symm⟩
theorem wpList_next_k {ops : Array Oper} {rest : List Oper} {o : Oper} {a : Act} {Q : Exit → Act → World → Prop} (hg : o.guard = none) (it : Operand) (hop : o.op = Op.next it false) (hk : P.underlying k = some .string) (r : Nat) (left : Lit → Bool) (cnt : Nat)
    (hit : a.eval it = .pointer (some ⟨r, 0, none⟩)) (h : RangeIs P k enc es b r w left cnt)
    (hDone : (∀ s : List UInt8, left (.string s) = false) → wpList P ops Q rest (a.put o.dst (.tuple #[.bool false])) w)
    (hMore : ∀ (s : List UInt8) (y : α) (w' : World) (cnt' : Nat), left (.string s) = true → es.lookup s = some y → RangeIs P k enc es b r w' (fun z => left z && !z.sameKey (.string s)) cnt' → cnt' < cnt → w.grownBy w' (some r) → w'.heap.size = w.heap.size →
      (Instr.entry (.pointer (some ⟨r, 0, none⟩))).run P w' = .ok (.tuple #[.string ⟨s.toArray⟩, enc y]) w' → wpList P ops Q rest (a.put o.dst (.tuple #[.bool true, .string ⟨s.toArray⟩, enc y])) w') :
    wpList P ops Q (o :: rest) a w := by
  obtain ⟨D, hr, hmap, hall, hleft⟩ := h
  refine wpList_next_ranges (α := List UInt8) (β := Value) w hg it hop k (Maps.string_keyed hk) RV (fun s => .string ⟨s.toArray⟩) id (fun key kl h => by obtain ⟨s, h1, _⟩ := key_inv hk key kl h; exact ⟨s, h1⟩) (fun v y _ => ⟨v, rfl⟩) b r es.length D left cnt hit hr
    (fun _ h0 => hDone fun s => h0 _) fun s c kl y w' cnt' hkey hl hv hat hrg hlt hgr hsz hen => ?_
  obtain ⟨s', h1, rfl⟩ := key_inv hk _ _ hkey
  obtain rfl : s' = s := by
    have h2 : (⟨s.toArray⟩ : ByteArray) = ⟨s'.toArray⟩ := by injection h1
    have h3 : s.toArray = s'.toArray := by injection h2
    simpa using h3.symm
  have hh := hleft _ hl
  rw [(hall s').2] at hh
  obtain ⟨x, hx⟩ := Option.isSome_iff_exists.1 hh
  have hc : c = enc x := by
    have h2 := hat (.held c)
    rw [(hall s').1, hx] at h2
    simp only [RV, id, Option.some.injEq] at hv
    rw [← hv] at h2
    simp only [DataW.held.injEq] at h2
    exact h2.symm
  subst hc
  exact hMore s' x w' cnt' hl hx ⟨D, hrg, hmap, hall, fun kl h => hleft kl (by simp at h; exact h.1)⟩ hlt hgr hsz hen
end
end Go.Proofs.YtlldlkjngcgcjaaGreatDoor
namespace Go.Proofs.YtlldlkjngcgcjaaGreatDoor
set_option linter.unusedVariables false
set_option linter.unusedSimpArgs false
open Go.RowKit
theorem wf64 {x : Int} (h : I6 x) : (Lit.int .i64 x).wf = true := by
  obtain ⟨h1, h2⟩ := h
  have e1 : IntKind.i64.min = -9223372036854775808 := by decide
  have e2 : IntKind.i64.max = 9223372036854775807 := by decide
  simp only [Lit.wf, Bool.and_eq_true, decide_eq_true_eq, e1, e2]
  omega
abbrev kyV (x : Int × Int) : Value := .agg #[.int .i64 x.1, .int .i64 x.2]
def kyL (x : Int × Int) : Lit := .string (keyBytes [.int .i64 x.1, .int .i64 x.2])
def kyO (x : Int × Int) : Prop := (Lit.int .i64 x.1).wf = true ∧ (Lit.int .i64 x.2).wf = true
theorem laidOutX : laidOutB Tryz.prog = true := by kernel_rfl
theorem key_kt : Tryz.prog.keyType 143 = true := by kernel_rfl
theorem key_cells : Tryz.prog.cellsOf 143 = 2 := by kernel_rfl
theorem int_cells : Tryz.prog.cellsOf 3 = 1 := by kernel_rfl
theorem types_sz : Tryz.prog.types.size = (Tryz.prog.types.size - 2) + 2 := by kernel_rfl
theorem keyOf_key {a b : Int} (wa : (Lit.int .i64 a).wf = true) (wb : (Lit.int .i64 b).wf = true) : keyOf Tryz.prog 143 (.agg #[.int .i64 a, .int .i64 b]) = some (.string (keyBytes [.int .i64 a, .int .i64 b])) := by
  have hm := types_sz
  generalize Tryz.prog.types.size - 2 = m at hm
  unfold keyOf
  simp only [Tryz.underlying143]
  rw [if_pos (by simp [key_kt, Value.formed, Tryz.underlying143, key_cells]), hm]
  unfold Program.keyLits
  simp only [Tryz.underlying143, Value.cells]
  rw [if_pos ⟨by rw [key_cells]; rfl, by simp⟩]
  simp [Program.keyLits, Tryz.underlying3, int_cells, wa, wb]
theorem ky_key : Mg.Ky Tryz.prog 143 kyV kyL kyO where
  law := Maps.Keyed.of_law (deep_law_laid laidOutX (m := 2) (by omega) (of_decide_eq_true (by kernel_rfl)) (by kernel_rfl) (by rw [Tryz.underlying143]))
  key := fun x hx => keyOf_key hx.1 hx.2
  inj := fun x y h => by
    simp only [kyV, Value.agg.injEq] at h
    have h1 : ([Value.int .i64 x.1, .int .i64 x.2] : List Value) = [.int .i64 y.1, .int .i64 y.2] := by simpa using h
    simp only [List.cons.injEq, Value.int.injEq, true_and, and_true] at h1
    exact Prod.ext h1.1 h1.2
def idV (i : Nat) : Value := .int .i64 i
def inV (x : Int) : Value := .int .i64 x
/-- what counts at a time, in memory -/
structure Mom (l : List Tw.St) (c : List (Int × Int)) (t : Int) (b1 b2 : Nat) (w : World) : Prop where
  st : Mg.Mp Tryz.prog 143 kyL kyO idV (fun x => Tw.find l x.1 x.2 t) b1 l.length w
  cd : Mg.Mp Tryz.prog 3 (fun x => .int .i64 x) Mg.okI inV (Tw.condF c) b2 c.length w
theorem Mom.call {l : List Tw.St} {c : List (Int × Int)} {t : Int} {b1 b2 : Nat} {w w' : World} (h : Mom l c t b1 b2 w) (hb : Below w.heap.size w w') : Mom l c t b1 b2 w' := ⟨h.st.below hb h.st.lt, h.cd.below hb h.cd.lt⟩
theorem Mom.below {B : Nat} {l : List Tw.St} {c : List (Int × Int)} {t : Int} {b1 b2 : Nat} {w w' : World} (h : Mom l c t b1 b2 w) (hb : Below B w w') (h1 : b1 < B) (h2 : b2 < B) : Mom l c t b1 b2 w' := ⟨h.st.below hb h1, h.cd.below hb h2⟩
theorem Mom.lt {l : List Tw.St} {c : List (Int × Int)} {t : Int} {b1 b2 : Nat} {w : World} (h : Mom l c t b1 b2 w) : b1 < w.heap.size ∧ b2 < w.heap.size := ⟨h.st.lt, h.cd.lt⟩
end Go.Proofs.YtlldlkjngcgcjaaGreatDoor
namespace Go.Proofs.YtlldlkjngcgcjaaGreatDoor
set_option linter.unusedVariables false
set_option linter.unusedSimpArgs false
open Go.RowKit
theorem Mg.Mp.set {κ α : Type} [DecidableEq κ] {P : Program} {k : TypeId} {kl : κ → Lit} {ok : κ → Prop} {enc : α → Value} {F : κ → Option α} {b n : Nat} {w : World} (h : Mg.Mp P k kl ok enc F b n w) {p : Addr} (hp : b ≠ p.block) (u : Value) : Mg.Mp P k kl ok enc F b n (w.setCell p u) := by
  obtain ⟨D, ⟨ent, clock, h1, h2, h3, h4⟩, hm, hs⟩ := h
  exact ⟨D, ⟨ent, clock, (Below.heap_setCell w p u b hp).trans h1, h2, h3, h4⟩, hm, hs⟩
theorem results_M {fn : Func} {t : Tmp} {g : Nat} {a b c : Value} (h : fn.results = #[.cell t 95]) (tmps : Array Value) (w : World) (ht : tmps.getD t undef = .pointer (some ⟨g, 0, none⟩)) (hB : Bx w g 95 #[a, b, c]) :
    (results fn tmps).run Tryz.prog w = .ok (.agg #[a, b, c]) w := by
  have h0 := hB.cell 0 rfl
  have h1 := hB.cell 1 rfl
  have h2 := hB.cell 2 rfl
  have ht' : tmps[t]?.getD undef = .pointer (some ⟨g, 0, none⟩) := by simpa using ht
  simp only [results, h]
  simp [go_sem, ht', h0, h1, h2, loadVar]
set_option maxRecDepth 100000 in
set_option maxHeartbeats 8000000 in
theorem at_any (l : List Tw.St) (A : Option Addr) (cap : Nat) (c : List (Int × Int)) (C : Option Addr) (ccap : Nat) (t : Int) (w : World) (hv : Tw.Va l) (hc : Tw.Vc c) (hA : At 5 stC w w.heap.size A l) (hn : l.length ≤ cap) (hC : At 2 cdC w w.heap.size C c) (hcn : c.length ≤ ccap) (hc40 : c.length ≤ 40) :
    Calls Tryz.prog 46 #[.slice A l.length cap, .slice C c.length ccap, .int .i64 t] w fun e w' => ∃ b1 b2, e = .returned (.agg #[.slice A l.length cap, .map (some b1), .map (some b2)]) ∧ Below w.heap.size w w' ∧ Mom l c t b1 b2 w' := by
  have hl40 := hv.len
  have hmk1 := fun w0 => run_makeMap (P := Tryz.prog) 92 w0
  have hmk2 := fun w0 => run_makeMap (P := Tryz.prog) 93 w0
  have hmapK : Tryz.prog.underlying 92 = some (.map 143 3) := Tryz.underlying92
  have hmapI : Tryz.prog.underlying 93 = some (.map 3 3) := Tryz.underlying93
  go_enter Tryz.func46, Tryz.ntmps46
  go_wp2
  have z0 := bNew (bNew (bNew (bNx w (.cells #[.slice none 0 0, .map none, .map none] 95)) (.map #[] 0)) (.map #[] 0)) (.cells #[.slice A l.length cap, .map (some (w.heap.size + 1)), .map (some (w.heap.size + 1 + 1))] 95)
  have BR := (((Bx.mk w 95 #[.slice none 0 0, .map none, .map none]).new (.map #[] 0)).new (.map #[] 0)).new (.cells #[.slice A l.length cap, .map (some (w.heap.size + 1)), .map (some (w.heap.size + 1 + 1))] 95)
  have BM := Bx.mk (((w.alloc (.cells #[.slice none 0 0, .map none, .map none] 95)).alloc (.map #[] 0)).alloc (.map #[] 0)) 95 #[.slice A l.length cap, .map (some (w.heap.size + 1)), .map (some (w.heap.size + 1 + 1))]
  have M1 := ((Mg.Mp.made (P := Tryz.prog) (k := 143) (kl := kyL) (ok := kyO) (enc := idV) (w.alloc (.cells #[.slice none 0 0, .map none, .map none] 95))).below (bNx _ (.map #[] 0)) (by simp)).below (bNx _ (.cells #[.slice A l.length cap, .map (some (w.heap.size + 1)), .map (some (w.heap.size + 1 + 1))] 95)) (by simp)
  have M2 := (Mg.Mp.made (P := Tryz.prog) (k := 3) (kl := fun x : Int => Lit.int .i64 x) (ok := Mg.okI) (enc := inV) ((w.alloc (.cells #[.slice none 0 0, .map none, .map none] 95)).alloc (.map #[] 0))).below (bNx _ (.cells #[.slice A l.length cap, .map (some (w.heap.size + 1)), .map (some (w.heap.size + 1 + 1))] 95)) (by simp)
  simp only [World.size_alloc] at BM M1 M2
  clear hmk1 hmk2
  generalize (((w.alloc (.cells #[.slice none 0 0, .map none, .map none] 95)).alloc (.map #[] 0)).alloc (.map #[] 0)).alloc (.cells #[.slice A l.length cap, .map (some (w.heap.size + 1)), .map (some (w.heap.size + 1 + 1))] 95) = w4 at *
  obtain ⟨g, hg⟩ := exKx w.heap.size
  simp only [hg.out] at z0 BR BM M1 M2 ⊢
  go_loopw [18] (fun s18 wr => ∃ k : Nat, k ≤ l.length ∧ s18 = .int .i64 k ∧ Below g w wr ∧ Bx wr g 95 #[.slice none 0 0, .map none, .map none] ∧ Bx wr (g + 1 + 1 + 1) 95 #[.slice A l.length cap, .map (some (g + 1)), .map (some (g + 1 + 1))] ∧
    Mg.Mp Tryz.prog 143 kyL kyO idV (fun x => Tw.find (l.take k) x.1 x.2 t) (g + 1) k wr ∧ Mg.Mp Tryz.prog 3 (fun x : Int => Lit.int .i64 x) Mg.okI inV (fun _ => none) (g + 1 + 1) 0 wr) (fun s18 _ => l.length - (intOf s18).toNat)
  case atStart => exact ⟨0, Nat.zero_le _, rfl, z0, BR, BM, M1.ext fun x _ => by simp [Tw.find], M2⟩
  case round =>
    clear z0 BR BM M1 M2
    obtain ⟨k, hk, rfl, hb, BR, BM, M1, M2⟩ := hrel
    by_cases hlt : k < l.length
    · obtain ⟨b, off, rfl, hbB, hcell⟩ := hA.run (Nat.le_refl _) hlt
      rw [hg.out] at hcell
      have hcl0 := hcell wr hb 0 _ rfl
      have hcl1 := hcell wr hb 1 _ rfl
      have hcl2 := hcell wr hb 2 _ rfl
      have hcl3 := hcell wr hb 3 _ rfl
      have hcl4 := hcell wr hb 4 _ rfl
      simp only [Nat.add_zero] at hcl0
      have hfm := hv.fm l[k] (List.getElem_mem hlt)
      obtain ⟨n0, n2, t0', t2', ne, k1, k4, f0, fe, e2⟩ := hfm
      have hyes : Kp (l[k].has t = true → ∀ x : Int × Int, Mg.upd (fun x : Int × Int => Tw.find (l.take k) x.1 x.2 t) (l[k].n, l[k].k) k x = Tw.find (l.take (k + 1)) x.1 x.2 t) := ⟨fun h x => by
        rw [Tw.find_take_hit hv hlt h]
        unfold Mg.upd
        by_cases e : x = (l[k].n, l[k].k)
        · rw [if_pos e, if_pos (by rw [e]; exact ⟨rfl, rfl⟩)]
        · rw [if_neg e, if_neg (fun h => e (Prod.ext h.1 h.2))]⟩
      have hno : Kp (l[k].has t = false → ∀ x : Int × Int, Tw.find (l.take k) x.1 x.2 t = Tw.find (l.take (k + 1)) x.1 x.2 t) := ⟨fun h x => (Tw.find_take_no hlt h _ _).symm⟩
      have hH := wHas_any l[k].f l[k].e t
      have hhas : (decide (l[k].f ≤ t) && decide (t < l[k].e)) = l[k].has t := rfl
      rw [hhas] at hH
      clear hcell hhas ne hA hC
      generalize l[k].has t = bh at *
      generalize l[k] = s at *
      obtain ⟨n, kk, to, f, e⟩ := s
      dsimp only at hcl0 hcl1 hcl2 hcl3 hcl4 hH hyes n0 n2 k1 k4
      have hbn := bNx wr (.cells #[.int .i64 n, .int .i64 kk, .int .i64 to, .int .i64 f, .int .i64 e] 33)
      have B := Bx.mk wr 33 #[.int .i64 n, .int .i64 kk, .int .i64 to, .int .i64 f, .int .i64 e]
      replace BR := BR.call hbn
      replace BM := BM.call hbn
      replace M1 := M1.below hbn M1.lt
      replace M2 := M2.below hbn M2.lt
      have hgr : g ≤ wr.heap.size := by have := hb.size; have := hg.out; omega
      replace hb := hb.trans (hbn.mono hgr)
      have c3 := B.cell 3 rfl
      have c4 := B.cell 4 rfl
      go_wp2_with fail
      refine (hH _).mono ?_
      rintro _ w1 ⟨rfl, hb1⟩
      clear c3 c4 hcl0 hcl1 hcl2 hcl3 hcl4 hH hbn
      replace B := B.call hb1
      replace BR := BR.call hb1
      replace BM := BM.call hb1
      replace M1 := M1.below hb1 M1.lt
      replace M2 := M2.below hb1 M2.lt
      replace hb := hb.trans (hb1.mono (by have := B.lt; have := hb1.size; have := hb.size; have := hg.out; omega))
      clear hb1
      cases bh
      · have hno' : Kp (∀ x : Int × Int, Tw.find (l.take k) x.1 x.2 t = Tw.find (l.take (k + 1)) x.1 x.2 t) := ⟨by first | exact hno.out rfl | exact hno.out trivial⟩
        clear hyes hno
        go_wp2
        exact ⟨⟨k + 1, by omega, by go_num, hb, BR, BM, (M1.mono (by omega)).ext fun x _ => hno'.out x, M2⟩, by simp [intOf]; omega⟩
      · have hyes' : Kp (∀ x : Int × Int, Mg.upd (fun x : Int × Int => Tw.find (l.take k) x.1 x.2 t) (n, kk) k x = Tw.find (l.take (k + 1)) x.1 x.2 t) := ⟨by first | exact hyes.out rfl | exact hyes.out trivial⟩
        clear hyes hno
        have c0 := B.cell 0 rfl
        have c1 := B.cell 1 rfl
        have m1 := BM.cell 1 rfl
        go_wp2_with (at_mapUpdate; refine Mg.wpList_put rfl (.tmp 28) (.tmp 33) (.tmp 34) rfl ky_key hmapK rfl M1 (by unfold maxLen; omega) (n, kk) k rfl rfl ⟨wf64 ⟨by omega, by omega⟩, wf64 ⟨by omega, by omega⟩⟩ ?_; intro w5 hM5 hg5)
        clear c0 c1 m1
        have BR5 := (hg5.block g BR.lt (by intro h; injection h with h; omega)).trans BR
        have BM5 := (hg5.block (g + 1 + 1 + 1) BM.lt (by intro h; injection h with h; omega)).trans BM
        have M25 := M2.kept hg5 (by intro h; injection h with h; omega)
        have hb5 : Below g w w5 := below_grownBy hg5 (fun b h => by injection h with h; omega) (by have := BR.lt; omega) hb
        exact ⟨⟨k + 1, by omega, by go_num, hb5, BR5, BM5, hM5.ext fun x _ => hyes'.out x, M25⟩, by simp [intOf]; omega⟩
    · obtain rfl : k = l.length := by omega
      rw [List.take_length] at M1
      clear hA
      go_wp2
      go_loopw [38] (fun s38 wr => ∃ k : Nat, k ≤ c.length ∧ s38 = .int .i64 k ∧ Below g w wr ∧ Bx wr g 95 #[.slice none 0 0, .map none, .map none] ∧ Bx wr (g + 1 + 1 + 1) 95 #[.slice A l.length cap, .map (some (g + 1)), .map (some (g + 1 + 1))] ∧
        Mg.Mp Tryz.prog 143 kyL kyO idV (fun x => Tw.find l x.1 x.2 t) (g + 1) l.length wr ∧ Mg.Mp Tryz.prog 3 (fun x : Int => Lit.int .i64 x) Mg.okI inV (Tw.condF (c.take k)) (g + 1 + 1) k wr) (fun s38 _ => c.length - (intOf s38).toNat)
      case atStart => exact ⟨0, Nat.zero_le _, rfl, hb, BR, BM, M1, M2.ext fun x _ => by simp [Tw.condF]⟩
      case round =>
        clear hb BR BM M1 M2
        obtain ⟨k, hk, rfl, hb, BR, BM, M1, M2⟩ := hrel
        by_cases hlt : k < c.length
        · obtain ⟨b, off, rfl, hbB, hcell⟩ := hC.run (Nat.le_refl _) hlt
          rw [hg.out] at hcell
          have hcl0 := hcell wr hb 0 _ rfl
          have hcl1 := hcell wr hb 1 _ rfl
          simp only [Nat.add_zero] at hcl0
          obtain ⟨n0, n2, k2, k4⟩ := hc.fm c[k] (List.getElem_mem hlt)
          have hyes : Kp (∀ x : Int, Mg.upd (Tw.condF (c.take k)) c[k].1 c[k].2 x = Tw.condF (c.take (k + 1)) x) := ⟨fun x => by
            rw [Tw.condF_take hc hlt]
            rfl⟩
          clear hcell hC
          generalize c[k] = s at *
          obtain ⟨n, kk⟩ := s
          dsimp only at hcl0 hcl1 hyes n0 n2 k2 k4
          have hbn := bNx wr (.cells #[.int .i64 n, .int .i64 kk] 54)
          have B := Bx.mk wr 54 #[.int .i64 n, .int .i64 kk]
          replace BR := BR.call hbn
          replace BM := BM.call hbn
          replace M1 := M1.below hbn M1.lt
          replace M2 := M2.below hbn M2.lt
          replace hb := hb.trans (hbn.mono (by have := BR.lt; rw [World.size_alloc] at this; omega))
          have c0 := B.cell 0 rfl
          have c1 := B.cell 1 rfl
          have m2 := BM.cell 2 rfl
          go_wp2_with (at_mapUpdate; refine Mg.wpList_put rfl (.tmp 43) (.tmp 45) (.tmp 47) rfl (Mg.ky_int (P := Tryz.prog) Tryz.underlying3) hmapI rfl M2 (by unfold maxLen; omega) n kk rfl rfl (wf64 ⟨by omega, by omega⟩) ?_; intro w5 hM5 hg5)
          clear c0 c1 m2 hcl0 hcl1
          have BR5 := (hg5.block g BR.lt (by intro h; injection h with h; omega)).trans BR
          have BM5 := (hg5.block (g + 1 + 1 + 1) BM.lt (by intro h; injection h with h; omega)).trans BM
          have M15 := M1.kept hg5 (by intro h; injection h with h; omega)
          have hb5 : Below g w w5 := below_grownBy hg5 (fun b h => by injection h with h; omega) (by have := BR.lt; omega) hb
          exact ⟨⟨k + 1, by omega, by go_num, hb5, BR5, BM5, M15, hM5.ext fun x _ => hyes.out x⟩, by simp [intOf]; omega⟩
        · obtain rfl : k = c.length := by omega
          rw [List.take_length] at M2
          clear hC
          have m0 := BM.cell 0 rfl
          have m1 := BM.cell 1 rfl
          have m2 := BM.cell 2 rfl
          have r0 := BR.frozen 0
          have r1 := BR.frozen 1
          have r2 := BR.frozen 2
          have q0 := BR.cell 0 rfl
          have q1 := BR.cell 1 rfl
          have q2 := BR.cell 2 rfl
          go_wp2
          have hb3 : Below w.heap.size w (((wr.setCell ⟨g, 0, none⟩ (.slice A l.length cap)).setCell ⟨g, 1, none⟩ (.map (some (g + 1)))).setCell ⟨g, 2, none⟩ (.map (some (g + 1 + 1)))) := by
            rw [hg.out]
            exact ((hb.setCell (p := ⟨g, 0, none⟩) (Nat.le_refl g) _).setCell (p := ⟨g, 1, none⟩) (Nat.le_refl g) _).setCell (p := ⟨g, 2, none⟩) (Nat.le_refl g) _
          exact bodyPost_ret (results_M rfl _ _ rfl (((BR.set 0 (.slice A l.length cap)).set 1 (.map (some (g + 1)))).set 2 (.map (some (g + 1 + 1))))) rfl
            ⟨g + 1, g + 1 + 1, rfl, hb3, (((M1.set (p := ⟨g, 0, none⟩) (by show g + 1 ≠ g; omega) _).set (p := ⟨g, 1, none⟩) (by show g + 1 ≠ g; omega) _).set (p := ⟨g, 2, none⟩) (by show g + 1 ≠ g; omega) _),
              (((M2.set (p := ⟨g, 0, none⟩) (by show g + 1 + 1 ≠ g; omega) _).set (p := ⟨g, 1, none⟩) (by show g + 1 + 1 ≠ g; omega) _).set (p := ⟨g, 2, none⟩) (by show g + 1 + 1 ≠ g; omega) _)⟩
end Go.Proofs.YtlldlkjngcgcjaaGreatDoor
namespace Go.Proofs.YtlldlkjngcgcjaaGreatDoor
set_option linter.unusedVariables false
set_option linter.unusedSimpArgs false
open Go.RowKit
section
variable {P : Program} {ops : Array Oper}
theorem operIn_of {o : Oper} {a : Act} {w : World} {K : Act → World → Prop} {Q : Exit → Act → World → Prop} {l m : Nat} (hnd : ∀ c, o.op ≠ .defer c) (h : o.wp P a w K Q) : o.wpIn (Fence.wide.inRound l) m P a w K Q := by
  refine ⟨fun _ _ => trivial, ?_⟩
  rw [Oper.semAt_plain _ _ _ hnd]
  unfold Oper.wp at h
  generalize (execOp a.eval o).run P w = r at h ⊢
  cases r with
  | ok x w' =>
    cases x <;> simp only [Oper.upon, Oper.uponIn] at h ⊢
    case enter f args => exact ⟨(fun h => by cases h), (callsIn_wide.2 h).inRound l⟩
    case row => exact ⟨(fun h => by cases h), fun c cs _ => by
      obtain ⟨v, w'', h1, h2⟩ := h c cs
      exact ⟨v, w'', h1, stepsIn_wide.2 h2⟩⟩
    all_goals first | exact h | exact h.elim
  | halt x w' => cases x <;> simp only [Oper.upon, Oper.uponIn] at h ⊢ <;> first | exact h | exact h.elim
def noDefer (ops : Array Oper) : Bool := ops.all fun o => match o.op with | .defer _ => false | _ => true
theorem noDefer_spec (h : noDefer ops = true) {i : Nat} {o : Oper} (ho : ops[i]? = some o) : ∀ c, o.op ≠ .defer c := by
  intro c hc
  unfold noDefer at h
  rw [Array.all_eq_true'] at h
  have := h o (Array.mem_of_getElem? ho)
  rw [hc] at this
  cases this
theorem wpOpIn_of {Q : Exit → Act → World → Prop} {i l m : Nat} {K : Act → World → Prop} {a : Act} {w : World} (hd : noDefer ops = true) (hq : ¬ LetsOut Q) (h : wpOp P ops Q i K a w) : wpOpIn (Fence.wide.inRound l) m P ops Q i K a w := by
  unfold wpOp at h
  unfold wpOpIn
  cases ho : ops[i]? with
  | none => rw [ho] at h; exact h
  | some o =>
    rw [ho] at h
    simp only at h ⊢
    split at h
    · rw [if_pos (by assumption)]
      rcases h with h | ⟨_, h⟩
      · exact operIn_of (noDefer_spec hd ho) h
      · exact absurd h hq
    · rw [if_neg (by assumption)]
      exact ⟨fun _ _ => trivial, h⟩
theorem wpAnyIn_of {Q : Exit → Act → World → Prop} {md : Region.Mode} {l m : Nat} (hd : noDefer ops = true) (hq : ¬ LetsOut Q) : ∀ (f : Nat) (listed : Array Bool) (a : Act) (w : World), wpAny P md ops Q f listed a w → wpAnyIn (Fence.wide.inRound l) m P md ops Q f listed a w
  | 0, _, _, _, h => h
  | f + 1, listed, a, w, h => ⟨h.1, fun i hi => wpOpIn_mono (fun a w h => wpAnyIn_of hd hq f _ a w h) (wpOpIn_of hd hq (h.2 i hi))⟩
theorem operIn_mono {o : Oper} {a : Act} {w : World} {K K' : Act → World → Prop} {Q Q' : Exit → Act → World → Prop} {l m : Nat} (hnd : ∀ c, o.op ≠ .defer c) (hq : ∀ e a w, Q e a w → Q' e a w) (hlo : ¬ LetsOut Q) (hK : ∀ a w, K a w → K' a w) (h : o.wp P a w K Q) : o.wpIn (Fence.wide.inRound l) m P a w K' Q' := by
  refine ⟨fun _ _ => trivial, ?_⟩
  rw [Oper.semAt_plain _ _ _ hnd]
  unfold Oper.wp at h
  generalize (execOp a.eval o).run P w = r at h ⊢
  cases r with
  | ok x w' =>
    cases x <;> simp only [Oper.upon, Oper.uponIn] at h ⊢
    case enter f args => exact ⟨(fun h => by cases h), ((callsIn_wide.2 h).inRound l).mono (fun e w'' he => by cases e <;> first | exact hK _ _ he | exact hq _ _ _ he | exact absurd he hlo)⟩
    case row => exact ⟨(fun h => by cases h), fun c cs _ => by
      obtain ⟨v, w'', h1, h2⟩ := h c cs
      exact ⟨v, w'', hK _ _ h1, stepsIn_wide.2 h2⟩⟩
    all_goals first | exact hK _ _ h | exact h.elim
  | halt x w' => cases x <;> simp only [Oper.upon, Oper.uponIn] at h ⊢ <;> first | exact hq _ _ _ h | exact h.elim
def noDeferL (l : List Oper) : Bool := l.all fun o => match o.op with | .defer _ => false | _ => true
theorem wpListIn_of {Q : Exit → Act → World → Prop} {k m : Nat} : ∀ (l : List Oper) (a : Act) (w : World), noDeferL l = true → wpList P ops (fun e a' w' => e = .normal ∧ Q .normal a' w') l a w → wpListIn (Fence.wide.inRound k) m P ops Q l a w
  | [], a, w, _, h => h.2
  | o :: l, a, w, hd, h => by
    simp only [noDeferL, List.all_cons, Bool.and_eq_true] at hd
    have hnd : ∀ c, o.op ≠ .defer c := by
      intro c hc
      rw [hc] at hd
      cases hd.1
    have hlo : ¬ LetsOut (fun e a' w' => e = .normal ∧ Q .normal a' w') := by rintro ⟨_, _, h, _⟩; cases h
    simp only [wpList, wpListIn] at h ⊢
    split at h
    · rw [if_pos (by assumption)]
      rcases h with h | ⟨_, h⟩
      · exact operIn_mono hnd (fun e a w ⟨he, h⟩ => he ▸ h) hlo (fun a w h => wpListIn_of l a w hd.2 h) h
      · exact absurd h hlo
    · rw [if_neg (by assumption)]
      exact ⟨fun _ _ => trivial, wpListIn_of l _ w hd.2 h⟩
/-- a region of a round that draws its order: a quiet head, a forced tail -/
theorem wpIn_region_below_tail {id l m : Nat} {os : List Oper} {a : Act} {w : World} {Q : Exit → Act → World → Prop} (n : Nat) (hm : P.follows .mixedOrders = true) (hB : Region.lexTailB .any os.toArray n = true) (hd : noDefer os.toArray = true)
    (h : wpQuiet P os.toArray (fun w' => ∃ p : Regrown, w' = Sort.grow (redrawn w p.d) p.os) (fun a' => ∀ w', (∃ p : Regrown, w' = Sort.grow (redrawn w p.d) p.os) → wpList P os.toArray (fun e a'' w'' => e = .normal ∧ Q .normal a'' w'') (os.drop n) a' w') (os.take n) a) :
    (Code.region id os.toArray true).wpIn (Fence.wide.inRound l) m P Q a w :=
  wpIn_mono (wpIn_region_any hm (wpAnyIn_of hd (by rintro ⟨_, _, h, _⟩; cases h) _ _ _ _ (any_below_tail n hB h))) (fun e a w ⟨he, h⟩ => he ▸ h)
/-- a region of a round that draws its order, its head by relations -/
theorem wpIn_region_rgl {id l m : Nat} {os : List Oper} {Q : Exit → Act → World → Prop} {a0 : Act} {w0 : World} (ps : List (Value → World → Prop)) (n sz : Nat) (hm : P.follows .mixedOrders = true) (hd : noDefer os.toArray = true) (hnp : ps.length = n) (hsz : a0.tmps.size = sz)
    (hB : (okRG os.toArray sz && looksB os.toArray n && (decide (os.length ≤ n) || (Region.sinkB .any os.toArray n && Region.chainB .any os.toArray n)) && decide (n ≤ os.length) && Region.seqB .any os.toArray (os.length - n) n ((List.range os.length).map fun i => decide (i < n)).toArray) = true)
    (hst : AllS ps) (hsteps : Users P ps w0 a0 [] (os.take n) ps)
    (hfin : ∀ vs w', Below w0.heap.size w0 w' → AllR vs w' 0 ps → wpList P os.toArray (fun e a'' w'' => e = .normal ∧ Q .normal a'' w'') (os.drop n) (putD vs 0 ((os.take n).map (·.dst)) a0) w') : (Code.region id os.toArray true).wpIn (Fence.wide.inRound l) m P Q a0 w0 :=
  wpIn_mono (wpIn_region_any hm (wpAnyIn_of hd (by rintro ⟨_, _, h, _⟩; cases h) _ _ _ _ (any_region_rgl ps n sz hnp hsz hB hst hsteps hfin))) (fun e a w ⟨he, h⟩ => he ▸ h)
end
end Go.Proofs.YtlldlkjngcgcjaaGreatDoor
namespace Go.Proofs.YtlldlkjngcgcjaaGreatDoor
set_option linter.unusedVariables false
open Go.RowKit
/-- what lies from B on is left alone -/
structure Fr (B : Nat) (W W' : World) : Prop where
  size : W.heap.size ≤ W'.heap.size
  keep : ∀ b o, B ≤ b → W.heap[b]? = some o → W'.heap[b]? = some o
theorem Fr.below {B : Nat} {W W' : World} (h : Below W.heap.size W W') : Fr B W W' := ⟨h.size, fun b o _ ho => (h.block b (Array.getElem?_eq_some_iff.1 ho).1).trans ho⟩
theorem Fr.trans {B : Nat} {X Y Z : World} (h : Fr B X Y) (k : Fr B Y Z) : Fr B X Z := ⟨Nat.le_trans h.size k.size, fun b o hb ho => k.keep b o hb (h.keep b o hb ho)⟩
theorem Fr.more {B B' : Nat} {X Y : World} (h : Fr B X Y) (hB : B ≤ B') : Fr B' X Y := ⟨h.size, fun b o hb ho => h.keep b o (Nat.le_trans hB hb) ho⟩
theorem Fr.put {B : Nat} {W : World} {l : Nat} (o : Obj) (hl : l < B) : Fr B W (W.putObj l o) := ⟨by simp, fun b o' hb ho => (World.putObj_heap_other (by omega)).trans ho⟩
/-- what speaks of the blocks below B alone -/
def Lo {α : Type} (B : Nat) (I : List α → World → Prop) : Prop := ∀ s X Y, I s X → Below B X Y → I s Y
theorem below_put {B l : Nat} {X : World} {o o' : Obj} (hl : B ≤ l) (h : X.heap[l]? = some o) : Below B X (X.putObj l o') :=
  ⟨rfl, rfl, rfl, by simp, fun k hk => World.putObj_heap_other (by omega)⟩
/-- the contract: from w0 on, called for whatever loop -/
def SeqC {α : Type} (n : Nat) (P : Program) (gf : Nat) (lb : Array Value) (encs : α → Array Value) (S : List α → Prop) (N : Nat) (w0 : World) : Prop :=
  ∀ (l : Nat) (J Jx : List α → World → Prop) (W : World), Below w0.heap.size w0 W → Lo W.heap.size J → Lo W.heap.size Jx → (∀ s X, J s X → Below w0.heap.size w0 X) →
    (∀ pre x X, J pre X → pre.length < N → YieldAt Fence.wide (n - 1) P l (encs x) X fun e Y => (e = .returned (.bool true) ∧ J (pre ++ [x]) Y ∧ Fr W.heap.size X Y) ∨ (e = .returned (.bool false) ∧ Jx (pre ++ [x]) Y)) →
    J [] W → CallsIn Fence.wide n P gf (#[.func (.yield l) #[] #[]] ++ lb) W fun e Y => (∃ v, e = .returned v) ∧ ((∃ xs, S xs ∧ J xs Y) ∨ ∃ pre, Jx pre Y)
/-- how a body ends -/
def bodyC {α : Type} (B : Nat) (I Ix : List α → World → Prop) (xs : List α) (W : World) : Exit → Act → World → Prop
  | .normal, _, Y => Fr B W Y ∧ I xs Y
  | .ret, _, Y => Fr B W Y ∧ Ix xs Y
  | _, _, _ => False
theorem wpIn_range_c {α : Type} {n : Nat} {P : Program} {g : Operand} {ps : Array Tmp} {assign body : Code} {Q : Exit → Act → World → Prop} {a : Act} {w w0 : World} (h1 : 1 ≤ n) {gf : Nat} {lb : Array Value} (hg : a.eval g = .func (.func gf) #[] lb)
    (eg : ∀ args w, (callFunc gf args).run P w = .ok (.enter gf args) w) {encs : α → Array Value} {S : List α → Prop} {N : Nat} (hseq : SeqC (n - 1) P gf lb encs S N w0) (hb0 : Below w0.heap.size w0 w) (hps : ∀ x, (encs x).size = ps.size)
    (I Ix : List α → World → Prop) (hI : Lo w.heap.size I) (hIx : Lo w.heap.size Ix) (hIw : ∀ s X, I s X → Below w0.heap.size w0 X) (hz : I [] w) (Ax : α → Act → World → Prop) (hAx : ∀ x a' X l o o', Ax x a' X → X.heap[l]? = some o → o.isCells = false → Ax x a' (X.putObj l o'))
    (hassign : ∀ (l : Nat) (x : α) (W : World) (K : Act → World → Prop), (∀ a' W', Below W.heap.size W W' → Ax x a' W' → K a' W') →
      assign.wpIn (Fence.wide.inRound l) (n - 1 - 1) P (Exit.then K (fun _ _ _ => False)) { tmps := (ps.zip (encs x)).foldl (fun t (p, v) => t.setIfInBounds p v) a.tmps, defers := [] } W)
    (hbody : ∀ (l : Nat) (pre : List α) (x : α) (a' : Act) (W : World), I pre W → Ax x a' W → pre.length < N → body.wpIn (Fence.wide.inRound l) (n - 1 - 1) P (bodyC w.heap.size I Ix (pre ++ [x]) W) a' W)
    (hdone : ∀ (D : Nat) (xs : List α) (W : World), w.heap.size ≤ D → S xs → I xs W → W.heap[D]? = some (.deferred (some [])) → Q .normal { a with defers := { target := .collected D, args := #[] } :: a.defers } W)
    (hstop : ∀ (D : Nat) (pre : List α) (W : World), w.heap.size ≤ D → Ix pre W → W.heap[D]? = some (.deferred (some [])) → Code.ret.wpIn Fence.wide n P Q { a with defers := { target := .collected D, args := #[] } :: a.defers } W) :
    (Code.rangeFunc g ps assign body).wpIn Fence.wide n P Q a w := by
  refine wpIn_rangeFunc fun fn hfn => ?_
  obtain ⟨mk, hmk⟩ : ∃ mk : LoopState → Option Code → Loop, mk = fun st pe => { state := st, pending := pe, fn := fn, tmps := a.tmps, params := ps, assign := assign, body := body, defers := w.heap.size } := ⟨_, rfl⟩
  obtain ⟨V, hV⟩ : ∃ V, V = (w.alloc (.deferred (some []))).alloc (.loop (mk .ready none)) := ⟨_, rfl⟩
  have hbV : Below w.heap.size w V := by rw [hV]; exact bNew (bNew (bStart w) _) _
  have hsV : V.heap.size = w.heap.size + 2 := by rw [hV, World.size_alloc, World.size_alloc]
  have hLV : V.heap[w.heap.size + 1]? = some (.loop (mk .ready none)) := by
    have h := World.alloc_heap_new (w.alloc (.deferred (some []))) (.loop (mk .ready none))
    rw [World.size_alloc] at h
    rw [hV]; exact h
  have hDV : V.heap[w.heap.size]? = some (.deferred (some [])) := by
    rw [hV]; exact (Below.heap_alloc _ _ _ (by rw [World.size_alloc]; omega)).trans (World.alloc_heap_new w _)
  refine ⟨w.heap.size + 1, [{ target := .collected w.heap.size, args := #[] }], V, { target := .fn (.func gf) lb, args := #[.func (.yield (w.heap.size + 1)) #[] #[]] }, V, gf, #[.func (.yield (w.heap.size + 1)) #[] #[]] ++ lb, V, ?_, ?_, fun _ _ => trivial, ?_, fun _ => h1, ?_⟩
  · rw [hV, hmk]; exact run_enterLoop_outer _ _ _ _ _
  · simp only [resolve, hg]
    simp [go_sem]
  · simp [invoke, go_sem, eg]
  -- the record and the block for deferred calls beside the caller's own word
  have two : ∀ (st : LoopState) (pe : Option Code) (X Y : World), X.heap[w.heap.size + 1]? = some (.loop (mk st pe)) ∧ X.heap[w.heap.size]? = some (.deferred (some [])) → Below V.heap.size X Y → Y.heap[w.heap.size + 1]? = some (.loop (mk st pe)) ∧ Y.heap[w.heap.size]? = some (.deferred (some [])) := fun st pe X Y h hb =>
    ⟨(hb.block _ (by omega)).trans h.1, (hb.block _ (by omega)).trans h.2⟩
  refine (hseq (w.heap.size + 1) (fun s X => I s X ∧ X.heap[w.heap.size + 1]? = some (.loop (mk .ready none)) ∧ X.heap[w.heap.size]? = some (.deferred (some [])))
    (fun s X => Ix s X ∧ X.heap[w.heap.size + 1]? = some (.loop (mk .done (some .ret))) ∧ X.heap[w.heap.size]? = some (.deferred (some []))) V (bCall hb0 hbV)
    (fun s X Y h hb => ⟨hI s X Y h.1 (hb.mono (by omega)), two _ _ X Y h.2 hb⟩) (fun s X Y h hb => ⟨hIx s X Y h.1 (hb.mono (by omega)), two _ _ X Y h.2 hb⟩) (fun s X h => hIw s X h.1) ?_ ⟨hI _ _ _ hz hbV, hLV, hDV⟩).mono ?_
  · intro pre x X hX hlen
    obtain ⟨hi, hl, hd⟩ := hX
    have hlt : w.heap.size + 1 < X.heap.size := (Array.getElem?_eq_some_iff.1 hl).1
    have hy := run_yield (P := P) (args := encs x) hl (by rw [hmk]; exact hps x)
    rw [hmk] at hy
    refine ⟨fn, _, assign, body, hy, roundIn_of_wpIn hfn (hassign _ x X _ fun a' X0 hb0 ha0 => ⟨_, run_beginRound ((hb0.block _ hlt).trans hl) (by rw [hmk]), ?_⟩)⟩
    have hf0 : Fr V.heap.size X X0 := Fr.below hb0
    have hsz0 := hb0.size
    replace hi := hI _ _ _ hi (hb0.mono (by omega))
    replace hl := (hb0.block _ hlt).trans hl
    replace hd := (hb0.block _ (show w.heap.size < X.heap.size by omega)).trans hd
    replace hlt : w.heap.size + 1 < X0.heap.size := by omega
    obtain ⟨X1, hX1⟩ : ∃ X1, X1 = X0.putObj (w.heap.size + 1) (.loop { mk .ready none with state := .busy }) := ⟨_, rfl⟩
    rw [← hX1]
    have hl1 : X1.heap[w.heap.size + 1]? = some (.loop { mk .ready none with state := .busy }) := by rw [hX1]; exact World.putObj_heap_same hlt
    have hd1 : X1.heap[w.heap.size]? = some (.deferred (some [])) := by rw [hX1]; exact (World.putObj_heap_other (by omega)).trans hd
    have hf1 : Fr V.heap.size X X1 := by rw [hX1]; exact hf0.trans (Fr.put _ (by omega))
    have ha1 : Ax x a' X1 := by rw [hX1]; exact hAx _ _ _ _ _ _ ha0 hl rfl
    have hi1 : I pre X1 := by rw [hX1]; exact hI _ _ _ hi (below_put (by omega) hl)
    refine wpIn_mono (hbody _ pre x a' X1 hi1 ha1 hlen) ?_
    have fin : ∀ (jump : Option Code) (Y : World), Fr w.heap.size X1 Y →
        ∃ Z, (Instr.endRound (w.heap.size + 1) jump).run P Y = .ok (.bool jump.isNone) Z ∧ Below w.heap.size Y Z ∧ Fr V.heap.size X Z ∧ Z.heap[w.heap.size + 1]? = some (.loop (mk (if jump.isNone then .ready else .done) jump)) ∧ Z.heap[w.heap.size]? = some (.deferred (some [])) := fun jump Y hk => by
      have hl2 := hk.keep _ _ (by omega) hl1
      have hd2 := hk.keep _ _ (by omega) hd1
      have he := run_endRound (P := P) jump hl2
      have hlt2 := (Array.getElem?_eq_some_iff.1 hl2).1
      refine ⟨_, he, below_put (by omega) hl2, (hf1.trans (hk.more (by omega))).trans (Fr.put _ (by omega)), ?_, (World.putObj_heap_other (by omega)).trans hd2⟩
      rw [World.putObj_heap_same hlt2, hmk]
    rintro e a3 Y hp
    cases e with
    | normal =>
      obtain ⟨Z, hr, hbZ, hfZ, hlZ, hdZ⟩ := fin none Y hp.1
      exact ⟨_, _, hr, .inl ⟨rfl, ⟨hI _ _ _ hp.2 hbZ, hlZ, hdZ⟩, hfZ⟩⟩
    | ret =>
      obtain ⟨Z, hr, hbZ, hfZ, hlZ, hdZ⟩ := fin (some .ret) Y hp.1
      exact ⟨_, _, hr, .inr ⟨rfl, hIx _ _ _ hp.2 hbZ, hlZ, hdZ⟩⟩
    | _ => exact hp.elim
  · rintro e Y ⟨⟨v, rfl⟩, (⟨xs, hS, hi, hl, hd⟩ | ⟨pre, hi, hl, hd⟩)⟩
    · have hr := run_endLoop (P := P) hl (by rw [hmk]; simp)
      refine ⟨none, _, by rw [hr, hmk], hdone _ xs _ (Nat.le_refl _) hS (hI _ _ _ hi (below_put (by omega) hl)) ((World.putObj_heap_other (by omega)).trans hd)⟩
    · have hr := run_endLoop (P := P) hl (by rw [hmk]; simp)
      refine ⟨some .ret, _, by rw [hr, hmk], hstop _ pre _ (Nat.le_refl _) (hIx _ _ _ hi (below_put (by omega) hl)) ((World.putObj_heap_other (by omega)).trans hd)⟩
end Go.Proofs.YtlldlkjngcgcjaaGreatDoor
namespace Go.Proofs.YtlldlkjngcgcjaaGreatDoor
set_option linter.unusedVariables false
open Go.RowKit
def mkD (D : Nat) : Deferred := { target := .collected D, args := #[] }
/-- the marks of loops whose blocks lie from lo on and below hi -/
def Marks (lo hi : Nat) (ds : List Deferred) (W : World) : Prop := ∃ Ds : List Nat, ds = Ds.map mkD ∧ Ds.Nodup ∧ ∀ D ∈ Ds, lo ≤ D ∧ D < hi ∧ W.heap[D]? = some (.deferred (some []))
theorem Marks.nil (lo hi : Nat) (W : World) : Marks lo hi [] W := ⟨[], rfl, List.nodup_nil, fun D h => by cases h⟩
theorem Marks.more {lo hi hi' : Nat} {ds : List Deferred} {W : World} (h : Marks lo hi ds W) (hh : hi ≤ hi') : Marks lo hi' ds W := by
  obtain ⟨Ds, h1, h2, h3⟩ := h
  exact ⟨Ds, h1, h2, fun D hD => ⟨(h3 D hD).1, by have := (h3 D hD).2.1; omega, (h3 D hD).2.2⟩⟩
theorem Marks.below {lo hi : Nat} {ds : List Deferred} {W W' : World} (h : Marks lo hi ds W) (hb : Below hi W W') : Marks lo hi ds W' := by
  obtain ⟨Ds, h1, h2, h3⟩ := h
  exact ⟨Ds, h1, h2, fun D hD => ⟨(h3 D hD).1, (h3 D hD).2.1, (hb.block D (h3 D hD).2.1).trans (h3 D hD).2.2⟩⟩
/-- a store into cells -/
theorem Marks.set {lo hi : Nat} {ds : List Deferred} {W : World} (h : Marks lo hi ds W) {g : Nat} {t : TypeId} {cs : Array Value} (hB : Bx W g t cs) (i : Nat) (u : Value) : Marks lo hi ds (W.setCell ⟨g, i, none⟩ u) := by
  obtain ⟨Ds, h1, h2, h3⟩ := h
  refine ⟨Ds, h1, h2, fun D hD => ⟨(h3 D hD).1, (h3 D hD).2.1, ?_⟩⟩
  have hne : D ≠ g := fun e => by
    have h4 := (h3 D hD).2.2
    rw [e, show W.heap[g]? = _ from hB] at h4
    cases h4
  exact (Below.heap_setCell W ⟨g, i, none⟩ u D hne).trans (h3 D hD).2.2
theorem Marks.push {lo hi D : Nat} {ds : List Deferred} {W : World} (h : Marks lo hi ds W) (hD : hi ≤ D) (hlo : lo ≤ hi) (hd : W.heap[D]? = some (.deferred (some []))) : Marks lo W.heap.size (mkD D :: ds) W := by
  obtain ⟨Ds, h1, h2, h3⟩ := h
  have hlt := (Array.getElem?_eq_some_iff.1 hd).1
  refine ⟨D :: Ds, by rw [h1]; rfl, List.nodup_cons.2 ⟨fun hm => by have := (h3 D hm).2.1; omega, h2⟩, fun E hE => ?_⟩
  rcases List.mem_cons.1 hE with rfl | hE
  · exact ⟨by omega, hlt, hd⟩
  · exact ⟨(h3 E hE).1, by have := (h3 E hE).2.1; omega, (h3 E hE).2.2⟩
theorem leave_go {P : Program} {F : Fence} {n lo : Nat} {fn : Func} {tmps : Array Value} {R : Ending → World → Prop} : ∀ (Ds : List Nat) (W : World), Ds.Nodup → (∀ D ∈ Ds, lo ≤ D ∧ W.heap[D]? = some (.deferred (some []))) →
    (∀ W', Below lo W W' → (∀ g t cs, Bx W g t cs → Bx W' g t cs) → LeavesIn F n P fn tmps R [] .returning W') → LeavesInM F n P fn tmps R (Ds.map mkD) .returning W
  | [], W, _, _, h => h W (Below.refl _ _) fun g t cs hB => hB
  | D :: Ds, W, hn, hd, h => by
    obtain ⟨h1, h2⟩ := hd D (List.mem_cons_self ..)
    obtain ⟨n1, n2⟩ := List.nodup_cons.1 hn
    refine ⟨by simp, .inl ⟨D, _, rfl, run_takeDeferred h2, leave_go Ds _ n2 (fun E hE => ?_) fun W' hb hB => h W' ((below_put h1 h2).trans hb) fun g t cs hx => hB g t cs ?_⟩⟩
    · obtain ⟨h3, h4⟩ := hd E (List.mem_cons_of_mem _ hE)
      exact ⟨h3, (World.putObj_heap_other (fun e => n1 (by rw [← e]; exact hE))).trans h4⟩
    · refine (World.putObj_heap_other ?_).trans hx
      rintro rfl
      rw [show W.heap[g]? = _ from hx] at h2
      cases h2
theorem Marks.leave {P : Program} {F : Fence} {n lo hi : Nat} {ds : List Deferred} {fn : Func} {tmps : Array Value} {R : Ending → World → Prop} {W : World} (h : Marks lo hi ds W)
    (hr : ∀ W', Below lo W W' → (∀ g t cs, Bx W g t cs → Bx W' g t cs) → LeavesIn F n P fn tmps R [] .returning W') : LeavesInM F n P fn tmps R ds .returning W := by
  obtain ⟨Ds, rfl, h2, h3⟩ := h
  exact leave_go Ds W h2 (fun D hD => ⟨(h3 D hD).1, (h3 D hD).2.2⟩) hr
end Go.Proofs.YtlldlkjngcgcjaaGreatDoor
namespace Go.Proofs.YtlldlkjngcgcjaaGreatDoor
set_option linter.unusedVariables false
open Go.RowKit
theorem bx_put {X : World} {g l : Nat} {t : TypeId} {cs : Array Value} {o o' : Obj} (hB : Bx X g t cs) (ho : X.heap[l]? = some o) (hc : o.isCells = false) : Bx (X.putObj l o') g t cs := by
  refine (World.putObj_heap_other ?_).trans hB
  rintro rfl
  rw [show X.heap[g]? = _ from hB] at ho
  cases ho; cases hc
theorem wpIn_range_t {α : Type} {n : Nat} {P : Program} {g : Operand} {ps : Array Tmp} {assign body : Code} {Q : Exit → Act → World → Prop} {a : Act} {w w0 : World} (h1 : 1 ≤ n) {gf : Nat} {lb : Array Value} (hg : a.eval g = .func (.func gf) #[] lb)
    (eg : ∀ args w, (callFunc gf args).run P w = .ok (.enter gf args) w) {encs : α → Array Value} {S : List α → Prop} {N : Nat} (hseq : SeqC (n - 1) P gf lb encs S N w0) (hb0 : Below w0.heap.size w0 w) (hps : ∀ x, (encs x).size = ps.size)
    (I Ix : List α → World → Prop) (hI : Lo w.heap.size I) (hIx : Lo w.heap.size Ix) (hIw : ∀ s X, I s X → Below w0.heap.size w0 X) (hz : I [] w) (tb : Tmp) (T : TypeId) (cells : α → Array Value)
    (hassign : ∀ (l : Nat) (x : α) (W : World) (K : Act → World → Prop), (∀ b W', Below W.heap.size W W' → Bx W' b T (cells x) → K { tmps := ((ps.zip (encs x)).foldl (fun t (p, v) => t.setIfInBounds p v) a.tmps).setIfInBounds tb (.pointer (some ⟨b, 0, none⟩)), defers := [] } W') →
      assign.wpIn (Fence.wide.inRound l) (n - 1 - 1) P (Exit.then K (fun _ _ _ => False)) { tmps := (ps.zip (encs x)).foldl (fun t (p, v) => t.setIfInBounds p v) a.tmps, defers := [] } W)
    (hbody : ∀ (l : Nat) (pre : List α) (x : α) (b : Nat) (W : World), I pre W → Bx W b T (cells x) → pre.length < N → body.wpIn (Fence.wide.inRound l) (n - 1 - 1) P (bodyC w.heap.size I Ix (pre ++ [x]) W) { tmps := ((ps.zip (encs x)).foldl (fun t (p, v) => t.setIfInBounds p v) a.tmps).setIfInBounds tb (.pointer (some ⟨b, 0, none⟩)), defers := [] } W)
    (hdone : ∀ (D : Nat) (xs : List α) (W : World), w.heap.size ≤ D → S xs → I xs W → W.heap[D]? = some (.deferred (some [])) → Q .normal { a with defers := { target := .collected D, args := #[] } :: a.defers } W)
    (hstop : ∀ (D : Nat) (pre : List α) (W : World), w.heap.size ≤ D → Ix pre W → W.heap[D]? = some (.deferred (some [])) → Code.ret.wpIn Fence.wide n P Q { a with defers := { target := .collected D, args := #[] } :: a.defers } W) :
    (Code.rangeFunc g ps assign body).wpIn Fence.wide n P Q a w :=
  wpIn_range_c h1 hg eg hseq hb0 hps I Ix hI hIx hIw hz
    (fun x a' X => ∃ b, a' = { tmps := ((ps.zip (encs x)).foldl (fun t (p, v) => t.setIfInBounds p v) a.tmps).setIfInBounds tb (.pointer (some ⟨b, 0, none⟩)), defers := [] } ∧ Bx X b T (cells x))
    (fun x a' X l o o' ⟨b, e, hB⟩ ho hc => ⟨b, e, bx_put hB ho hc⟩)
    (fun l x W K hK => hassign l x W K fun b W' hb hB => hK _ _ hb ⟨b, rfl, hB⟩)
    (fun l pre x a' W hi ⟨b, e, hB⟩ hlen => by subst e; exact hbody l pre x b W hi hB hlen)
    hdone hstop
end Go.Proofs.YtlldlkjngcgcjaaGreatDoor

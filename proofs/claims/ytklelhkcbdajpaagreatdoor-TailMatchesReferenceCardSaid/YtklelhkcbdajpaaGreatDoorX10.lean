/- Times of package tail: isIn, areTimes, Scan. plus and times of package tail. A range over a function whose iterator writes cells that it has made itself (a row that it hands on and then changes): a contract of such an iterator, and the statement over it, for a body that goes on or returns. Rows of Pascal's triangle: arrays of 101 strings; rows of package tail. pascal of package tail: a row of Pascal's triangle. A region that draws its order, each operation by a relation of its own, guarded operations included. A slice that a drawn region makes, known whole. -/
import Derived.Test.YtklelhkcbdajpaaGreatDoorProg
import Derived.Test.YtklelhkcbdajpaaGreatDoorX09
import Derived.Test.YtklelhkcbdajpaaGreatDoorX01
import Derived.Test.YtklelhkcbdajpaaGreatDoorX00
import Derived.Lib.QuietBelow
import Derived.BigQuiet
import Derived.Test.YtklelhkcbdajpaaGreatDoorX08
import Derived.Test.YtklelhkcbdajpaaGreatDoorX06
import Derived.RangeFuncWrites
import Derived.Test.YtklelhkcbdajpaaGreatDoorX02
import Derived.RangeFuncFrom
import Derived.Deep.WholeRow
set_option linter.unusedVariables false
set_option linter.unusedSimpArgs false
set_option maxRecDepth 100000
set_option maxHeartbeats 8000000
namespace Tb
theorem so_adj {l : List Int} (h : ∀ j (hj : j + 1 < l.length), l[j] ≤ l[j + 1]) : So l := by
  unfold So
  rw [List.pairwise_iff_getElem]
  intro i j
  induction j with
  | zero => intro _ _ hij; omega
  | succ j ih =>
    intro hi hj hij
    rcases Nat.lt_or_ge i j with h1 | h1
    · exact Int.le_trans (ih hi (by omega) h1) (h j hj)
    · have : i = j := by omega
      subst this; exact h i hj
theorem adj_so {l : List Int} (h : So l) {j : Nat} (hj : j + 1 < l.length) : l[j] ≤ l[j + 1] := List.pairwise_iff_getElem.1 h j (j + 1) (by omega) hj (by omega)
def Tms (l : List Int) : Prop := l.length ≤ 60 ∧ So l ∧ ∀ t ∈ l, 0 ≤ t ∧ t ≤ 10000000
noncomputable def soB (l : List Int) : Bool := @decide (So l) (Classical.propDecidable _)
noncomputable def tmsB (l : List Int) : Bool := @decide (Tms l) (Classical.propDecidable _)
theorem soB_t {l : List Int} (h : So l) : soB l = true := @decide_eq_true _ (Classical.propDecidable _) h
theorem soB_f {l : List Int} (h : ¬ So l) : soB l = false := @decide_eq_false _ (Classical.propDecidable _) h
theorem tmsB_t {l : List Int} (h : Tms l) : tmsB l = true := @decide_eq_true _ (Classical.propDecidable _) h
theorem tmsB_f {l : List Int} (h : ¬ Tms l) : tmsB l = false := @decide_eq_false _ (Classical.propDecidable _) h
theorem tmsB_iff {l : List Int} : tmsB l = true ↔ Tms l := by
  by_cases h : Tms l
  · rw [tmsB_t h]; simp [h]
  · rw [tmsB_f h]; simp [h]
end Tb
namespace Go.Proofs.YtklelhkcbdajpaaGreatDoor
open Go.RowKit
theorem isIn_any (n lo hi : Int) (w : World) :
    Calls Tryz.prog 43 #[.int .i64 n, .int .i64 lo, .int .i64 hi] w fun e w' => e = .returned (.bool (Tp.within n lo hi)) ∧ w = w' := by
  by_cases h1 : lo ≤ n <;> by_cases h2 : n ≤ hi
  all_goals
    go_enter Tryz.func43, Tryz.ntmps43
    go_wp2
    go_ret
    exact ⟨by simp [Tp.within, *] <;> omega, rfl⟩
theorem badT_any (t : Int) (w : World) :
    Calls Tryz.prog 96 #[.int .i64 t] w fun e w' => e = .returned (.bool (!Tp.within t 0 10000000)) ∧ w = w' := by
  go_enter Tryz.func96, Tryz.ntmps96
  go_wp2_with (go_at_call 43; refine (isIn_any _ _ _ _).mono ?_; rintro e w' ⟨rfl, rfl⟩)
  go_ret
  exact ⟨rfl, rfl⟩
theorem isNaN_any (x : Int) (w : World) : Calls Tryz.prog 145 #[.int .i64 x] w fun e w' => e = .returned (.bool false) ∧ w = w' := by
  go_enter Tryz.func145, Tryz.ntmps145
  go_wp2
  go_ret
  exact ⟨by simp, rfl⟩
theorem cmpLess_any (x y : Int) (w : World) : Calls Tryz.prog 124 #[.int .i64 x, .int .i64 y] w fun e w' => e = .returned (.bool (decide (x < y))) ∧ w = w' := by
  go_enter Tryz.func124, Tryz.ntmps124
  go_wp2_with (go_at_call 145; refine (isNaN_any _ _).mono ?_; rintro e w' ⟨rfl, rfl⟩)
  go_ret
  exact ⟨by simp, rfl⟩
theorem at_cellI {W : World} {b off : Nat} {l : List Int} (hcell : ∀ i c, l[i]? = some c → ∀ j u, (intC c)[j]? = some u → W.cell? ⟨b, off + i * 1 + j, none⟩ = some u) (hb : b < W.heap.size) {t : Nat} (ht : t < l.length) :
    ∀ d os, (Sort.grow (redrawn W d) os).cell? ⟨b, off + t, none⟩ = some (.int .i64 l[t]) := fun d os => by
  have h1 := hcell t _ (List.getElem?_eq_getElem ht) 0 _ rfl
  rw [Nat.mul_one, Nat.add_zero] at h1
  exact ((below_regrown W d os).cell (p := ⟨b, off + t, none⟩) hb).trans h1
theorem sorted_any (l : List Int) (A : Option Addr) (cap : Nat) (w : World) (hA : At 1 intC w w.heap.size A l) (hn : l.length ≤ cap) (hl : l.length ≤ 9223372036854775807) :
    Calls Tryz.prog 97 #[.slice A l.length cap] w fun e w' => e = .returned (.bool (Tb.soB l)) ∧ Below w.heap.size w w' := by
  go_enter Tryz.func97, Tryz.ntmps97
  go_wp2
  go_loopw [3] (fun s3 wr => ∃ k : Int, s3 = .int .i64 k ∧ -1 ≤ k ∧ k < l.length ∧ Kp (∀ j (hj : j + 1 < l.length), k ≤ j → l[j] ≤ l[j + 1]) ∧ Below w.heap.size w wr) (fun s3 _ => (intOf s3).toNat)
  case atStart => exact ⟨(l.length : Int) - 1, rfl, by omega, by omega, ⟨fun j hj h => by omega⟩, bStart _⟩
  case round =>
    obtain ⟨k, rfl, hk0, hk1, hall, hb⟩ := hrel
    by_cases hp : 0 < k
    · obtain ⟨m, rfl⟩ : ∃ m : Nat, k = ((m + 1 : Nat) : Int) := ⟨(k - 1).toNat, by omega⟩
      have hm1 : m + 1 < l.length := by omega
      obtain ⟨b, off, rfl, hbB, hcell⟩ := (hA.below hb) (by omega)
      have k1 := at_cellI hcell (Nat.lt_of_lt_of_le hbB hb.size) hm1
      have k2 := at_cellI hcell (Nat.lt_of_lt_of_le hbB hb.size) (show m < l.length by omega)
      have hcast : ((m + 1 : Nat) : Int) - 1 = (m : Int) := by omega
      have hstep : l[m] ≤ l[m + 1] → Kp (∀ j (hj : j + 1 < l.length), (m : Int) ≤ j → l[j] ≤ l[j + 1]) := fun h => ⟨fun j hj hmj => by
        rcases (show j = m ∨ m + 1 ≤ j by omega) with h1 | h1
        · subst h1; exact h
        · exact hall.out j hj (by omega)⟩
      have hno : ¬ l[m] ≤ l[m + 1] → Kp (Tb.soB l = false) := fun h => ⟨Tb.soB_f fun hs => h (Tb.adj_so hs hm1)⟩
      clear hcell hall
      generalize l[m] = x at *
      generalize l[m + 1] = y at *
      by_cases hxy : x ≤ y
      · have hn2 := hstep hxy
        have t0 : decide (y < x) = false := by simp; omega
        clear hstep hno
        go_wp2
        refine wp_region_quiet_below (by kernel_rfl) (by kernel_rfl) ?_
        repeat (go_big_quiet_step (first | (go_at_call 124; with_reducible exact Calls.regrown_of (calls_below (cmpLess_any _ _ _)))))
        refine wpQuiet_nil ?_
        rintro _ ⟨z, rfl⟩
        have hbz := bAgain hb z.d z.os
        clear k1 k2
        generalize Sort.grow (redrawn wr z.d) z.os = W2 at *
        go_wp2
        exact ⟨⟨m, by go_num, by omega, by omega, hn2, hbz⟩, by simp [intOf] <;> omega⟩
      · have hn2 := hno hxy
        have t0 : decide (y < x) = true := by simp; omega
        clear hstep hno
        go_wp2
        refine wp_region_quiet_below (by kernel_rfl) (by kernel_rfl) ?_
        repeat (go_big_quiet_step (first | (go_at_call 124; with_reducible exact Calls.regrown_of (calls_below (cmpLess_any _ _ _)))))
        refine wpQuiet_nil ?_
        rintro _ ⟨z, rfl⟩
        have hbz := bAgain hb z.d z.os
        clear k1 k2
        generalize Sort.grow (redrawn wr z.d) z.os = W2 at *
        go_wp2
        go_ret
        exact ⟨ret_bool hn2.out.symm, hbz⟩
    · have hfin : Kp (Tb.soB l = true) := ⟨Tb.soB_t (Tb.so_adj fun j hj => hall.out j hj (by omega))⟩
      have t0 : decide (k > 0) = false := by simp; omega
      clear hall
      go_wp2
      go_ret
      exact ⟨ret_bool hfin.out.symm, hb⟩
def idxI {α : Type} (p : α → Bool) (l : List α) : Int := match l.findIdx? p with | some i => (i : Int) | none => -1
theorem idx_hit {α : Type} {p : α → Bool} {l : List α} {k : Nat} (hk : k < l.length) (h1 : p l[k] = true) (h2 : ∀ (j : Nat) (hj : j < k), p (l[j]'(by omega)) = false) : idxI p l = k := by
  unfold idxI
  have : l.findIdx? p = some k := by
    rw [List.findIdx?_eq_some_iff_getElem]
    exact ⟨hk, h1, fun j hj => by rw [h2 j hj]; simp⟩
  rw [this]
theorem idx_none {α : Type} {p : α → Bool} {l : List α} (h : ∀ (j : Nat) (hj : j < l.length), p l[j] = false) : idxI p l = -1 := by
  unfold idxI
  have : l.findIdx? p = none := by
    rw [List.findIdx?_eq_none_iff]
    intro c hc
    obtain ⟨j, hj, rfl⟩ := List.mem_iff_getElem.1 hc
    exact h j hj
  rw [this]
theorem idx_any {α : Type} (p : α → Bool) (l : List α) : decide (0 ≤ idxI p l) = l.any p := by
  unfold idxI
  cases h : l.findIdx? p with
  | some i =>
    obtain ⟨h1, h2, h3⟩ := List.findIdx?_eq_some_iff_getElem.1 h
    have : l.any p = true := List.any_eq_true.2 ⟨l[i], List.getElem_mem h1, h2⟩
    rw [this]; simp
  | none =>
    have : l.any p = false := by
      rw [List.any_eq_false]
      intro x hx
      have := List.findIdx?_eq_none_iff.1 h x hx
      simp [this]
    rw [this]; simp
theorem idx_t (l : List Int) (A : Option Addr) (cap : Nat) (w : World) (hA : At 1 intC w w.heap.size A l) (hn : l.length ≤ cap) (hl : l.length ≤ 9223372036854775807) :
    Calls Tryz.prog 125 #[.slice A l.length cap, .func (.func 96) #[] #[]] w fun e w' => e = .returned (.int .i64 (idxI (fun t => !Tp.within t 0 10000000) l)) ∧ Below w.heap.size w w' := by
  obtain ⟨p, hp⟩ : ∃ p : Int → Bool, p = fun t => !Tp.within t 0 10000000 := ⟨_, rfl⟩
  have hP := fun t w0 => badT_any t w0
  rw [← hp]
  have hP' : ∀ t w0, Calls Tryz.prog 96 #[.int .i64 t] w0 fun e w' => e = .returned (.bool (p t)) ∧ w0 = w' := fun t w0 => by rw [hp]; exact badT_any t w0
  clear hP hp
  go_enter Tryz.func125, Tryz.ntmps125
  go_wp2
  go_loopw [8] (fun s8 wr => ∃ k : Nat, k ≤ l.length ∧ s8 = .int .i64 k ∧ Kp (∀ (j : Nat) (hj : j < l.length), j < k → p l[j] = false) ∧ Below w.heap.size w wr) (fun s8 _ => l.length - (intOf s8).toNat)
  case atStart => exact ⟨0, Nat.zero_le _, rfl, ⟨fun j hj h => by omega⟩, bStart _⟩
  case round =>
    obtain ⟨k, hk, rfl, hno, hb⟩ := hrel
    by_cases hlt : k < l.length
    · obtain ⟨b, off, rfl, hbB, hcell⟩ := hA (by omega)
      have hck : l[k]? = some l[k] := List.getElem?_eq_getElem hlt
      have hP := hP' l[k] wr
      have hh := fun (h : p l[k] = true) => idx_hit hlt h (fun j hj => hno.out j (by omega) hj)
      have hnx : Kp (p l[k] = false → ∀ (j : Nat) (hj : j < l.length), j < k + 1 → p l[j] = false) := ⟨fun h j hj hjk => by
        rcases Nat.lt_or_ge j k with h1 | h1
        · exact hno.out j hj h1
        · obtain rfl : j = k := by omega
          exact h⟩
      have c0 : wr.cell? ⟨b, off + k, none⟩ = some (.int .i64 l[k]) := (hb.cell (p := ⟨b, _, none⟩) hbB).trans (by have := hcell k _ hck 0 _ rfl; rwa [Nat.mul_one, Nat.add_zero] at this)
      have hfin : Kp (p l[k] = true → idxI p l = k) := ⟨hh⟩
      generalize p l[k] = t at *
      generalize l[k] = x0 at *
      clear hcell hA hck hno hh hP'
      cases t
      · go_wp2_with (refine hP.mono ?_; rintro _ w1 ⟨rfl, rfl⟩; clear hP)
        exact ⟨⟨k + 1, by omega, by go_num, ⟨by first | exact hnx.out rfl | exact hnx.out trivial⟩, hb⟩, by simp [intOf]; omega⟩
      · go_wp2_with (refine hP.mono ?_; rintro _ w1 ⟨rfl, rfl⟩; clear hP)
        go_ret
        exact ⟨ret_int (by first | exact (hfin.out rfl).symm | exact (hfin.out trivial).symm), hb⟩
    · have hfin : Kp (idxI p l = -1) := ⟨idx_none fun j hj => hno.out j hj (by omega)⟩
      clear hno hP'
      go_wp2
      go_ret
      exact ⟨ret_int hfin.out.symm, hb⟩
theorem con_t (l : List Int) (A : Option Addr) (cap : Nat) (w : World) (hA : At 1 intC w w.heap.size A l) (hn : l.length ≤ cap) (hl : l.length ≤ 9223372036854775807) :
    Calls Tryz.prog 98 #[.slice A l.length cap, .func (.func 96) #[] #[]] w fun e w' => e = .returned (.bool (l.any (fun t => !Tp.within t 0 10000000))) ∧ Below w.heap.size w w' := by
  have hI := idx_t l A cap w hA hn hl
  have hd := idx_any (fun t => !Tp.within t 0 10000000) l
  generalize idxI (fun t => !Tp.within t 0 10000000) l = i at *
  generalize l.any (fun t => !Tp.within t 0 10000000) = r at *
  clear hA
  by_cases h : 0 ≤ i
  all_goals
    have t0 : decide (0 ≤ i) = r := hd
    first | rw [decide_eq_true h] at t0 | rw [decide_eq_false h] at t0
    subst t0
    clear hd
    go_enter Tryz.func98, Tryz.ntmps98
    go_wp2_with (go_at_call 125; refine hI.mono ?_; rintro _ w1 ⟨rfl, hb1⟩; clear hI)
    go_ret
    exact ⟨ret_bool (by simp <;> omega), hb1⟩
theorem tms_any (l : List Int) (A : Option Addr) (cap : Nat) (w : World) (hA : At 1 intC w w.heap.size A l) (hn : l.length ≤ cap) (hl : l.length ≤ 9223372036854775807) :
    Calls Tryz.prog 58 #[.slice A l.length cap] w fun e w' => e = .returned (.bool (Tb.tmsB l)) ∧ Below w.heap.size w w' := by
  have hS := sorted_any l A cap w hA hn hl
  have hC := fun w1 (hb : Below w.heap.size w w1) => con_t l A cap w1 ((hA.below hb).more hb.size) hn hl
  by_cases h60 : l.length ≤ 60
  · have t0 : decide ((l.length : Int) ≤ 60) = true := by simp; omega
    by_cases hs : Tb.So l
    · rw [Tb.soB_t hs] at hS
      have hfin : Kp (Tb.tmsB l = !(l.any (fun t => !Tp.within t 0 10000000))) := ⟨by
        rw [Bool.eq_iff_iff, Tb.tmsB_iff]
        simp only [Bool.not_eq_true', List.any_eq_false, Bool.not_eq_false, Tp.within_iff]
        constructor
        · intro h t ht
          have := h.2.2 t ht
          simp [Tp.within_iff, this]
        · intro h
          refine ⟨h60, hs, fun t ht => ?_⟩
          have := h t ht
          simpa [Tp.within_iff] using this⟩
      generalize l.any (fun t => !Tp.within t 0 10000000) = r at *
      go_enter Tryz.func58, Tryz.ntmps58
      go_wp2_with (first | (go_at_call 97; refine hS.mono ?_; rintro _ w1 ⟨rfl, hb1⟩; clear hS; have hC1 := hC w1 hb1; clear hC) | (go_at_call 98; refine hC1.mono ?_; rintro _ w2 ⟨rfl, hb2⟩; clear hC1))
      go_ret
      exact ⟨ret_bool hfin.out.symm, bCall hb1 hb2⟩
    · rw [Tb.soB_f hs] at hS
      have hfin : Kp (Tb.tmsB l = false) := ⟨Tb.tmsB_f fun h => hs h.2.1⟩
      clear hC
      go_enter Tryz.func58, Tryz.ntmps58
      go_wp2_with (go_at_call 97; refine hS.mono ?_; rintro _ w1 ⟨rfl, hb1⟩; clear hS)
      go_ret
      exact ⟨ret_bool hfin.out.symm, hb1⟩
  · have t0 : decide ((l.length : Int) ≤ 60) = false := by simp; omega
    have hfin : Kp (Tb.tmsB l = false) := ⟨Tb.tmsB_f fun h => h60 h.1⟩
    clear hS hC
    go_enter Tryz.func58, Tryz.ntmps58
    go_wp2
    go_ret
    exact ⟨ret_bool hfin.out.symm, bStart _⟩
theorem Scan_not (l : List Int) (A : Option Addr) (cap : Nat) (width : Int) (w : World) (hA : At 1 intC w w.heap.size A l) (hn : l.length ≤ cap) (hl : l.length ≤ 9223372036854775807) (h : ¬ (Tb.Tms l ∧ 1 ≤ width ∧ width ≤ 10000000)) :
    Calls Tryz.prog 21 #[.slice A l.length cap, .int .i64 width] w fun e w' => e = .returned (.tuple #[.int .i64 0, .int .i64 0, .int .i64 350]) ∧ Below w.heap.size w w' := by
  have hT := tms_any l A cap w hA hn hl
  by_cases ht : Tb.Tms l
  · have hw : Tp.within width 1 10000000 = false := by
      cases hh : Tp.within width 1 10000000 with
      | false => rfl
      | true => exact absurd ⟨ht, Tp.within_iff.1 hh⟩ h
    have hI := fun w0 => isIn_any width 1 10000000 w0
    rw [hw] at hI
    rw [Tb.tmsB_t ht] at hT
    clear hw h
    go_enter Tryz.func21, Tryz.ntmps21
    go_wp2_with (first | (go_at_call 58; refine hT.mono ?_; rintro _ w1 ⟨rfl, hb1⟩; clear hT) | (go_at_call 43; refine (hI _).mono ?_; rintro _ w2 ⟨rfl, rfl⟩; clear hI))
    refine bodyPost_ret (results_tmp3 rfl _ _ _) rfl ⟨rfl, hb1⟩
  · rw [Tb.tmsB_f ht] at hT
    clear h
    go_enter Tryz.func21, Tryz.ntmps21
    go_wp2_with (go_at_call 58; refine hT.mono ?_; rintro _ w1 ⟨rfl, hb1⟩; clear hT)
    refine bodyPost_ret (results_tmp3 rfl _ _ _) rfl ⟨rfl, hb1⟩
theorem Scan_good (l : List Int) (A : Option Addr) (cap : Nat) (width : Int) (w : World) (hA : At 1 intC w w.heap.size A l) (hn : l.length ≤ cap) (ht : Tb.Tms l) (hw1 : 1 ≤ width) (hw2 : width ≤ 10000000) :
    Calls Tryz.prog 21 #[.slice A l.length cap, .int .i64 width] w fun e w' => (∃ best at_ : Int, e = .returned (.tuple #[.int .i64 best, .int .i64 at_, .int .i64 0]) ∧ Tb.Bw l width l.length best at_ ∧ 0 ≤ best ∧ best ≤ l.length ∧ 0 ≤ at_ ∧ at_ ≤ 10000000) ∧ Below w.heap.size w w' := by
  obtain ⟨h60, hso, hin⟩ := ht
  have hT := tms_any l A cap w hA hn (by omega)
  rw [Tb.tmsB_t ⟨h60, hso, hin⟩] at hT
  have hI := fun w0 => isIn_any width 1 10000000 w0
  rw [Tp.within_iff.2 ⟨hw1, hw2⟩] at hI
  have hB0 := Tb.Bw.start l width
  go_enter Tryz.func21, Tryz.ntmps21
  go_wp2_with (first | (go_at_call 58; refine hT.mono ?_; rintro _ w1 ⟨rfl, hb1⟩; clear hT) | (go_at_call 43; refine (hI _).mono ?_; rintro _ w2 ⟨rfl, rfl⟩; clear hI))
  go_loopw [7, 8, 9, 22] (fun s7 s8 s9 s22 wr => ∃ (k e : Nat) (best at_ : Int), s7 = .int .i64 best ∧ s8 = .int .i64 at_ ∧ s9 = .int .i64 e ∧ s22 = .int .i64 k ∧ k ≤ l.length ∧ e ≤ l.length ∧ Tb.Bw l width k best at_ ∧ (0 ≤ best ∧ best ≤ l.length ∧ 0 ≤ at_ ∧ at_ ≤ 10000000) ∧ Kp (∀ (hk : k < l.length), e ≤ Tb.lt l (l[k] + width)) ∧ wr = w1) (fun _ _ _ s22 _ => l.length - (intOf s22).toNat)
  case atStart => exact ⟨0, 0, 0, 0, rfl, rfl, rfl, rfl, Nat.zero_le _, Nat.zero_le _, hB0, by omega, ⟨fun _ => Nat.zero_le _⟩, rfl⟩
  case round =>
    obtain ⟨k, e, best, at_, rfl, rfl, rfl, rfl, hk, he, hB, hbd, hle, hwr⟩ := hrel
    obtain rfl := hwr.symm
    by_cases hlt : k < l.length
    · have t0 : decide ((k : Int) < (l.length : Int)) = true := by simp; omega
      have hAk := hA.below hb1
      obtain ⟨b, off, rfl, hbB, hcell⟩ := hAk (by omega)
      have hcl := fun (j : Nat) (hj : j < l.length) => (by have := hcell j _ (List.getElem?_eq_getElem hj) 0 _ rfl; rwa [Nat.mul_one, Nat.add_zero] at this : w1.cell? ⟨b, off + j, none⟩ = some (.int .i64 l[j]))
      have ck := hcl k hlt
      have hstep := hB.step hso hw1 hlt
      have hmk := hin l[k] (List.getElem_mem hlt)
      have hiff := fun j (hj : j < l.length) => Tb.lt_iff hso (l[k] + width) j hj
      have hll := Tb.lt_le l (l[k] + width)
      have hmono := fun (h1 : k + 1 < l.length) => (by
        have h2 := Tb.adj_so hso h1
        have h3 : Tb.lt l (l[k] + width) ≤ Tb.lt l (l[k + 1] + width) := by
          unfold Tb.lt
          exact List.countP_mono_left fun y _ hy => by simp only [decide_eq_true_eq] at *; omega
        exact h3 : Tb.lt l (l[k] + width) ≤ Tb.lt l (l[k + 1] + width))
      replace hle := hle.out hlt
      replace hstep := Kp.mk hstep
      replace hmono := Kp.mk hmono
      replace hiff := Kp.mk hiff
      replace hcl := Kp.mk hcl
      clear hcell hAk
      generalize l[k] = x at *
      generalize Tb.lt l (x + width) = m at *
      go_wp2_with fail
      go_loopw [9] (fun s9 wr' => ∃ e : Nat, s9 = .int .i64 e ∧ e ≤ m ∧ wr' = w1) (fun s9 _ => l.length - (intOf s9).toNat)
      case atStart => exact ⟨e, rfl, hle, rfl⟩
      case round =>
        clear hle he
        obtain ⟨e, rfl, hle, hwr⟩ := hrel
        obtain rfl := hwr.symm
        by_cases hel : e < l.length
        · have t1 : decide ((e : Int) < (l.length : Int)) = true := by simp; omega
          have ce := hcl.out e hel
          have hi2 := hiff.out e hel
          generalize l[e] = y at *
          by_cases hem : e < m
          · have t2 : decide (y < x + width) = true := by simp; omega
            clear hi2
            go_wp2
            exact ⟨⟨e + 1, by go_num, by omega, trivial⟩, by simp [intOf]; omega⟩
          · have t2 : decide (y < x + width) = false := by simp; omega
            obtain rfl : e = m := by omega
            clear hi2 hem
            by_cases hbest : best < (e : Int) - k
            · have t3 : decide ((e : Int) - k > best) = true := by simp; omega
              have hn2 := hstep.out.1 (by omega)
              go_wp2
              exact ⟨⟨k + 1, e, _, _, rfl, rfl, rfl, by go_num, by omega, by omega, hn2, by omega, ⟨fun h => hmono.out h⟩, trivial⟩, by simp [intOf]; omega⟩
            · have t3 : decide ((e : Int) - k > best) = false := by simp; omega
              have hn2 := hstep.out.2 (by omega)
              go_wp2
              exact ⟨⟨k + 1, e, _, _, rfl, rfl, rfl, by go_num, by omega, by omega, hn2, by omega, ⟨fun h => hmono.out h⟩, trivial⟩, by simp [intOf]; omega⟩
        · have t1 : decide ((e : Int) < (l.length : Int)) = false := by simp; omega
          obtain rfl : e = m := by omega
          by_cases hbest : best < (e : Int) - k
          · have t3 : decide ((e : Int) - k > best) = true := by simp; omega
            have hn2 := hstep.out.1 (by omega)
            go_wp2
            exact ⟨⟨k + 1, e, _, _, rfl, rfl, rfl, by go_num, by omega, by omega, hn2, by omega, ⟨fun h => hmono.out h⟩, trivial⟩, by simp [intOf]; omega⟩
          · have t3 : decide ((e : Int) - k > best) = false := by simp; omega
            have hn2 := hstep.out.2 (by omega)
            go_wp2
            exact ⟨⟨k + 1, e, _, _, rfl, rfl, rfl, by go_num, by omega, by omega, hn2, by omega, ⟨fun h => hmono.out h⟩, trivial⟩, by simp [intOf]; omega⟩
    · obtain rfl : k = l.length := by omega
      go_wp2
      refine bodyPost_ret (results_tmp3 rfl _ _ _) rfl ⟨⟨best, at_, rfl, hB, hbd⟩, hb1⟩
end Go.Proofs.YtklelhkcbdajpaaGreatDoor
namespace Go.Proofs.YtklelhkcbdajpaaGreatDoor
open Go.RowKit Go.Shelf
def Ix (z : Int) (s : List UInt8) : Prop := Kp (Lib.itoa z = s)
theorem Ix.ex (z : Int) : ∃ s, Ix z s := ⟨_, ⟨rfl⟩⟩
theorem plus_s {x y z : Int} {sx sy sz : List UInt8} (w : World) (hx : Ix x sx) (hy : Ix y sy) (hz : Ix z sz) (h : Kp (x + y = z)) {j k l : Nat} (fx : Rq.Sz j x) (fy : Rq.Sz k y) (fz : Rq.Sz l z) (hj : j ≤ 200) (hk : k ≤ 200) (hl : l ≤ 200) (hE : Env w) :
    Calls Tryz.prog 93 #[.string ⟨sx.toArray⟩, .string ⟨sy.toArray⟩] w fun e w' => e = .returned (.string ⟨sz.toArray⟩) ∧ Below w.heap.size w w' := by
  have hC := Add_any x y w (fx.fits hj) (fy.fits hk) hE
  rw [h.out, Ig.resS_fits (fz.fits hl), Ig.resE_fits (fz.fits hl), hx.out, hy.out, hz.out] at hC
  clear fx fy fz hx hy hz h
  go_enter Tryz.func93, Tryz.ntmps93
  go_wp2_with fail
  refine hC.mono ?_
  rintro _ w1 ⟨rfl, hb⟩
  clear hC
  go_wp2
  go_ret
  exact ⟨rfl, hb⟩
theorem times_s {x y z : Int} {sx sy sz : List UInt8} (w : World) (hx : Ix x sx) (hy : Ix y sy) (hz : Ix z sz) (h : Kp (x * y = z)) {j k l : Nat} (fx : Rq.Sz j x) (fy : Rq.Sz k y) (fz : Rq.Sz l z) (hj : j ≤ 200) (hk : k ≤ 200) (hl : l ≤ 200) (hE : Env w) :
    Calls Tryz.prog 52 #[.string ⟨sx.toArray⟩, .string ⟨sy.toArray⟩] w fun e w' => e = .returned (.string ⟨sz.toArray⟩) ∧ Below w.heap.size w w' := by
  have hC := Mul_any x y w (fx.fits hj) (fy.fits hk) hE
  rw [h.out, Ig.resS_fits (fz.fits hl), Ig.resE_fits (fz.fits hl), hx.out, hy.out, hz.out] at hC
  clear fx fy fz hx hy hz h
  go_enter Tryz.func52, Tryz.ntmps52
  go_wp2_with fail
  refine hC.mono ?_
  rintro _ w1 ⟨rfl, hb⟩
  clear hC
  go_wp2
  go_ret
  exact ⟨rfl, hb⟩
end Go.Proofs.YtklelhkcbdajpaaGreatDoor
namespace Go.Proofs.YtklelhkcbdajpaaGreatDoor
open Go.RowKit
structure Fr (B : Nat) (W W' : World) : Prop where
  size : W.heap.size ≤ W'.heap.size
  keep : ∀ b o, B ≤ b → W.heap[b]? = some o → W'.heap[b]? = some o
theorem Fr.below {B : Nat} {W W' : World} (h : Below W.heap.size W W') : Fr B W W' := ⟨h.size, fun b o _ ho => (h.block b (Array.getElem?_eq_some_iff.1 ho).1).trans ho⟩
theorem Fr.trans {B : Nat} {X Y Z : World} (h : Fr B X Y) (k : Fr B Y Z) : Fr B X Z := ⟨Nat.le_trans h.size k.size, fun b o hb ho => k.keep b o hb (h.keep b o hb ho)⟩
theorem Fr.more {B B' : Nat} {X Y : World} (h : Fr B X Y) (hB : B ≤ B') : Fr B' X Y := ⟨h.size, fun b o hb ho => h.keep b o (Nat.le_trans hB hb) ho⟩
theorem Fr.put {B : Nat} {W : World} {l : Nat} (o : Obj) (hl : l < B) : Fr B W (W.putObj l o) := ⟨by simp, fun b o' hb ho => (World.putObj_heap_other (by omega)).trans ho⟩
def Lo {α : Type} (B : Nat) (I : List α → World → Prop) : Prop := ∀ s X Y, I s X → Below B X Y → I s Y
theorem below_put {B l : Nat} {X : World} {o o' : Obj} (hl : B ≤ l) (h : X.heap[l]? = some o) : Below B X (X.putObj l o') :=
  ⟨rfl, rfl, rfl, by simp, fun k hk => World.putObj_heap_other (by omega)⟩
def SeqC {α : Type} (n : Nat) (P : Program) (gf : Nat) (lb : Array Value) (encs : α → Array Value) (S : List α → Prop) (N : Nat) (w0 : World) : Prop :=
  ∀ (l : Nat) (J Jx : List α → World → Prop) (W : World), Below w0.heap.size w0 W → Lo W.heap.size J → Lo W.heap.size Jx → (∀ s X, J s X → Below w0.heap.size w0 X) →
    (∀ pre x X, J pre X → pre.length < N → YieldAt Fence.wide (n - 1) P l (encs x) X fun e Y => (e = .returned (.bool true) ∧ J (pre ++ [x]) Y ∧ Fr W.heap.size X Y) ∨ (e = .returned (.bool false) ∧ Jx (pre ++ [x]) Y)) →
    J [] W → CallsIn Fence.wide n P gf (#[.func (.yield l) #[] #[]] ++ lb) W fun e Y => (∃ v, e = .returned v) ∧ ((∃ xs, S xs ∧ J xs Y) ∨ ∃ pre, Jx pre Y)
def bodyC {α : Type} (B : Nat) (I Ix : List α → World → Prop) (xs : List α) (W : World) : Exit → Act → World → Prop
  | .normal, _, Y => Fr B W Y ∧ I xs Y
  | .ret, _, Y => Fr B W Y ∧ Ix xs Y
  | _, _, _ => False
theorem wpIn_range_c {α : Type} {n : Nat} {P : Program} {g : Operand} {ps : Array Tmp} {assign body : Code} {Q : Exit → Act → World → Prop} {a : Act} {w w0 : World} (h1 : 1 ≤ n) {gf : Nat} {lb : Array Value} (hg : a.eval g = .func (.func gf) #[] lb)
    (eg : ∀ args w, (callFunc gf args).run P w = .ok (.enter gf args) w) {encs : α → Array Value} {S : List α → Prop} {N : Nat} (hseq : SeqC (n - 1) P gf lb encs S N w0) (hb0 : Below w0.heap.size w0 w) (hps : ∀ x, (encs x).size = ps.size)
    (I Ix : List α → World → Prop) (hI : Lo w.heap.size I) (hIx : Lo w.heap.size Ix) (hIw : ∀ s X, I s X → Below w0.heap.size w0 X) (hz : I [] w) (Ax : α → Act → World → Prop) (hAx : ∀ x a' X l o o', Ax x a' X → X.heap[l]? = some o → o.isCells = false → Ax x a' (X.putObj l o'))
    (hassign : ∀ (l : Nat) (x : α) (W : World) (K : Act → World → Prop), (∀ a' W', Below W.heap.size W W' → Ax x a' W' → K a' W') →
      assign.wpIn (Fence.wide.inRound l) (n - 1 - 1) P (Exit.then K (fun _ _ _ => False)) { tmps := (ps.zip (encs x)).foldl (fun t (p, v) => t.setIfInBounds p v) a.tmps, defers := [] } W)
    (hbody : ∀ (l : Nat) (pre : List α) (x : α) (a' : Act) (W : World), I pre W → Ax x a' W → pre.length < N → body.wpIn (Fence.wide.inRound l) (n - 1 - 1) P (bodyC w.heap.size I Ix (pre ++ [x]) W) a' W)
    (hdone : ∀ (D : Nat) (xs : List α) (W : World), w.heap.size ≤ D → S xs → I xs W → W.heap[D]? = some (.deferred (some [])) → Q .normal { a with defers := { target := .collected D, args := #[] } :: a.defers } W)
    (hstop : ∀ (D : Nat) (pre : List α) (W : World), w.heap.size ≤ D → Ix pre W → W.heap[D]? = some (.deferred (some [])) → Code.ret.wpIn Fence.wide n P Q { a with defers := { target := .collected D, args := #[] } :: a.defers } W) :
    (Code.rangeFunc g ps assign body).wpIn Fence.wide n P Q a w := by
  refine wpIn_rangeFunc fun fn hfn => ?_
  obtain ⟨mk, hmk⟩ : ∃ mk : LoopState → Option Code → Loop, mk = fun st pe => { state := st, pending := pe, fn := fn, tmps := a.tmps, params := ps, assign := assign, body := body, defers := w.heap.size } := ⟨_, rfl⟩
  obtain ⟨V, hV⟩ : ∃ V, V = (w.alloc (.deferred (some []))).alloc (.loop (mk .ready none)) := ⟨_, rfl⟩
  have hbV : Below w.heap.size w V := by rw [hV]; exact bNew (bNew (bStart w) _) _
  have hsV : V.heap.size = w.heap.size + 2 := by rw [hV, World.size_alloc, World.size_alloc]
  have hLV : V.heap[w.heap.size + 1]? = some (.loop (mk .ready none)) := by
    have h := World.alloc_heap_new (w.alloc (.deferred (some []))) (.loop (mk .ready none))
    rw [World.size_alloc] at h
    rw [hV]; exact h
  have hDV : V.heap[w.heap.size]? = some (.deferred (some [])) := by
    rw [hV]; exact (Below.heap_alloc _ _ _ (by rw [World.size_alloc]; omega)).trans (World.alloc_heap_new w _)
  refine ⟨w.heap.size + 1, [{ target := .collected w.heap.size, args := #[] }], V, { target := .fn (.func gf) lb, args := #[.func (.yield (w.heap.size + 1)) #[] #[]] }, V, gf, #[.func (.yield (w.heap.size + 1)) #[] #[]] ++ lb, V, ?_, ?_, fun _ _ => trivial, ?_, fun _ => h1, ?_⟩
  · rw [hV, hmk]; exact run_enterLoop_outer _ _ _ _ _
  · simp only [resolve, hg]
    simp [go_sem]
  · simp [invoke, go_sem, eg]
  have two : ∀ (st : LoopState) (pe : Option Code) (X Y : World), X.heap[w.heap.size + 1]? = some (.loop (mk st pe)) ∧ X.heap[w.heap.size]? = some (.deferred (some [])) → Below V.heap.size X Y → Y.heap[w.heap.size + 1]? = some (.loop (mk st pe)) ∧ Y.heap[w.heap.size]? = some (.deferred (some [])) := fun st pe X Y h hb =>
    ⟨(hb.block _ (by omega)).trans h.1, (hb.block _ (by omega)).trans h.2⟩
  refine (hseq (w.heap.size + 1) (fun s X => I s X ∧ X.heap[w.heap.size + 1]? = some (.loop (mk .ready none)) ∧ X.heap[w.heap.size]? = some (.deferred (some [])))
    (fun s X => Ix s X ∧ X.heap[w.heap.size + 1]? = some (.loop (mk .done (some .ret))) ∧ X.heap[w.heap.size]? = some (.deferred (some []))) V (bCall hb0 hbV)
    (fun s X Y h hb => ⟨hI s X Y h.1 (hb.mono (by omega)), two _ _ X Y h.2 hb⟩) (fun s X Y h hb => ⟨hIx s X Y h.1 (hb.mono (by omega)), two _ _ X Y h.2 hb⟩) (fun s X h => hIw s X h.1) ?_ ⟨hI _ _ _ hz hbV, hLV, hDV⟩).mono ?_
  · intro pre x X hX hlen
    obtain ⟨hi, hl, hd⟩ := hX
    have hlt : w.heap.size + 1 < X.heap.size := (Array.getElem?_eq_some_iff.1 hl).1
    have hy := run_yield (P := P) (args := encs x) hl (by rw [hmk]; exact hps x)
    rw [hmk] at hy
    refine ⟨fn, _, assign, body, hy, roundIn_of_wpIn hfn (hassign _ x X _ fun a' X0 hb0 ha0 => ⟨_, run_beginRound ((hb0.block _ hlt).trans hl) (by rw [hmk]), ?_⟩)⟩
    have hf0 : Fr V.heap.size X X0 := Fr.below hb0
    have hsz0 := hb0.size
    replace hi := hI _ _ _ hi (hb0.mono (by omega))
    replace hl := (hb0.block _ hlt).trans hl
    replace hd := (hb0.block _ (show w.heap.size < X.heap.size by omega)).trans hd
    replace hlt : w.heap.size + 1 < X0.heap.size := by omega
    obtain ⟨X1, hX1⟩ : ∃ X1, X1 = X0.putObj (w.heap.size + 1) (.loop { mk .ready none with state := .busy }) := ⟨_, rfl⟩
    rw [← hX1]
    have hl1 : X1.heap[w.heap.size + 1]? = some (.loop { mk .ready none with state := .busy }) := by rw [hX1]; exact World.putObj_heap_same hlt
    have hd1 : X1.heap[w.heap.size]? = some (.deferred (some [])) := by rw [hX1]; exact (World.putObj_heap_other (by omega)).trans hd
    have hf1 : Fr V.heap.size X X1 := by rw [hX1]; exact hf0.trans (Fr.put _ (by omega))
    have ha1 : Ax x a' X1 := by rw [hX1]; exact hAx _ _ _ _ _ _ ha0 hl rfl
    have hi1 : I pre X1 := by rw [hX1]; exact hI _ _ _ hi (below_put (by omega) hl)
    refine wpIn_mono (hbody _ pre x a' X1 hi1 ha1 hlen) ?_
    have fin : ∀ (jump : Option Code) (Y : World), Fr w.heap.size X1 Y →
        ∃ Z, (Instr.endRound (w.heap.size + 1) jump).run P Y = .ok (.bool jump.isNone) Z ∧ Below w.heap.size Y Z ∧ Fr V.heap.size X Z ∧ Z.heap[w.heap.size + 1]? = some (.loop (mk (if jump.isNone then .ready else .done) jump)) ∧ Z.heap[w.heap.size]? = some (.deferred (some [])) := fun jump Y hk => by
      have hl2 := hk.keep _ _ (by omega) hl1
      have hd2 := hk.keep _ _ (by omega) hd1
      have he := run_endRound (P := P) jump hl2
      have hlt2 := (Array.getElem?_eq_some_iff.1 hl2).1
      refine ⟨_, he, below_put (by omega) hl2, (hf1.trans (hk.more (by omega))).trans (Fr.put _ (by omega)), ?_, (World.putObj_heap_other (by omega)).trans hd2⟩
      rw [World.putObj_heap_same hlt2, hmk]
    rintro e a3 Y hp
    cases e with
    | normal =>
      obtain ⟨Z, hr, hbZ, hfZ, hlZ, hdZ⟩ := fin none Y hp.1
      exact ⟨_, _, hr, .inl ⟨rfl, ⟨hI _ _ _ hp.2 hbZ, hlZ, hdZ⟩, hfZ⟩⟩
    | ret =>
      obtain ⟨Z, hr, hbZ, hfZ, hlZ, hdZ⟩ := fin (some .ret) Y hp.1
      exact ⟨_, _, hr, .inr ⟨rfl, hIx _ _ _ hp.2 hbZ, hlZ, hdZ⟩⟩
    | _ => exact hp.elim
  · rintro e Y ⟨⟨v, rfl⟩, (⟨xs, hS, hi, hl, hd⟩ | ⟨pre, hi, hl, hd⟩)⟩
    · have hr := run_endLoop (P := P) hl (by rw [hmk]; simp)
      refine ⟨none, _, by rw [hr, hmk], hdone _ xs _ (Nat.le_refl _) hS (hI _ _ _ hi (below_put (by omega) hl)) ((World.putObj_heap_other (by omega)).trans hd)⟩
    · have hr := run_endLoop (P := P) hl (by rw [hmk]; simp)
      refine ⟨some .ret, _, by rw [hr, hmk], hstop _ pre _ (Nat.le_refl _) (hIx _ _ _ hi (below_put (by omega) hl)) ((World.putObj_heap_other (by omega)).trans hd)⟩
end Go.Proofs.YtklelhkcbdajpaaGreatDoor
namespace Go.Proofs.YtklelhkcbdajpaaGreatDoor
open Go.RowKit Go.Shelf
attribute [local go_sem] Oper.semAt_some
def rowC (f : Nat → List UInt8) : Array Value := ((List.range 101).map fun k => Value.string ⟨(f k).toArray⟩).toArray
theorem rowC_size (f : Nat → List UInt8) : (rowC f).size = 101 := by simp [rowC]
theorem rowC_get (f : Nat → List UInt8) {k : Nat} (h : k < 101) : (rowC f)[k]? = some (.string ⟨(f k).toArray⟩) := by
  simp [rowC, h]
theorem rowC_set (f : Nat → List UInt8) {k : Nat} (h : k < 101) (s : List UInt8) : (rowC f).setIfInBounds k (.string ⟨s.toArray⟩) = rowC (fun j => if j = k then s else f j) := by
  apply Array.ext
  · simp [rowC]
  · intro i h1 h2
    simp only [rowC, List.setIfInBounds_toArray, List.getElem_toArray, List.getElem_set, List.getElem_map, List.getElem_range]
    by_cases e : k = i
    · subst e; simp
    · rw [if_neg e, if_neg (fun h => e h.symm)]
theorem rowC_one (f : Nat → List UInt8) : (rowC f).all (·.oneCell') = true := by
  rw [Array.all_eq_true_iff_forall_mem]
  intro v hv
  simp only [rowC, List.mem_toArray, List.mem_map] at hv
  obtain ⟨k, -, rfl⟩ := hv
  rfl
theorem tri_under : Tryz.prog.underlying 75 = some (.array 101 9) := by kernel_rfl
theorem tri_size : (Tryz.prog.info? 75).map (·.size) = some 101 := by kernel_rfl
theorem row_load {W : World} {g : Nat} {t : TypeId} (f : Nat → List UInt8) (hB : Bx W g t (rowC f)) : (Instr.loadAt 75 (.pointer (some ⟨g, 0, none⟩))).run Tryz.prog W = .ok (.agg (rowC f)) W := by
  simp only [Instr.loadAt, Instr.sureAddr, Sem.run_bind, Sem.run_pure, Result.andThen]
  exact run_loadVar_row W g t _ _ (0, 0) _ hB tri_under rfl (by rw [rowC_size]; exact tri_size)
theorem row_store {W : World} {g : Nat} {t : TypeId} {old : Array Value} (f : Nat → List UInt8) (hB : Bx W g t old) (ho : old.size = 101) : (Instr.storeAt 75 (.pointer (some ⟨g, 0, none⟩)) (.agg (rowC f))).run Tryz.prog W = .ok () (W.setRow g (rowC f)) := by
  simp only [Instr.storeAt, Instr.sureAddr, Sem.run_bind, Sem.run_pure, Result.andThen]
  exact run_storeVar_row W g t _ old _ hB (by rw [rowC_size]; exact tri_size) (by rw [rowC_size]; exact ho) (rowC_one f)
theorem wpIn_row_load {F : Fence} {n : Nat} {o : Oper} {a : Act} {w : World} {K : Act → World → Prop} {Q : Exit → Act → World → Prop} (hF : ∀ f, F.fn f) {x : Operand} (ho : o.op = .load 75 x) {g : Nat} (hx : a.eval x = .pointer (some ⟨g, 0, none⟩)) {t : TypeId} {f : Nat → List UInt8}
    (hB : Bx w g t (rowC f)) (h : K (a.put o.dst (.agg (rowC f))) w) : o.wpIn F n Tryz.prog a w K Q := by
  refine ⟨fun f _ => hF f, ?_⟩
  rw [Oper.semAt_plain _ _ _ (by rw [ho]; intro c h; cases h)]
  unfold execOp
  simp only [ho, hx, row_load f hB, Sem.run_bind, Sem.run_pure, Result.andThen_ok]
  exact h
theorem wpIn_row_store {F : Fence} {n : Nat} {o : Oper} {a : Act} {w : World} {K : Act → World → Prop} {Q : Exit → Act → World → Prop} (hF : ∀ f, F.fn f) {x y : Operand} (ho : o.op = .store 75 x y) {g : Nat} (hx : a.eval x = .pointer (some ⟨g, 0, none⟩)) {t : TypeId} {old : Array Value} {f : Nat → List UInt8}
    (hy : a.eval y = .agg (rowC f)) (hB : Bx w g t old) (hs : old.size = 101) (h : K (a.put o.dst undef) (w.setRow g (rowC f))) : o.wpIn F n Tryz.prog a w K Q := by
  refine ⟨fun f _ => hF f, ?_⟩
  rw [Oper.semAt_plain _ _ _ (by rw [ho]; intro c h; cases h)]
  unfold execOp
  simp only [ho, hx, hy, row_store f hB hs, Sem.run_bind, Sem.run_pure, Result.andThen_ok]
  exact h
theorem bx_setRow {W : World} {g : Nat} {t : TypeId} {old : Array Value} (hB : Bx W g t old) (cs : Array Value) : Bx (W.setRow g cs) g t cs := by
  unfold Bx at *
  show (W.heap.modify g _)[g]? = _
  rw [Array.getElem?_modify, if_pos rfl, hB]; rfl
theorem setRow_other {W : World} {g : Nat} (cs : Array Value) {k : Nat} (h : k ≠ g) : (W.setRow g cs).heap[k]? = W.heap[k]? := by
  show (W.heap.modify g _)[k]? = _
  rw [Array.getElem?_modify, if_neg (fun e => h e.symm)]
theorem below_setRow {B g : Nat} (W : World) (cs : Array Value) (h : B ≤ g) : Below B W (W.setRow g cs) :=
  ⟨rfl, rfl, rfl, by show W.heap.size ≤ (W.heap.modify g _).size; simp, fun k hk => setRow_other cs (by omega)⟩
def pt (n k : Nat) : List UInt8 := Lib.itoa (Tb.ch n k : Int)
theorem pt_over {n k : Nat} (h : n < k) : pt n k = Lib.itoa 0 := by unfold pt; rw [Tb.ch_over h]; rfl
def mixT (n k : Nat) (j : Nat) : List UInt8 := if k < j then pt (n + 1) j else pt n j
theorem mix_start (n : Nat) : mixT n (n + 1) = pt n := by
  funext j
  unfold mixT
  split
  · rw [pt_over (by omega), pt_over (by omega)]
  · rfl
theorem mix_end (n : Nat) : mixT n 0 = pt (n + 1) := by
  funext j
  unfold mixT
  split
  · rfl
  · have : j = 0 := by omega
    subst this
    unfold pt
    rw [Tb.ch_zero, Tb.ch_zero]
theorem mix_step (n k : Nat) (hk : 0 < k) : (fun j => if j = k then pt (n + 1) k else mixT n k j) = mixT n (k - 1) := by
  funext j
  unfold mixT
  by_cases e : j = k
  · subst e; rw [if_pos rfl, if_pos (by omega)]
  · rw [if_neg e]
    by_cases h : k < j
    · rw [if_pos h, if_pos (by omega)]
    · rw [if_neg h, if_neg (by omega)]
theorem pt_sum (n k : Nat) : Ix (Tb.ch n k : Int) (pt n k) := ⟨rfl⟩
theorem zero_row : (fun k => if k = 0 then Lib.itoa 1 else Lib.itoa 0) = pt 0 := by
  funext k
  cases k with
  | zero => rfl
  | succ k => rw [pt_over (by omega)]; rfl
def rwA (x : Fin 101) : Array Value := #[.int .i64 (x.1 : Int), .agg (rowC (pt x.1))]
theorem fin_take {n : Nat} (h : n < 101) : (List.finRange 101).take (n + 1) = (List.finRange 101).take n ++ [⟨n, h⟩] := by
  rw [List.take_succ_eq_append_getElem (by simpa using h)]
  congr 2
  simp [List.getElem_finRange]
theorem zc_size : (Tryz.zeroCells75).size = 101 := by kernel_rfl
theorem cells_row {cs : Array Value} (hs : cs.size = 101) {f : Nat → List UInt8} (h : ∀ j, j < 101 → cs[j]? = some (.string ⟨(f j).toArray⟩)) : cs = rowC f := by
  apply Array.ext
  · rw [hs, rowC_size]
  · intro i h1 h2
    have e1 := h i (by omega)
    have e2 := rowC_get f (k := i) (by omega)
    rw [Array.getElem?_eq_getElem h1] at e1
    rw [Array.getElem?_eq_getElem h2] at e2
    exact Option.some.inj (e1.trans e2.symm)
theorem rows_seq (n : Nat) (hn : 1 ≤ n) (w0 : World) (hE0 : Env w0) : SeqC n Tryz.prog 123 #[] rwA (fun ys => ys = List.finRange 101) 101 w0 := by
  intro l J Jx W hW hJ hJx hJw hY hj0
  refine callsIn_of_wp Tryz.func123 rfl trivial ?_ rfl
  simp only [Tryz.ntmps123, List.size_toArray, List.length_cons, List.length_nil, Nat.reduceAdd, Nat.reduceSub, Array.replicate_succ, Array.replicate_zero, List.push_toArray, List.append_toArray, List.nil_append, List.cons_append]
  have hbA := bNewW W (.cells Tryz.zeroCells75 75)
  have BA := Bx.mk W 75 Tryz.zeroCells75
  have hz := zc_size
  gi_wp2_with fail
  generalize Tryz.zeroCells75 = zc at *
  gi_loopw [6] (fun s6 wr => ∃ (k : Nat) (cs : Array Value), s6 = .int .i64 k ∧ k ≤ 101 ∧ cs.size = 101 ∧ Kp (∀ j, j < k → cs[j]? = some (.string ⟨(Lib.itoa 0).toArray⟩)) ∧ Bx wr W.heap.size 75 cs ∧ Below W.heap.size W wr) (fun s6 _ => 101 - (intOf s6).toNat)
  case atStart => exact ⟨0, zc, rfl, by omega, hz, ⟨fun j hj => by omega⟩, BA, hbA⟩
  case round =>
    clear BA hbA hz
    obtain ⟨k, cs, rfl, hk, hcs, hz, hB, hb⟩ := hrel
    by_cases hlt : k < 101
    · have t0 : decide ((k : Int) < 101) = true := by simp; omega
      obtain ⟨v, hv⟩ : ∃ v, cs[k]? = some v := ⟨cs[k], Array.getElem?_eq_getElem (by omega)⟩
      have c0 := hB.cell k hv
      have f0 := hB.frozen k
      have hB2 := hB.set k (.string { data := #[48] })
      have hb2 := bSet hb (p := ⟨W.heap.size, k, none⟩) (Nat.le_refl _) (.string { data := #[48] })
      have hz2 : Kp (∀ j, j < k + 1 → (cs.setIfInBounds k (.string { data := #[48] }))[j]? = some (.string ⟨(Lib.itoa 0).toArray⟩)) := ⟨fun j hj => by
        rw [Array.getElem?_setIfInBounds]
        by_cases e : k = j
        · rw [if_pos e, if_pos (by omega), itoa_0]
        · rw [if_neg e]; exact hz.out j (by omega)⟩
      have hs2 : (cs.setIfInBounds k (.string { data := #[48] })).size = 101 := by rw [Array.size_setIfInBounds]; exact hcs
      clear hz hv hB hb hY hJ hJx hJw
      gi_wp2
      go_roundw
      case rel => exact ⟨k + 1, _, by go_num, by omega, hs2, hz2, hB2, hb2⟩
      case measure => simp [intOf]; omega
    · obtain rfl : k = 101 := by omega
      have e1 := cells_row hcs (f := fun _ => Lib.itoa 0) hz.out
      subst e1
      have c0 := hB.cell 0 (rowC_get _ (by decide))
      have f0 := hB.frozen 0
      have hB2 := hB.set 0 (.string { data := #[49] })
      have hb2 := bSet hb (p := ⟨W.heap.size, 0, none⟩) (Nat.le_refl _) (.string { data := #[49] })
      have e2 : (rowC (fun _ => Lib.itoa 0)).setIfInBounds 0 (.string { data := #[49] }) = rowC (pt 0) := by
        rw [show ({ data := #[49] } : ByteArray) = ⟨(Lib.itoa 1).toArray⟩ by rw [show Lib.itoa 1 = [49] by decide +kernel], rowC_set _ (by decide), zero_row]
      rw [e2] at hB2
      clear hB hb hz hcs e2
      gi_wp2_with fail
      generalize wr.setCell ⟨W.heap.size, 0, none⟩ (.string { data := #[49] }) = W1 at *
      have hj1 := hJ _ _ _ hj0 hb2
      have hs1 := hb2.size
      clear hb2 c0 f0 hj0
      rw [show ((101 : Nat) : Int) = 101 from rfl]
      gi_loopw [4] (fun s4 wr => ∃ k : Nat, s4 = .int .i64 k ∧ k ≤ 101 ∧ (k < 101 → Bx wr W.heap.size 75 (rowC (pt k))) ∧ J ((List.finRange 101).take k) wr ∧ W.heap.size ≤ wr.heap.size) (fun s4 _ => 101 - (intOf s4).toNat)
      case atStart => exact ⟨0, rfl, by omega, fun _ => hB2, hj1, hs1⟩
      case round =>
        clear hB2 hj1 hs1
        obtain ⟨k, rfl, hk, hB, hj, hsz⟩ := hrel
        by_cases hlt : k < 101
        · have t0 : decide ((k : Int) < 101) = true := by simp; omega
          replace hB := hB hlt
          have hltK : Kp (k < 101) := ⟨hlt⟩
          have hfr := fun Y (h : Fr W.heap.size wr Y) => h.keep _ _ (Nat.le_refl _) hB
          obtain ⟨fn, tmps, assign, body, hy, hR⟩ := hY _ ⟨k, hlt⟩ wr hj (by rw [List.length_take, List.length_finRange]; omega)
          rw [← fin_take hlt] at hR
          simp only [rwA] at hy
          clear hY hj
          gi_wp2_with (refine wpIn_row_load (fun _ => trivial) rfl rfl hB ?_)
          refine hR.mono ?_
          rintro e W3 (⟨rfl, hJ3, hk3⟩ | ⟨rfl, hJx3⟩)
          · have B3 : Bx W3 W.heap.size 75 (rowC (pt k)) := hfr W3 hk3
            have hs3 := Nat.le_trans hsz hk3.size
            clear hfr hR hy hB
            gi_wp2_with fail
            gi_loopw [5] (fun s5 wr => ∃ m : Nat, s5 = .int .i64 m ∧ m ≤ k + 1 ∧ Bx wr W.heap.size 75 (rowC (mixT k m)) ∧ J ((List.finRange 101).take (k + 1)) wr ∧ W.heap.size ≤ wr.heap.size) (fun s5 _ => (intOf s5).toNat)
            case atStart => exact ⟨k + 1, by go_num, by omega, by rw [mix_start]; exact B3, hJ3, hs3⟩
            case round =>
              clear B3 hJ3 hs3
              obtain ⟨m, rfl, hm, hB, hj, hsz⟩ := hrel
              by_cases hin : 0 < m ∧ m < 101
              · obtain ⟨p, rfl⟩ : ∃ p, m = p + 1 := ⟨m - 1, by omega⟩
                have hp : p < 100 := by omega
                have hcast : ((p + 1 : Nat) : Int) - 1 = (p : Int) := by omega
                have t1 : decide ((p : Int) + 1 > 0) = true := by simp <;> omega
                have t2 : decide ((p : Int) + 1 < 101) = true := by simp; omega
                have hEr := hE0.below (hJw _ _ hj)
                have x1 := fun d os => (hB.again d os).cell (p + 1) (rowC_get _ (by omega))
                have x2 := fun d os => (hB.again d os).cell p (rowC_get _ (by omega))
                have e1 : mixT k (p + 1) (p + 1) = pt k (p + 1) := by unfold mixT; rw [if_neg (by omega)]
                have e2 : mixT k (p + 1) p = pt k p := by unfold mixT; rw [if_neg (by omega)]
                rw [e1] at x1
                rw [e2] at x2
                have kp := fun d os => plus_s (Sort.grow (redrawn wr d) os) (pt_sum k (p + 1)) (pt_sum k p) (pt_sum (k + 1) (p + 1)) ⟨by rw [Tb.ch_succ, Int.natCast_add, Int.add_comm]⟩ (Tb.ch_sz (by omega) _) (Tb.ch_sz (by omega) _) (Tb.ch_sz (by omega) _) (by decide) (by decide) (by decide) (hEr.below (below_regrown wr d os))
                have hms := mix_step k (p + 1) (by omega)
                rw [Nat.add_sub_cancel] at hms
                replace hms := Kp.mk hms
                generalize pt k (p + 1) = sa at *
                generalize pt k p = sb at *
                generalize pt (k + 1) (p + 1) = sc at *
                gi_wp2_with fail
                refine wpIn_wide.2 ?_
                refine wp_region_below_tail 10 (by kernel_rfl) (by kernel_rfl) ?_
                simp only [List.take, List.drop]
                repeat (go_big_quiet_step (first | (go_at_call 93; with_reducible exact Calls.regrown_of (kp _ _))))
                refine wpQuiet_nil ?_
                rintro _ ⟨z, rfl⟩
                have hbz := below_regrown wr z.d z.os
                have hBz := hB.again z.d z.os
                have hjz := hJ _ _ _ hj (hbz.mono hsz)
                have hsz2 := Nat.le_trans hsz hbz.size
                clear x1 x2 kp hbz hB hj hsz hEr
                generalize Sort.grow (redrawn wr z.d) z.os = W2 at *
                have c0 := hBz.cell (p + 1) (rowC_get _ (by omega))
                have f0 := hBz.frozen (p + 1)
                have B2 := hBz.set (p + 1) (.string ⟨sc.toArray⟩)
                rw [rowC_set _ (by omega), hms.out] at B2
                have hj2 := hJ _ _ _ hjz ((Below.refl W.heap.size W2).setCell (p := ⟨W.heap.size, p + 1, none⟩) (Nat.le_refl _) (.string ⟨sc.toArray⟩))
                have hs2 : W.heap.size ≤ (W2.setCell ⟨W.heap.size, p + 1, none⟩ (.string ⟨sc.toArray⟩)).heap.size := Nat.le_trans hsz2 ((Below.refl W.heap.size W2).setCell (p := ⟨W.heap.size, p + 1, none⟩) (Nat.le_refl _) (.string ⟨sc.toArray⟩)).size
                clear hBz hjz hsz2
                go_wp2_with fail
                gi_wp2_with fail
                go_roundw
                case rel => exact ⟨p, by go_num, by omega, B2, hj2, hs2⟩
                case measure => simp [intOf] <;> omega
              · have hend : k + 1 < 101 → Bx wr W.heap.size 75 (rowC (pt (k + 1))) := fun h => by
                  obtain rfl : m = 0 := by omega
                  rw [mix_end] at hB
                  exact hB
                rcases (show m = 0 ∨ m = 101 by omega) with rfl | rfl
                · clear hB
                  have hltA := hltK.out
                  have hwr : IntKind.i64.wrap ((k : Int) + 1) = (k : Int) + 1 := IntWalk.i64_in _ ⟨by omega, by omega⟩
                  gi_wp2_with (refine ⟨fun _ _ => trivial, ?_⟩)
                  go_roundw
                  case rel => exact ⟨k + 1, by go_num, by omega, hend, hj, hsz⟩
                  case measure => simp [intOf] <;> omega
                · clear hB
                  have hltA := hltK.out
                  have hwr : IntKind.i64.wrap ((k : Int) + 1) = (k : Int) + 1 := IntWalk.i64_in _ ⟨by omega, by omega⟩
                  gi_wp2_with (refine ⟨fun _ _ => trivial, ?_⟩)
                  go_roundw
                  case rel => exact ⟨k + 1, by go_num, by omega, hend, hj, hsz⟩
                  case measure => simp [intOf] <;> omega
          · gi_wp2_with (refine ⟨fun _ _ => trivial, ?_⟩)
            go_end0
            exact ⟨⟨_, rfl⟩, .inr ⟨_, hJx3⟩⟩
        · obtain rfl : k = 101 := by omega
          rw [List.take_of_length_le (by simp)] at hj
          clear hY
          have t0 : decide (((101 : Nat) : Int) < 101) = false := by decide
          gi_wp2_with (refine ⟨fun _ _ => trivial, ?_⟩)
          go_end0
          exact ⟨⟨_, rfl⟩, .inl ⟨_, rfl, hj⟩⟩
end Go.Proofs.YtklelhkcbdajpaaGreatDoor
namespace Go.Proofs.YtklelhkcbdajpaaGreatDoor
open Go.RowKit Go.Shelf
attribute [local go_sem] Oper.semAt_some
theorem rows_in (n : Nat) (w : World) : CallsIn Fence.wide n Tryz.prog 92 #[] w fun e w' => e = .returned (.func (.func 123) #[] #[]) ∧ w' = w := by
  refine callsIn_of_wp Tryz.func92 rfl trivial ?_ rfl
  simp only [Tryz.ntmps92, List.size_toArray, List.length_cons, List.length_nil, Nat.reduceAdd, Nat.reduceSub, Array.replicate_succ, Array.replicate_zero, List.push_toArray, List.append_toArray, List.nil_append, List.cons_append]
  gi_wp2
  go_ret
  exact ⟨rfl, rfl⟩
theorem pascal_any (k : Nat) (w : World) (hk : k ≤ 100) (hE : Env w) :
    Calls Tryz.prog 49 #[.int .i64 k] w fun e w' => e = .returned (.agg (rowC (pt k))) ∧ Below w.heap.size w w' := by
  refine (callsIn_wide (n := 3)).1 ?_
  refine callsIn_of_wp_marks Tryz.func49 rfl trivial ?_ rfl
  simp only [Tryz.ntmps49, List.size_toArray, List.length_cons, List.length_nil, Nat.reduceAdd, Nat.reduceSub, Array.replicate_succ, Array.replicate_zero, List.push_toArray, List.append_toArray, List.nil_append, List.cons_append]
  have hb0 := bNew (bNewW w (.cells #[.int .i64 k] 3)) (.cells Tryz.zeroCells75 75)
  have B1 := (Bx.mk w 3 #[.int .i64 k]).new (.cells Tryz.zeroCells75 75)
  have B2 := Bx.mk (w.alloc (.cells #[.int .i64 k] 3)) 75 Tryz.zeroCells75
  rw [alloc_size] at B2
  have hz := zc_size
  gi_wp2_with (refine ⟨trivial, ?_⟩; gi_at_call 92; refine (rows_in _ _).mono ?_; rintro e w' ⟨rfl, rfl⟩)
  generalize Tryz.zeroCells75 = zc at *
  refine wpIn_range_c (by decide) (gf := 123) (lb := #[]) rfl (enters_of Tryz.func123 (by kernel_rfl) rfl) (rows_seq 2 (by decide) w hE) hb0 (fun _ => rfl)
    (fun pre X => Below w.heap.size w X ∧ Bx X w.heap.size 3 #[.int .i64 k] ∧ Bx X (w.heap.size + 1) 75 zc ∧ ∀ y ∈ pre, y.1 ≠ k)
    (fun _ X => Below w.heap.size w X ∧ Bx X (w.heap.size + 1) 75 (rowC (pt k)))
    (fun s X Y h hb => ?_) (fun s X Y h hb => ?_) (fun s X h => h.1) ⟨hb0, B1, B2, fun y hy => by cases hy⟩
    (fun x a' X => ∃ g, a' = { tmps := #[.int .i64 k, .pointer (some ⟨w.heap.size, 0, none⟩), .pointer (some ⟨w.heap.size + 1, 0, none⟩), .int .i64 (x.1 : Int), .pointer (some ⟨g, 0, none⟩), .func (.func 123) #[] #[], .int .i64 (x.1 : Int), .agg (rowC (pt x.1)), undef, undef, undef, undef, undef], defers := [] } ∧ Bx X g 75 (rowC (pt x.1)))
    (fun x a' X l o o' h ho hc => ?_) ?assign ?body ?done ?stop
  · have hs : ((w.alloc (.cells #[.int .i64 k] 3)).alloc (.cells zc 75)).heap.size = w.heap.size + 2 := by rw [alloc_size, alloc_size]
    rw [hs] at hb
    exact ⟨h.1.trans (hb.mono (by omega)), h.2.1.below hb (by omega), h.2.2.1.below hb (by omega), h.2.2.2⟩
  · have hs : ((w.alloc (.cells #[.int .i64 k] 3)).alloc (.cells zc 75)).heap.size = w.heap.size + 2 := by rw [alloc_size, alloc_size]
    rw [hs] at hb
    exact ⟨h.1.trans (hb.mono (by omega)), h.2.below hb (by omega)⟩
  · obtain ⟨g, e, hB⟩ := h
    refine ⟨g, e, (World.putObj_heap_other ?_).trans hB⟩
    rintro rfl
    rw [show X.heap[g]? = _ from hB] at ho
    cases ho; cases hc
  case assign =>
    intro l x W K hK
    simp only [rwA]
    have B3 := Bx.mk W 75 Tryz.zeroCells75
    gi_wp2_with (refine wpIn_row_store (fun _ => trivial) rfl rfl rfl B3 zc_size ?_)
    exact hK _ _ ((bNewW W _).trans (below_setRow _ _ (Nat.le_refl _))) ⟨_, rfl, bx_setRow B3 _⟩
  case body =>
    rintro l pre x a' W ⟨hb, hB1, hB2, hpre⟩ ⟨g, rfl, hB⟩ hlen
    have c0 := hB1.cell 0 rfl
    by_cases hx : x.1 = k
    · have hx2 : (x.1 : Int) = (k : Int) := by omega
      rw [hx] at hB
      rw [hx]
      have hfin : Fr ((w.alloc (.cells #[.int .i64 k] 3)).alloc (.cells zc 75)).heap.size W (W.setRow (w.heap.size + 1) (rowC (pt k))) := by
        rw [alloc_size, alloc_size]
        exact ⟨by show W.heap.size ≤ (W.heap.modify _ _).size; simp, fun b o hbb ho => (setRow_other _ (by omega)).trans ho⟩
      have hbl : Below w.heap.size w (W.setRow (w.heap.size + 1) (rowC (pt k))) := hb.trans (below_setRow _ _ (by omega))
      gi_wp2_with (first | (refine wpIn_row_load (fun _ => trivial) rfl rfl hB ?_) | (refine wpIn_row_store (fun _ => trivial) rfl rfl rfl hB2 hz ?_))
      exact ⟨hfin, hbl, bx_setRow hB2 _⟩
    · have hx2 : ((x.1 : Int) == (k : Int)) = false := by simp; omega
      gi_wp2
      refine ⟨Fr.below (bStart _), hb, hB1, hB2, fun y hy => ?_⟩
      rcases List.mem_append.1 hy with hy | hy
      · exact hpre y hy
      · rw [List.mem_singleton.1 hy]; exact hx
  case done =>
    rintro D xs W hD rfl ⟨_, _, _, hno⟩ _
    exact absurd rfl (hno ⟨k, by omega⟩ (List.mem_finRange _))
  case stop =>
    rintro D pre W hD ⟨hb, hB⟩ hDD
    rw [alloc_size, alloc_size] at hD
    gi_wp2
    refine ⟨by simp, .inl ⟨_, _, rfl, run_takeDeferred hDD, ?_⟩⟩
    have hB9 : Bx (W.putObj D (.deferred none)) (w.heap.size + 1) 75 (rowC (pt k)) := (World.putObj_heap_other (by omega)).trans hB
    exact ⟨_, results_cell_row rfl _ _ (w.heap.size + 1) _ (rowC (pt k)) (0, 0) _ rfl hB9 tri_under rfl (by rw [rowC_size]; exact tri_size), rfl, hb.trans (below_put (by omega) hDD)⟩
end Go.Proofs.YtklelhkcbdajpaaGreatDoor
namespace Go.Proofs.YtklelhkcbdajpaaGreatDoor
open Go.RowKit
def looksG (ops : Array Oper) (n : Nat) : Bool :=
  (List.range n).all fun i => match ops[i]? with
    | none => true
    | some o => (match o.op with | .select .. => false | _ => true) &&
      (o.looksAt ops).all fun t => (List.range ops.size).all fun j => match ops[j]? with | some oj => oj.dst != some t || decide (j < i) || decide (n ≤ j) | none => true
theorem wanted_same {ops : Array Oper} {o : Oper} {a b : Act} (hsz : a.tmps.size = b.tmps.size) (h : ∀ t ∈ o.looksAt ops, a.tmps.getD t undef = b.tmps.getD t undef) : Region.wanted o (yielded ops a.tmps) = Region.wanted o (yielded ops b.tmps) := by
  unfold Region.wanted
  cases hg : o.guard with
  | none => rfl
  | some g =>
    obtain ⟨j, want⟩ := g
    simp only
    congr 1
    unfold yielded
    cases hd : (ops[j]?).bind (·.dst) with
    | none => rfl
    | some t =>
      have ht : t ∈ o.looksAt ops := by
        unfold Oper.looksAt
        rw [hg]
        simp [hd]
      have h1 := h t ht
      simp only [Option.bind_some]
      by_cases hlt : t < a.tmps.size
      · have hlt' : t < b.tmps.size := hsz ▸ hlt
        simp only [Array.getD_eq_getD_getElem?, Array.getElem?_eq_getElem hlt, Array.getElem?_eq_getElem hlt', Option.getD_some] at h1
        rw [Array.getElem?_eq_getElem hlt, Array.getElem?_eq_getElem hlt', h1]
      · rw [Array.getElem?_eq_none (Nat.le_of_not_lt hlt), Array.getElem?_eq_none (Nat.le_of_not_lt (hsz ▸ hlt))]
section
variable {P : Program} {ops : Array Oper} {R : Nat → Value → World → Prop} {w0 : World} {a0 : Act} {Q : Exit → Act → World → Prop}
theorem step_of_userG {n i : Nat} {o : Oper} (hok : okRG ops a0.tmps.size = true) (hlk : looksG ops n = true) (hi : i < n) (hin : n ≤ ops.size) (ho : ops[i]? = some o) (h : UserRG P ops R w0 a0 i o) : StepRG P ops n R w0 a0 Q i o := by
  intro a w hb hsame hdeps
  have h1 := List.all_eq_true.1 hlk i (List.mem_range.2 hi)
  simp only [ho, Bool.and_eq_true] at h1
  obtain ⟨hsel, hl⟩ := h1
  have hu := h (slotV ops a) w hb (AllE_of _ fun e he hbd => hdeps e (by simpa using he) hbd)
  have hslots : ∀ t ∈ o.looksAt ops, (seen ops (slotV ops a) i a0).tmps.getD t undef = a.tmps.getD t undef := fun t ht => by
    have h2 := List.all_eq_true.1 hl t ht
    refine seen_slot (Nat.le_of_lt hi) hok hsame fun j oj hj hd => ?_
    have h3 := List.all_eq_true.1 h2 j (List.mem_range.2 (Array.getElem?_eq_some_iff.1 hj).1)
    simpa [hj, hd] using h3
  have hsz := putAll_size (slotV ops a) (ops.toList.take i) 0 a0
  have hsz' : (seen ops (slotV ops a) i a0).tmps.size = a.tmps.size := by rw [seen, hsz.1, hsame.2.1]
  have hput : ∀ v, dstV o ((seen ops (slotV ops a) i a0).put o.dst v) = if o.dst.isSome then v else undef := by
    intro v
    unfold dstV
    cases hd : o.dst with
    | none => rfl
    | some d =>
      simp only [Option.isSome_some, if_true]
      rw [getD_put, if_pos ⟨rfl, by rw [seen, hsz.1]; exact (okRG_spec hok ho).2.1 d hd⟩]
  simp only [wpList] at hu
  rw [wanted_same hsz' hslots] at hu
  by_cases hw : Region.wanted o (yielded ops a.tmps) = true
  · rw [if_pos hw] at hu ⊢
    have hexec : execOp a.eval o = execOp (seen ops (slotV ops a) i a0).eval o := by
      refine execOp_congr o (fun cs b e => by rw [e] at hsel; simp at hsel) fun x hx => ?_
      cases x with
      | tmp t => exact (hslots t (List.mem_append_left _ (List.mem_filterMap.2 ⟨.tmp t, by simpa using hx, rfl⟩))).symm
      | _ => rfl
    rcases hu with hu | hu
    · unfold Oper.wp at hu ⊢
      rw [hexec]
      generalize (execOp (seen ops (slotV ops a) i a0).eval o).run P w = r at hu
      cases r with
      | halt x w' => cases x <;> simp only [Oper.upon] at hu ⊢ <;> first | exact absurd hu.1 (by simp) | exact hu
      | ok nx w' =>
        cases nx <;> simp only [Oper.upon] at hu ⊢
        case value v => exact ⟨v, rfl, hu.2.2.1, by rw [← hput]; exact hu.2.2.2⟩
        case skip => exact ⟨undef, rfl, hu.2.2.1, by rw [← hput]; exact hu.2.2.2⟩
        case defer d =>
          exfalso
          have := hu.2.1
          have h9 := congrArg List.length this
          cases hd : o.dst <;> simp [hd, Act.put, seen, hsz.2] at h9
        case enter f args =>
          refine Calls.mono hu fun e w'' he => ?_
          cases e with
          | returned v => exact ⟨v, rfl, he.2.2.1, by rw [← hput]; exact he.2.2.2⟩
          | panicked c => exact absurd he.1 (by simp)
          | outgrown => exact (not_letsOut (R := R i) he).elim
        case row s args => exact Rows.mono hu fun v w'' he => ⟨v, rfl, he.2.2.1, by rw [← hput]; exact he.2.2.2⟩
        all_goals exact hu.elim
    · exact (not_letsOut (R := R i) hu.2).elim
  · rw [if_neg hw] at hu ⊢
    have h9 := hu.2.2.2
    rw [hput] at h9
    split at h9 <;> exact h9
end
def UsersG (P : Program) (ops : Array Oper) (ps : List (Value → World → Prop)) (w0 : World) (a0 : Act) : List (Option Tmp) → List Oper → List (Value → World → Prop) → Prop
  | pre, o :: l, q :: qs => (∀ (vs : Nat → Value) (w : World), Below w0.heap.size w0 w → (∀ j, depB o j = true → rel ps j (vs j) w) →
      wpList P ops (fun e a' w' => e = .normal ∧ a'.defers = a0.defers ∧ Below w.heap.size w w' ∧ q (dstV o a') w') [o] (putD vs 0 pre a0) w) ∧ UsersG P ops ps w0 a0 (pre ++ [o.dst]) l qs
  | _, _, _ => True
theorem UsersG.rg {P : Program} {ps : List (Value → World → Prop)} {w0 : World} {a0 : Act} {L : List Oper} {n : Nat} (hnp : n ≤ ps.length) : ∀ (l : List Oper) (k : Nat), (∀ j, l[j]? = (L.take n)[k + j]?) → UsersG P L.toArray ps w0 a0 ((L.take k).map (·.dst)) l (ps.drop k) → UsersRG P L.toArray (rel ps) w0 a0 k l
  | [], _, _, _ => trivial
  | o :: l, k, hl, h => by
    have h0 : (L.take n)[k]? = some o := by simpa using (hl 0).symm
    obtain ⟨hkn, hLo⟩ := take_get' h0
    have hkp : k < ps.length := by omega
    rw [List.drop_eq_getElem_cons hkp] at h
    refine ⟨fun vs w hb hE => ?_, UsersG.rg hnp l (k + 1) (fun j => by have := hl (j + 1); simpa [Nat.add_assoc, Nat.add_comm 1 j] using this) ?_⟩
    · have hu := h.1 vs w hb fun j hj => by
        obtain ⟨e, he, hej⟩ := List.any_eq_true.1 hj
        simp only [Bool.and_eq_true, beq_iff_eq] at hej
        have := AllE_get _ hE e he hej.1
        rwa [hej.2] at this
      have hfr : seen L.toArray vs k a0 = putD vs 0 ((L.take k).map (·.dst)) a0 := putAll_D vs _ 0 a0
      rw [hfr]
      have hq : ps[k] = ps.getD k Anyv := by simp [List.getD_eq_getElem?_getD, hkp]
      rw [hq] at hu
      exact hu
    · have h2 := h.2
      have e1 : (L.take k).map (·.dst) ++ [o.dst] = (L.take (k + 1)).map (·.dst) := by
        rw [List.take_add_one, hLo]; simp
      rw [e1] at h2
      exact h2
end Go.Proofs.YtklelhkcbdajpaaGreatDoor
namespace Go.Proofs.YtklelhkcbdajpaaGreatDoor
open Go.RowKit
end Go.Proofs.YtklelhkcbdajpaaGreatDoor

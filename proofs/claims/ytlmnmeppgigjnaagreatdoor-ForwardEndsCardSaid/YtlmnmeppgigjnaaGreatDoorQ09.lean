/- Conditions of the reference. Plain mathematics of chapter 22: what the laws ask of a route of made settings. has of the law package. through of the law package. next of the law package. Arguments that are slices of plain data, opened into lists; arguments read behind the call as before. What the cards of the laws of package dialtonelaw22 share: arguments opened. -/
import Derived.Test.YtlmnmeppgigjnaaGreatDoorQ08
import Derived.Test.YtlmnmeppgigjnaaGreatDoorQ01
import Derived.Deep.Slices
import Derived.ProofKit
import Derived.OpenShut
import Derived.Test.YtlmnmeppgigjnaaGreatDoorCards
import Derived.Test.YtlmnmeppgigjnaaGreatDoorTie
import Derived.LaidMore
import Derived.Lay
import Derived.SevenTiedAt
import Derived.Stop.Joined
import Derived.Stop.LaidErr
import Derived.Lib.LaidTab
namespace Go.Proofs.YtlmnmeppgigjnaaGreatDoor
set_option linter.unusedVariables false
set_option linter.unusedSimpArgs false
open Go.RowKit Go.Shelf
attribute [local go_sem] Oper.semAt_some
set_option maxRecDepth 100000 in
set_option maxHeartbeats 4000000 in
theorem conds_any (x : Int) (h : I6 x) (w : World) :
    Calls Tryz.prog 11 #[.int .i64 x] w fun e w' => ∃ v, e = .returned v ∧ Below w.heap.size w w' ∧ RowZ 37 2 w.heap.size (Tw.conds x).length ((Tw.conds x).flatMap cdC) v w' := by
  obtain ⟨ti, tz, hti, hzz, hs1, hz1, hby⟩ := conI
  have hp := fun w0 => rpick_any x 65536 (by decide) h w0
  obtain ⟨hp0, hp1⟩ := Tw.pick_in x (n := 65536) (by decide)
  go_enter Tryz.func11, Tryz.ntmps11
  go_wp2_with (go_at_call 31; refine (hp _).mono ?_; rintro _ w1 ⟨rfl, rfl⟩)
  clear hp
  go_loopw [3, 5] (fun s3 s5 wr => ∃ (k : Nat) (sv : Value), k ≤ 8 ∧ s5 = .int .i64 k ∧ s3 = sv ∧ Below w.heap.size w wr ∧ RowZ 37 2 w.heap.size (Tw.condG x k).length ((Tw.condG x k).flatMap cdC) sv wr) (fun _ s5 _ => 8 - (intOf s5).toNat)
  case atStart => exact ⟨0, _, by omega, rfl, rfl, Below.refl _ _, .inl ⟨rfl, rfl, rfl⟩⟩
  case round =>
    obtain ⟨k, sv, hk, rfl, rfl, hb, hRow⟩ := hrel
    by_cases hlt : k < 8
    · have t0 : decide ((k : Int) < 8) = true := by simp; omega
      have hq0 : 0 ≤ Tw.pick x 65536 / (2 : Int) ^ (2 * k) := Int.ediv_nonneg hp0 (Int.pow_nonneg (by decide))
      have hlen := (Tw.condG_ok x k hk).2.2
      by_cases hg : Tw.dig x k > 0
      · have tg : decide (Tw.pick x 65536 / (2 : Int) ^ (2 * k) % 4 > 0) = true := decide_eq_true hg
        have hnx : Kp (Tw.condG x (k + 1) = Tw.condG x k ++ [(10 + (k : Int), 1 + Tw.pick x 65536 / (2 : Int) ^ (2 * k) % 4)]) := ⟨if_pos hg⟩
        have hd0 : 0 ≤ Tw.pick x 65536 / (2 : Int) ^ (2 * k) % 4 := Int.emod_nonneg _ (by decide)
        have hd4 : Tw.pick x 65536 / (2 : Int) ^ (2 * k) % 4 < 4 := Int.emod_lt_of_pos _ (by decide)
        clear hg
        have hbA : Below wr.heap.size wr (wr.alloc (.cells #[.int .i64 (10 + (k : Int)), .int .i64 (1 + Tw.pick x 65536 / (2 : Int) ^ (2 * k) % 4)] 37)) := bNew (Below.refl _ _) _
        have hRowA := stab_rowZ _ _ _ _ _ _ _ _ hRow hbA
        have hsrc : Src Tryz.prog 2 26 (.slice (some ⟨wr.heap.size, 0, none⟩) 1 1) 1 (cdC (10 + (k : Int), 1 + Tw.pick x 65536 / (2 : Int) ^ (2 * k) % 4)) (wr.alloc (.cells #[.int .i64 (10 + (k : Int)), .int .i64 (1 + Tw.pick x 65536 / (2 : Int) ^ (2 * k) % 4)] 37)) := RowC.src (P := Tryz.prog) (B := 0) (cap := 1) (e := 37) (t := 26) (cdC_one _) Tryz.underlying26 ⟨wr.heap.size, _, rfl, Nat.zero_le _, Nat.le_refl _, Bx.mk _ _ _, rfl, rfl⟩
        have hbr := hb.trans (hbA.mono hb.size)
        have hsz := hbr.size
        go_wp2_with (at_builtin; refine wpList_append_rowF rfl (.tmp 18) (.tmp 28) 26 37 rfl ti tz 2 w.heap.size (Tw.condG x k).length 1 ((Tw.condG x k).flatMap cdC) (cdC (10 + (k : Int), 1 + Tw.pick x 65536 / (2 : Int) ^ (2 * k) % 4)) _ (.slice (some ⟨wr.heap.size, 0, none⟩) 1 1) Tryz.underlying26 hti hzz hs1 hz1 rfl rfl hRowA hsz hsrc (by decide) (by unfold maxLen; omega) (by rw [hby]; omega) ?_; intro v9 w9 e1 e0 e4; replace e1 := Kp.mk e1; replace e0 := Kp.mk e0; replace e4 := Kp.mk e4)
        exact ⟨⟨k + 1, _, by omega, by go_num, rfl, hbr.trans e1.out, by rw [hnx.out, List.length_append, List.length_singleton, List.flatMap_append]; exact e4.out⟩, by simp [intOf]; omega⟩
      · have tg : decide (Tw.pick x 65536 / (2 : Int) ^ (2 * k) % 4 > 0) = false := decide_eq_false hg
        have hnx : Kp (Tw.condG x (k + 1) = Tw.condG x k) := ⟨if_neg hg⟩
        clear hg
        go_wp2_with fail
        exact ⟨⟨k + 1, _, by omega, by go_num, rfl, hb, by rw [hnx.out]; exact hRow⟩, by simp [intOf]; omega⟩
    · obtain rfl : k = 8 := by omega
      go_wp2_with fail
      go_ret
      exact ⟨_, rfl, hb, hRow⟩
end Go.Proofs.YtlmnmeppgigjnaaGreatDoor
namespace Go.Proofs.YtlmnmeppgigjnaaGreatDoor
namespace Tw
set_option linter.unusedVariables false
set_option linter.unusedSimpArgs false
theorem nd_take {p : List Int} (h : p.Nodup) {k : Nat} {m : Int} (hk : p[k]? = some m) : m ∉ p.take k := fun hm => by
  obtain ⟨j, hj, e⟩ := List.getElem_of_mem hm
  rw [List.length_take] at hj
  obtain ⟨hl, e2⟩ := List.getElem?_eq_some_iff.1 hk
  have h1 := List.pairwise_iff_getElem.1 h j k (by omega) hl (by omega)
  rw [List.getElem_take] at e
  exact h1 (by rw [e, e2])
/-- what a law asks of a route -/
structure EnL (l : List St) (c : List (Int × Int)) (t n : Int) (r : Ro) : Prop where
  len : r.path.length = r.used.length + 1
  first : r.path[0]? = some n
  u5 : r.used.length ≤ 5
  k1 : 1 ≤ r.kind
  k6 : r.kind ≤ 6
  rng : ∀ (i : Nat) (m : Int), r.path[i]? = some m → 10 ≤ m ∧ m ≤ 18
  stp : ∀ i, i < r.used.length → Stp l c t r.path r.used i
  nd : ∀ (i : Nat) (m : Int), i < r.used.length → r.path[i]? = some m → m ∉ r.path.take i
  last : ∃ m, r.path[r.used.length]? = some m ∧ (m ∈ r.path.take r.used.length ↔ r.kind = 5) ∧ (r.kind = 6 → r.used.length = 5) ∧ (r.kind < 5 → r.kind = max (cond c m) 1)
theorem enL {l : List St} {c : List (Int × Int)} {t n : Int} (hs : ∀ s ∈ l, Sm s) (hc : Vc c) (hn : 10 ≤ n ∧ n ≤ 18) : EnL l c t n (route l c n t) := by
  have hE := route_ok l c n t
  generalize route l c n t = r at hE ⊢
  have hlast : ∃ m, r.path[r.used.length]? = some m ∧ (m ∈ r.path.take r.used.length ↔ r.kind = 5) ∧ (r.kind = 6 → r.used.length = 5) ∧ (r.kind < 5 → r.kind = max (cond c m) 1) ∧ 1 ≤ r.kind ∧ r.kind ≤ 6 := by
    rcases hE.fin with ⟨m, h1, -, h3, h4⟩ | ⟨h1, h2, h3⟩ | ⟨h1, m, h2, h3⟩
    · have hk := cond_le hc m
      exact ⟨m, h1, ⟨fun h => absurd h (nd_take h4 h1), fun h => by omega⟩, fun h => by omega, fun _ => h3, by omega, by omega⟩
    · have hl : r.used.length < r.path.length := by have := hE.len; omega
      exact ⟨_, List.getElem?_eq_getElem hl, ⟨fun h => absurd h (nd_take h3 (List.getElem?_eq_getElem hl)), fun h => by omega⟩, fun _ => h2, fun h => by omega, by omega, by omega⟩
    · exact ⟨m, h2, ⟨fun _ => h1, fun _ => h3⟩, fun h => by omega, fun h => by omega, by omega, by omega⟩
  obtain ⟨m, m1, m2, m3, m4, m5, m6⟩ := hlast
  refine ⟨hE.len, hE.first, hE.u5, m5, m6, fun i x hx => ?_, hE.stp, fun i x hi hx => ?_, m, m1, m2, m3, m4⟩
  · rcases Nat.eq_zero_or_pos i with rfl | h0
    · rw [hE.first] at hx; cases hx; exact hn
    · have hi : i < r.path.length := (List.getElem?_eq_some_iff.1 hx).1
      have hlen := hE.len
      obtain ⟨j, s, -, h2, -, h4, -⟩ := hE.stp (i - 1) (by omega)
      rw [show i - 1 + 1 = i by omega, hx] at h4
      cases h4
      obtain ⟨hj, e⟩ := List.getElem?_eq_some_iff.1 h2
      have := hs s (by rw [← e]; exact List.getElem_mem hj)
      exact ⟨this.t0, by have := this.t2; omega⟩
  · have h1 : (r.path.take r.used.length)[i]? = some x := by rw [List.getElem?_take_of_lt hi]; exact hx
    have h2 := nd_take hE.nd h1
    rw [List.take_take, Nat.min_eq_left (by omega)] at h2
    exact h2
/-- the condition of a number, of the first conditions -/
theorem cond_take {c : List (Int × Int)} (hv : Vc c) {i : Nat} (hi : i < c.length) (n : Int) : cond (c.take (i + 1)) n = if n = c[i].1 then c[i].2 else cond (c.take i) n := by
  rw [cond_F, cond_F, condF_take hv hi]
  by_cases h : n = c[i].1
  · rw [if_pos h, if_pos h]; rfl
  · rw [if_neg h, if_neg h]
theorem cond_zero (n : Int) : cond [] n = 0 := rfl
end Tw
end Go.Proofs.YtlmnmeppgigjnaaGreatDoor
namespace Go.Proofs.YtlmnmeppgigjnaaGreatDoor
set_option linter.unusedVariables false
set_option linter.unusedSimpArgs false
open Go.RowKit Go.Shelf
attribute [local go_sem] Oper.semAt_some
set_option maxRecDepth 100000 in
set_option maxHeartbeats 4000000 in
theorem has_any (l : List Int) (A : Option Addr) (cap : Nat) (x : Int) (w : World) (hA : At 1 inC w w.heap.size A l) (hn : l.length ≤ cap) (hl : l.length ≤ 9223372036854775807) :
    Calls Tryz.prog 15 #[.slice A l.length cap, .int .i64 x] w fun e w' => e = .returned (.bool (decide (x ∈ l))) ∧ Below w.heap.size w w' := by
  go_enter Tryz.func15, Tryz.ntmps15
  go_wp2
  go_loopw [5] (fun s5 wr => ∃ k : Nat, k ≤ l.length ∧ s5 = .int .i64 k ∧ Kp (∀ (j : Nat) (h : j < l.length), j < k → l[j] ≠ x) ∧ wr = w) (fun s5 _ => l.length - (intOf s5).toNat)
  case atStart => exact ⟨0, Nat.zero_le _, rfl, ⟨fun j hj h => by omega⟩, rfl⟩
  case round =>
    obtain ⟨k, hk, rfl, hno, rfl⟩ := hrel
    by_cases hlt : k < l.length
    · obtain ⟨p, off, rfl, hbB, hcell⟩ := hA.run (Nat.le_refl _) hlt
      have c0 := hcell _ (Below.refl _ _) 0 _ rfl
      simp only [Nat.add_zero, Nat.mul_one] at c0
      have hyes : Kp (l[k] = x → decide (x ∈ l) = true) := ⟨fun h => decide_eq_true (h ▸ List.getElem_mem hlt)⟩
      have hnx : Kp (l[k] ≠ x → ∀ (j : Nat) (h : j < l.length), j < k + 1 → l[j] ≠ x) := ⟨fun h j h1 hjk => by
        rcases Nat.lt_or_ge j k with h3 | h3
        · exact hno.out j h1 h3
        · obtain rfl : j = k := by omega
          exact h⟩
      clear hcell hA hno
      generalize l[k] = y at *
      by_cases e : y = x
      · have ht : (y == x) = true := by simp [e]
        have hy := Kp.mk (hyes.out e)
        clear hyes hnx e
        go_wp2
        go_ret
        exact ⟨ret_bool (by rw [hy.out]), Below.refl _ _⟩
      · have ht : (y == x) = false := by simpa using e
        have hy := Kp.mk (hnx.out e)
        clear hyes hnx e
        go_wp2
        exact ⟨⟨k + 1, by omega, by go_num, hy, trivial⟩, by simp [intOf]; omega⟩
    · have hfin : Kp (decide (x ∈ l) = false) := ⟨decide_eq_false fun h => by
        obtain ⟨j, hj, e⟩ := List.getElem_of_mem h
        exact hno.out j hj (by omega) e⟩
      clear hno hA
      go_wp2
      go_ret
      exact ⟨ret_bool (by rw [hfin.out]), Below.refl _ _⟩
end Go.Proofs.YtlmnmeppgigjnaaGreatDoor
namespace Go.Proofs.YtlmnmeppgigjnaaGreatDoor
set_option linter.unusedVariables false
set_option linter.unusedSimpArgs false
open Go.RowKit Go.Shelf
attribute [local go_sem] Oper.semAt_some
set_option maxRecDepth 100000 in
set_option maxHeartbeats 4000000 in
theorem through_any (out : List (List Int)) (v : Value) (x : Int) (w : World) (hR : RrA out v w) :
    Calls Tryz.prog 24 #[v, .int .i64 x] w fun e w' => e = .returned (.bool (out.any fun r => decide (x ∈ r))) ∧ Below w.heap.size w w' := by
  obtain ⟨es, rfl, hlo, A, cap, rfl, hA, hn, hm⟩ := hR
  have hml := mlen hm
  go_enter Tryz.func24, Tryz.ntmps24
  go_wp2
  go_loopw [5] (fun s5 wr => ∃ k : Nat, k ≤ es.length ∧ s5 = .int .i64 k ∧ Kp (∀ (j : Nat) (h : j < es.length), j < k → x ∉ es[j].2) ∧ Below w.heap.size w wr) (fun s5 _ => es.length - (intOf s5).toNat)
  case atStart => exact ⟨0, Nat.zero_le _, rfl, ⟨fun j hj h => by omega⟩, Below.refl _ _⟩
  case round =>
    obtain ⟨k, hk, rfl, hno, hb⟩ := hrel
    by_cases hlt : k < es.length
    · obtain ⟨p, off, rfl, hbB, hcell⟩ := hA.run (Nat.le_refl _) hlt
      have c0 := hcell _ hb 0 _ rfl
      simp only [Nat.add_zero, Nat.mul_one] at c0
      have l1 := hlo es[k] (List.getElem_mem hlt)
      have hyes : Kp (x ∈ es[k].2 → ((es.map fun e : Value × List Int => e.2).any fun r => decide (x ∈ r)) = true) := ⟨fun h => List.any_eq_true.2 ⟨es[k].2, List.mem_map.2 ⟨es[k], List.getElem_mem hlt, rfl⟩, decide_eq_true h⟩⟩
      have hnx : Kp (x ∉ es[k].2 → ∀ (j : Nat) (h : j < es.length), j < k + 1 → x ∉ es[j].2) := ⟨fun h j h1 hjk => by
        rcases Nat.lt_or_ge j k with h3 | h3
        · exact hno.out j h1 h3
        · obtain rfl : j = k := by omega
          exact h⟩
      clear hcell hA hno
      generalize es[k] = y at *
      obtain ⟨v1, x1⟩ := y
      dsimp only at l1 hnx hyes
      obtain ⟨-, q1, o1, d1, rfl, i1, j1, m1⟩ := l1
      have hh := has_any x1 (some ⟨q1, o1, none⟩) d1 x _ (i1.callx hb) j1 (by have := mlen m1; omega)
      clear i1
      generalize hdd : decide (x ∈ x1) = dd at *
      go_wp2_with fail
      refine hh.mono ?_
      rintro _ w1 ⟨rfl, hb1⟩
      have hb2 := bCall hb hb1
      clear hh c0 hb hb1
      cases dd
      · have hy := Kp.mk (hnx.out (of_decide_eq_false hdd))
        clear hyes hnx hdd
        go_wp2
        exact ⟨⟨k + 1, by omega, by go_num, hy, hb2⟩, by simp [intOf]; omega⟩
      · have hy := Kp.mk (hyes.out (of_decide_eq_true hdd))
        clear hyes hnx hdd
        go_wp2
        go_ret
        exact ⟨ret_bool (by rw [hy.out]), hb2⟩
    · have hfin : Kp (((es.map fun e : Value × List Int => e.2).any fun r => decide (x ∈ r)) = false) := ⟨by
        rw [List.any_eq_false]
        intro r hr
        obtain ⟨e, he, rfl⟩ := List.mem_map.1 hr
        obtain ⟨j, hj, rfl⟩ := List.getElem_of_mem he
        simpa using hno.out j hj (by omega)⟩
      clear hno hA
      go_wp2
      go_ret
      exact ⟨ret_bool (by rw [hfin.out]), hb⟩
end Go.Proofs.YtlmnmeppgigjnaaGreatDoor
namespace Go.Proofs.YtlmnmeppgigjnaaGreatDoor
set_option linter.unusedVariables false
set_option linter.unusedSimpArgs false
open Go.RowKit Go.Shelf
attribute [local go_sem] Oper.semAt_some
set_option maxRecDepth 100000 in
set_option maxHeartbeats 4000000 in
theorem next_any (l : List Tw.St) (A : Option Addr) (cap : Nat) (n t : Int) (w : World) (hv : Tw.Va l) (hA : At 5 stC w w.heap.size A l) (hn : l.length ≤ cap) :
    Calls Tryz.prog 19 #[.slice A l.length cap, .int .i64 n, .int .i64 t] w fun e w' => e = .returned (.int .i64 ((Tw.nx l t n).getD (-1))) ∧ Below w.heap.size w w' := by
  have hl40 := hv.len
  go_enter Tryz.func19, Tryz.ntmps19
  go_wp2
  go_loopw [7] (fun s7 wr => ∃ k : Nat, k ≤ l.length ∧ s7 = .int .i64 k ∧ Kp (∀ (j : Nat) (h : j < l.length), j < k → Tw.hit n 1 t l[j] = false) ∧ wr = w) (fun s7 _ => l.length - (intOf s7).toNat)
  case atStart => exact ⟨0, Nat.zero_le _, rfl, ⟨fun j hj h => by omega⟩, rfl⟩
  case round =>
    obtain ⟨k, hk, rfl, hno, rfl⟩ := hrel
    by_cases hlt : k < l.length
    · obtain ⟨p, off, rfl, hbB, hcell⟩ := hA.run (Nat.le_refl _) hlt
      have c0 := hcell _ (Below.refl _ _) 0 _ rfl
      have c1 := hcell _ (Below.refl _ _) 1 _ rfl
      have c2 := hcell _ (Below.refl _ _) 2 _ rfl
      have c3 := hcell _ (Below.refl _ _) 3 _ rfl
      have c4 := hcell _ (Below.refl _ _) 4 _ rfl
      simp only [Nat.add_zero] at c0
      have hyes : Kp (Tw.hit n 1 t l[k] = true → (Tw.nx l t n).getD (-1) = l[k].to) := ⟨fun h => by
        unfold Tw.nx
        rw [Tw.find_is hv hlt h]
        show (some (Tw.toOf l k)).getD (-1) = _
        unfold Tw.toOf
        rw [List.getElem?_eq_getElem hlt]; rfl⟩
      have hnx : Kp (Tw.hit n 1 t l[k] = false → ∀ (j : Nat) (h : j < l.length), j < k + 1 → Tw.hit n 1 t l[j] = false) := ⟨fun h j h1 hjk => by
        rcases Nat.lt_or_ge j k with h3 | h3
        · exact hno.out j h1 h3
        · obtain rfl : j = k := by omega
          exact h⟩
      clear hcell hA hno
      generalize l[k] = s at *
      obtain ⟨rn, rk, rt, rf, re⟩ := s
      dsimp only at c0 c1 c2 c3 c4 hyes
      have hh : Kp (Tw.hit n 1 t ⟨rn, rk, rt, rf, re⟩ = (decide (rn = n) && (decide (rk = 1) && (decide (rf ≤ t) && decide (t < re))))) := ⟨by
        rw [Bool.eq_iff_iff, Tw.hit_iff]
        simp⟩
      rw [hh.out] at hyes hnx
      clear hh
      by_cases h1 : rn = n
      · have t1 : (rn == n) = true := by simpa using h1
        by_cases h2 : rk = 1
        · have t2 : (rk == 1) = true := by simpa using h2
          by_cases h3 : rf ≤ t
          · have t3 : decide (rf ≤ t) = true := decide_eq_true h3
            by_cases h4 : t < re
            · have t4 : decide (t < re) = true := decide_eq_true h4
              have hy := Kp.mk (hyes.out (by simp [h1, h2, h3, h4]))
              clear hyes hnx h1 h2 h3 h4
              go_wp2
              go_ret
              exact ⟨ret_int hy.out.symm, Below.refl _ _⟩
            · have t4 : decide (t < re) = false := decide_eq_false h4
              have hx := Kp.mk (hnx.out (by simp [h4]))
              clear hyes hnx h1 h2 h3 h4
              go_wp2
              exact ⟨⟨k + 1, by omega, by go_num, hx, trivial⟩, by simp [intOf]; omega⟩
          · have t3 : decide (rf ≤ t) = false := decide_eq_false h3
            have hx := Kp.mk (hnx.out (by simp [h3]))
            clear hyes hnx h1 h2 h3
            go_wp2
            exact ⟨⟨k + 1, by omega, by go_num, hx, trivial⟩, by simp [intOf]; omega⟩
        · have t2 : (rk == 1) = false := by simpa using h2
          have hx := Kp.mk (hnx.out (by simp [h2]))
          clear hyes hnx h1 h2
          go_wp2
          exact ⟨⟨k + 1, by omega, by go_num, hx, trivial⟩, by simp [intOf]; omega⟩
      · have t1 : (rn == n) = false := by simpa using h1
        have hx := Kp.mk (hnx.out (by simp [h1]))
        clear hyes hnx h1
        go_wp2
        exact ⟨⟨k + 1, by omega, by go_num, hx, trivial⟩, by simp [intOf]; omega⟩
    · have hfin : Kp ((Tw.nx l t n).getD (-1) = -1) := ⟨by
        unfold Tw.nx
        rw [Tw.find_none.2 fun s hs => by
          obtain ⟨j, hj, rfl⟩ := List.getElem_of_mem hs
          exact hno.out j hj (by omega)]
        rfl⟩
      clear hno hA
      go_wp2
      go_ret
      exact ⟨ret_int hfin.out.symm, Below.refl _ _⟩
end Go.Proofs.YtlmnmeppgigjnaaGreatDoor
namespace Go.Proofs.YtlmnmeppgigjnaaGreatDoor
set_option linter.unusedVariables false
open Go.ChangeShapes Go.WideShapes Go.ChangeAt Go.RowKit
section
variable {H : Type} {enc : TypeId × Value → H} {P : Program} {W : World} {sp : Nat → Bool} {held : Bool}
theorem choose_list {α : Type} {Q : Nat → α → Prop} : ∀ n, (∀ i, i < n → ∃ c, Q i c) → ∃ x : List α, x.length = n ∧ ∀ i c, x[i]? = some c → Q i c
  | 0, _ => ⟨[], rfl, fun i c h => by simp at h⟩
  | n + 1, h => by
    obtain ⟨x, hl, hx⟩ := choose_list n fun i hi => h i (by omega)
    obtain ⟨c, hc⟩ := h n (by omega)
    refine ⟨x ++ [c], by simp [hl], fun i d hi => ?_⟩
    rcases Nat.lt_or_ge i x.length with h1 | h1
    · rw [List.getElem?_append_left h1] at hi
      exact hx i d hi
    · rw [List.getElem?_append_right h1] at hi
      have h2 : i - x.length = 0 := by
        rcases Nat.eq_zero_or_pos (i - x.length) with h3 | h3
        · exact h3
        · rw [List.getElem?_eq_none (by simp; omega)] at hi; cases hi
      rw [h2] at hi
      simp only [List.getElem?_cons_zero, Option.some.injEq] at hi
      subst hi
      rw [show i = n by omega]
      exact hc
/-- an array of ints that is read -/
theorem open_arr {n : Nat} {t e : TypeId} (ht : P.underlying t = some (.array n e)) (he : P.underlying e = some (.int .i64)) (ce : P.cellsOf e = 1) (ct : P.cellsOf t = n) {fuel : Nat} {cs : List Value} {y : DataW H × List MemPlace}
    (h : DataW.trod enc P W 0 sp held fuel t cs = some y) : ∃ zs : List Int, cs = zs.map (Value.int .i64) ∧ zs.length = n ∧ ∀ z ∈ zs, (Lit.int .i64 z).wf = true := by
  obtain ⟨xs, m, _, _, hl, hxl, hel⟩ := DataW.trod_array ht h
  rw [ct] at hl
  obtain ⟨zs, hz, hzz⟩ := choose_list (Q := fun i z => cs[i]? = some (Value.int .i64 z) ∧ (Lit.int .i64 z).wf = true) n fun i hi => by
    have h1 := hel i hi
    rw [ce, Nat.mul_one, List.getElem?_eq_getElem (by omega)] at h1
    obtain ⟨z, e1, _, e3⟩ := DataW.trod_int he h1
    refine ⟨z, ?_, e3⟩
    have h0 : ((cs.drop i).take 1)[0]? = some (Value.int .i64 z) := by rw [e1]; rfl
    simpa using h0
  refine ⟨zs, ?_, hz, fun z hm => ?_⟩
  · apply List.ext_getElem?
    intro i
    rw [List.getElem?_map]
    cases hi : zs[i]? with
    | none =>
      rw [List.getElem?_eq_none_iff] at hi
      rw [List.getElem?_eq_none (by omega)]; rfl
    | some z => exact (hzz i z hi).1
  · obtain ⟨i, hi⟩ := List.mem_iff_getElem?.1 hm
    exact (hzz i z hi).2
/-- a slice that is read, of elements of plain data -/
theorem open_at {α : Type} {t e : TypeId} (size : Nat) (f : α → List Value) (Q : α → Prop) (ht : P.underlying t = some (.slice e)) (hce : P.cellsOf e = size) (hpos : 0 < size) (hsz : ∀ c, (f c).length = size)
    (hel : ∀ n cs y, DataW.trod enc P W 0 sp held n e cs = some y → ∃ c, cs = f c ∧ Q c) {r : Reach} {b0 : Nat} {v : Value} {d : DataW H} {ps : List MemPlace} (hval : Value.okWide P W r b0 t v) (hd : DataW.Trod enc P W 0 sp held t v d ps) :
    ∃ (A : Option Addr) (x : List α) (cap : Nat), v = .slice A x.length cap ∧ At size f W W.heap.size A x ∧ x.length ≤ cap ∧ cap ≤ maxLen ∧ ∀ c ∈ x, Q c := by
  obtain ⟨a0, len, cap, rfl⟩ := okWide_slice ht hval
  obtain ⟨fuel, hf⟩ := hd
  rcases Go.Deep.open_slice ht hf with ⟨hcs, _⟩ | ⟨a, len', cap', m, n, D, Pl, hcs, hb, hl, hm, hmm, hx, hel2⟩
  · simp [Value.cells] at hcs
    obtain ⟨rfl, rfl, rfl⟩ := hcs
    exact ⟨none, [], 0, rfl, At.nil, Nat.le_refl _, Nat.zero_le _, fun c h => by cases h⟩
  · simp [Value.cells] at hcs
    obtain ⟨rfl, rfl, rfl⟩ := hcs
    have hlm : len ≤ m := by rw [hmm]; split <;> omega
    obtain ⟨x, hxl, hxx⟩ := choose_list (Q := fun i c => W.cells? 0 (a.add (i * size)) size = some (f c) ∧ Q c) len fun i hi => by
      obtain ⟨cs', h1, h2⟩ := hel2 i (by omega)
      obtain ⟨c, rfl, hq⟩ := hel _ _ _ h2
      rw [hce] at h1
      exact ⟨c, h1, hq⟩
    refine ⟨some a, x, cap, by rw [hxl], fun h0 => ?_, by omega, hm, fun c hc => ?_⟩
    · have hcell : ∀ i c, x[i]? = some c → ∀ j u, (f c)[j]? = some u → W.cell? ((a.add (i * size)).add j) = some u := fun i c hi j u hj => by
        obtain ⟨_, _, hc⟩ := World.cells?_some (hxx i c hi).1
        have hjl : j < size := by rw [← hsz c]; exact (List.getElem?_eq_some_iff.1 hj).1
        rw [hc j hjl]; exact hj
      have h00 : 0 < (f x[0]).length := by rw [hsz]; exact hpos
      have h1 := hcell 0 x[0] (List.getElem?_eq_getElem h0) 0 _ (List.getElem?_eq_getElem h00)
      have hs : a.spot = none := by
        cases hsp : a.spot with
        | none => rfl
        | some k =>
          unfold World.cell? at h1
          split at h1
          · simp [Addr.add, hsp] at h1
          · cases h1
      obtain ⟨b, off, spt⟩ := a
      simp only at hs
      subst hs
      have ha : ∀ o n : Nat, (⟨b, o, none⟩ : Addr).add n = ⟨b, o + n, none⟩ := by
        intro o n
        unfold Addr.add
        split
        · next h => subst h; rfl
        · rfl
      refine ⟨b, off, rfl, ?_, fun i c hi j u hj => ?_⟩
      · have h2 := World.block_lt_of_cell? _ _ h1
        rwa [ha, ha] at h2
      · have := hcell i c hi j u hj
        rwa [ha, ha] at this
    · obtain ⟨i, hi⟩ := List.mem_iff_getElem?.1 hc
      exact (hxx i c hi).2
/-- an array of ints, given -/
theorem open_agg {n : Nat} {t e : TypeId} (ht : P.underlying t = some (.array n e)) (he : P.underlying e = some (.int .i64)) (ce : P.cellsOf e = 1) (ct : P.cellsOf t = n) {r : Reach} {b0 : Nat} {v : Value} {d : DataW H} {ps : List MemPlace}
    (hval : Value.okWide P W r b0 t v) (hd : DataW.Trod enc P W 0 sp held t v d ps) : ∃ zs : List Int, v = .agg (zs.map (Value.int .i64)).toArray ∧ zs.length = n ∧ ∀ z ∈ zs, (Lit.int .i64 z).wf = true := by
  unfold Value.okWide at hval
  rw [ht] at hval
  obtain ⟨cs, rfl, _, _⟩ := hval
  obtain ⟨fuel, hf⟩ := hd
  obtain ⟨zs, h1, h2, h3⟩ := open_arr ht he ce ct hf
  refine ⟨zs, ?_, h2, h3⟩
  have : cs.toList = zs.map (Value.int .i64) := h1
  rw [← this]
theorem len_two {zs : List Int} (h : zs.length = 2) : ∃ a b, zs = [a, b] := by
  match zs, h with
  | [a, b], _ => exact ⟨a, b, rfl⟩
theorem len_three {zs : List Int} (h : zs.length = 3) : ∃ a b c, zs = [a, b, c] := by
  match zs, h with
  | [a, b, c], _ => exact ⟨a, b, c, rfl⟩
/-- arguments read behind the call as they did before -/
theorem trodAll_stay (hl : laidOutB P = true) {W' : World} (hb : Below W.heap.size W W') : ∀ {ts : List TypeId} {vs : List Value} {ds : List (DataW H)} {ps : List MemPlace}, (∀ t ∈ ts, P.readableRec t = true ∧ t < P.types.size) →
    DataW.TrodAll enc P W 0 (fun _ => true) true ts vs ds ps → (∀ x ∈ ps, x.block < W.heap.size) → DataW.TrodAll enc P W' 0 (fun b => decide (b < W.heap.size)) true ts vs ds ps
  | [], _, _, _, _, h, _ => by
    obtain ⟨rfl, rfl, rfl⟩ := trodAll_nil h
    rfl
  | t :: ts, vs, ds, ps, ht, h, hlt => by
    obtain ⟨v, vs', d, ds', p, q, rfl, rfl, rfl, hd, hrest⟩ := trodAll_cons h
    have h1 := ht t (by simp)
    exact ⟨p, q, Below.trod hl h1.1 h1.2 hd hb (fun x hx => hlt x (List.mem_append_left _ hx)), trodAll_stay hl hb (fun u hu => ht u (by simp [hu])) hrest (fun x hx => hlt x (List.mem_append_right _ hx)), rfl⟩
end
end Go.Proofs.YtlmnmeppgigjnaaGreatDoor
namespace Go.Proofs.YtlmnmeppgigjnaaGreatDoor
set_option linter.unusedVariables false
set_option linter.constructorNameAsVariable false
set_option maxRecDepth 100000
open Go.ChangeShapes Go.WideShapes Go.ChangeAt Go.RowKit
theorem own : ownKnob Tryz.prog.godebug = none := by kernel_rfl
theorem laidOut : laidOutB Tryz.prog = true := by kernel_rfl
theorem i64_of {z : Int} (h : (Lit.int .i64 z).wf = true) : I6 z := bounds_i64 h
theorem laid_witness (os : Os) (args : Array Value) : laidMetH Tryz.prog Rows.forwardPaysRow.laid ((World.laidAll Tryz.prog os Rows.forwardPaysRow.laid).forCall (fun _ _ => 0) ⟨#[], args, []⟩).memory := by
  rw [MakeChecks.laidMetH_plain _ _ _ (by kernel_rfl)]
  exact laidMet_laidAll _ (by kernel_rfl) (by kernel_rfl)
theorem len_five {zs : List Int} (h : zs.length = 5) : ∃ a b c d e, zs = [a, b, c, d, e] := by
  match zs, h with
  | [a, b, c, d, e], _ => exact ⟨a, b, c, d, e, rfl⟩
theorem open_five {H : Type} {enc : TypeId × Value → H} {W : World} {r : Reach} {b0 : Nat} {v : Value} {d : DataW H} {ps : List MemPlace} (hval : Value.okWide Tryz.prog W r b0 52 v) (hd : DataW.Trod enc Tryz.prog W 0 (fun _ => true) true 52 v d ps) :
    ∃ a b c d e, v = .agg #[.int .i64 a, .int .i64 b, .int .i64 c, .int .i64 d, .int .i64 e] ∧ I6 a ∧ I6 b ∧ I6 c ∧ I6 d ∧ I6 e := by
  obtain ⟨zs, rfl, hl, hw⟩ := open_agg (P := Tryz.prog) Tryz.underlying52 Tryz.underlying3 (by kernel_rfl) (by kernel_rfl) hval hd
  obtain ⟨a, b, c, d, e, rfl⟩ := len_five hl
  exact ⟨a, b, c, d, e, rfl, i64_of (hw a (by simp)), i64_of (hw b (by simp)), i64_of (hw c (by simp)), i64_of (hw d (by simp)), i64_of (hw e (by simp))⟩
theorem open_t5s {H : Type} {enc : TypeId × Value → H} {W : World} {r : Reach} {b0 : Nat} {v : Value} {d : DataW H} {ps : List MemPlace} (hval : Value.okWide Tryz.prog W r b0 22 v) (hd : DataW.Trod enc Tryz.prog W 0 (fun _ => true) true 22 v d ps) :
    ∃ (A : Option Addr) (x : List Tw.X5) (cap : Nat), v = .slice A x.length cap ∧ At 5 x5C W W.heap.size A x ∧ x.length ≤ cap ∧ cap ≤ maxLen ∧ ∀ c ∈ x, I6 c.a ∧ I6 c.b ∧ I6 c.c ∧ I6 c.d ∧ I6 c.e :=
  open_at (P := Tryz.prog) (e := 52) 5 x5C (fun c => I6 c.a ∧ I6 c.b ∧ I6 c.c ∧ I6 c.d ∧ I6 c.e) Tryz.underlying22 (by kernel_rfl) (by decide) (fun _ => rfl) (fun n cs y h => by
    obtain ⟨zs, rfl, hl, hw⟩ := open_arr (P := Tryz.prog) Tryz.underlying52 Tryz.underlying3 (by kernel_rfl) (by kernel_rfl) h
    obtain ⟨a, b, c, d, e, rfl⟩ := len_five hl
    exact ⟨⟨a, b, c, d, e⟩, rfl, i64_of (hw a (by simp)), i64_of (hw b (by simp)), i64_of (hw c (by simp)), i64_of (hw d (by simp)), i64_of (hw e (by simp))⟩) hval hd
theorem stay_of {H : Type} {enc : TypeId × Value → H} {W : World} {ts : List TypeId} {vs : List Value} {ds : List (DataW H)} {ps : List MemPlace} (h9 : (ts.all fun t => Tryz.prog.readableRec t && decide (t < Tryz.prog.types.size)) = true) (hA : DataW.TrodAll enc Tryz.prog W 0 (fun _ => true) true ts vs ds ps)
    (hlt : ∀ x ∈ ps, x.block < W.heap.size) (W' : World) (hb : Below W.heap.size W W') : DataW.TrodAll enc Tryz.prog W' 0 (fun b => decide (b < W.heap.size)) true ts vs ds ps :=
  trodAll_stay laidOut hb (fun t ht => by simpa using List.all_eq_true.1 h9 t ht) hA hlt
end Go.Proofs.YtlmnmeppgigjnaaGreatDoor

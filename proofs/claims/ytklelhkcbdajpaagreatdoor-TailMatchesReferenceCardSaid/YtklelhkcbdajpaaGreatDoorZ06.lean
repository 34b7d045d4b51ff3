/- Combine: refusals of package tail; dialtoneref35 at every input. Combine of dialtoneref35 at fractions from 0 to 1. Burst: refusals of package tail; dialtoneref35 at every input. Package tail and its reference return alike, at every input. What TailMatchesReference uses besides: fractions that integers determine as a list of one's own; lists joined. -/
import Derived.Test.YtklelhkcbdajpaaGreatDoorZ05
import Derived.Test.YtklelhkcbdajpaaGreatDoorZ02
set_option linter.unusedVariables false
set_option linter.unusedSimpArgs false
set_option maxRecDepth 100000
set_option maxHeartbeats 8000000
namespace Go.Proofs.YtklelhkcbdajpaaGreatDoor
open Go.RowKit Go.Shelf
theorem okB_q' {p : Pr} (h : Rq.okB p.1 p.2 = true) : ∃ q, Rq.Fq q ∧ p = txQ q := by
  obtain ⟨p1, p2⟩ := p
  by_cases hq : Rq.IsQ p1 p2
  · obtain ⟨q, hf, e1, e2⟩ := hq
    exact ⟨q, hf, by unfold txQ; rw [e1, e2]⟩
  · rw [Rq.okB_false hq] at h; cases h
theorem unB_no {p : Pr} (h : Rq.okB p.1 p.2 = false) : unB p = false := unB_f fun ⟨q, hu, e⟩ => by
  subst e
  rw [show Rq.okB (txQ q).1 (txQ q).2 = true from Rq.okB_q hu.1] at h
  cases h
theorem fold_none : ∀ l : List Rat, l.foldl (fun o q => addO o (some q)) none = none
  | [] => rfl
  | q :: l => fold_none l
theorem comb_none {qs : List Rat} {k : Nat} (h : comb (qs.take k) = none) : comb qs = none := by
  have e := List.take_append_drop k qs
  rw [← e]
  unfold comb at h ⊢
  rw [List.foldl_append, h]
  exact fold_none _
theorem cell_ratC {W : World} {B b off : Nat} {l : List Pr} (h : At 2 ratC W B (some ⟨b, off, none⟩) l) {j : Nat} {p1 p2 : List UInt8} (hj : l[j]? = some (p1, p2)) : b < B ∧ W.cell? ⟨b, off + j * 2, none⟩ = some (.string ⟨p1.toArray⟩) ∧ W.cell? ⟨b, off + j * 2 + 1, none⟩ = some (.string ⟨p2.toArray⟩) := by
  obtain ⟨b', off', he, hb, hc⟩ := h (by have := (List.getElem?_eq_some_iff.1 hj).1; omega)
  cases he
  exact ⟨hb, hc j _ hj 0 _ rfl, hc j _ hj 1 _ rfl⟩
theorem bad_no (p1 p2 : List UInt8) (w : World) (h1 : p1.length ≤ 9223372036854775807) (h2 : p2.length ≤ 9223372036854775807) (hk : Rq.okB p1 p2 = false) (hE : Env w) :
    Calls Tryz.prog 63 #[.agg #[.string ⟨p1.toArray⟩, .string ⟨p2.toArray⟩]] w fun e w' => e = .returned (.bool true) ∧ Below w.heap.size w w' := by
  have B := Bx.mk w 33 #[.string ⟨p1.toArray⟩, .string ⟨p2.toArray⟩]
  have hb := bNewW w (.cells #[.string ⟨p1.toArray⟩, .string ⟨p2.toArray⟩] 33)
  generalize hW : w.alloc (.cells #[.string ⟨p1.toArray⟩, .string ⟨p2.toArray⟩] 33) = W0 at *
  have hE0 := hE.below hb
  have kv := fun x os => QValid_anyL p1 p2 (Sort.grow (redrawn W0 x) os) h1 h2 (hE0.below (below_regrown W0 x os))
  rw [hk] at kv
  have g0 := fun x os => (B.again x os).cell 0 rfl
  have g1 := fun x os => (B.again x os).cell 1 rfl
  clear hE hE0 hk
  go_enter Tryz.func63, Tryz.ntmps63
  go_wp2
  try rw [hW]
  clear hW
  refine wp_region_quiet_below (by kernel_rfl) (by kernel_rfl) ?_
  repeat (go_big_quiet_step (first
    | (go_at_call 53; with_reducible exact Calls.regrown_of (kv _ _))))
  refine wpQuiet_nil ?_
  rintro _ ⟨z, rfl⟩
  have hbz := below_regrown W0 z.d z.os
  replace hb := bCall hb hbz
  go_wp2
  go_ret
  exact ⟨rfl, hb⟩
theorem bad_all (p : Pr) (w : World) (h1 : p.1.length ≤ 9223372036854775807) (h2 : p.2.length ≤ 9223372036854775807) (hE : Env w) :
    Calls Tryz.prog 63 #[.agg #[.string ⟨p.1.toArray⟩, .string ⟨p.2.toArray⟩]] w fun e w' => e = .returned (.bool (!unB p)) ∧ Below w.heap.size w w' := by
  cases hk : Rq.okB p.1 p.2 with
  | true =>
    obtain ⟨q, hq, rfl⟩ := okB_q' hk
    exact bad_q q _ _ w ⟨⟨rfl, rfl⟩⟩ hq hE
  | false =>
    rw [unB_no hk]
    exact bad_no p.1 p.2 w h1 h2 hk hE
theorem Combine_len (l : List Pr) (A : Option Addr) (cap : Nat) (w : World) (hl : 20 < l.length) :
    Calls Tryz.prog 25 #[.slice A l.length cap] w fun e w' => e = .returned (.tuple #[.agg #[.string ⟨#[]⟩, .string ⟨#[]⟩], .int .i64 350]) ∧ Below w.heap.size w w' := by
  have hb0 := bNewW w (.cells #[.string ⟨#[]⟩, .string ⟨#[]⟩] 33)
  have BR := Bx.mk w 33 #[.string ⟨#[]⟩, .string ⟨#[]⟩]
  have t0 : decide ((l.length : Int) > 20) = true := decide_eq_true (by omega)
  have c0 := BR.cell 0 rfl
  have c1 := BR.cell 1 rfl
  have f0 := BR.frozen 0
  have f1 := BR.frozen 1
  have B4 := (BR.set 0 (.string ⟨#[]⟩)).set 1 (.string ⟨#[]⟩)
  have hb4 := bSet (bSet hb0 (p := ⟨w.heap.size, 0, none⟩) (Nat.le_refl _) (.string ⟨#[]⟩)) (p := ⟨w.heap.size, 1, none⟩) (Nat.le_refl _) (.string ⟨#[]⟩)
  go_enter Tryz.func25, Tryz.ntmps25
  go_wp2
  first | exact bodyPost_ret (results_Q rfl _ _ rfl rfl B4) rfl ⟨rfl, hb4⟩ | exact bodyPost_ret (results_Q rfl _ _ rfl rfl BR) rfl ⟨rfl, hb0⟩
theorem rCombine_len (l : List Pr) (A : Option Addr) (cap : Nat) (w : World) (hl : 20 < l.length) :
    Calls Tryz.prog 26 #[.slice A l.length cap] w fun e w' => e = .returned (.tuple #[.agg #[.string ⟨#[]⟩, .string ⟨#[]⟩], .int .i64 350]) ∧ Below w.heap.size w w' := by
  have hb0 := bNewW w (.cells #[.string ⟨#[]⟩, .string ⟨#[]⟩] 33)
  have BR := Bx.mk w 33 #[.string ⟨#[]⟩, .string ⟨#[]⟩]
  have t0 : decide ((l.length : Int) > 20) = true := decide_eq_true (by omega)
  have c0 := BR.cell 0 rfl
  have c1 := BR.cell 1 rfl
  have f0 := BR.frozen 0
  have f1 := BR.frozen 1
  have B4 := (BR.set 0 (.string ⟨#[]⟩)).set 1 (.string ⟨#[]⟩)
  have hb4 := bSet (bSet hb0 (p := ⟨w.heap.size, 0, none⟩) (Nat.le_refl _) (.string ⟨#[]⟩)) (p := ⟨w.heap.size, 1, none⟩) (Nat.le_refl _) (.string ⟨#[]⟩)
  go_enter Tryz.func26, Tryz.ntmps26
  go_wp2
  first | exact bodyPost_ret (results_Q rfl _ _ rfl rfl B4) rfl ⟨rfl, hb4⟩ | exact bodyPost_ret (results_Q rfl _ _ rfl rfl BR) rfl ⟨rfl, hb0⟩
theorem Combine_bad (l : List Pr) (A : Option Addr) (cap : Nat) (w : World) (hA : At 2 ratC w w.heap.size A l) (hn : l.length ≤ cap) (hl : l.length ≤ 20) (hp : ∀ p ∈ l, p.1.length ≤ 9223372036854775807 ∧ p.2.length ≤ 9223372036854775807) (hbad : l.any (fun p => !unB p) = true) (hE : Env w) :
    Calls Tryz.prog 25 #[.slice A l.length cap] w fun e w' => e = .returned (.tuple #[.agg #[.string ⟨#[]⟩, .string ⟨#[]⟩], .int .i64 350]) ∧ Below w.heap.size w w' := by
  have hb0 := bNewW w (.cells #[.string ⟨#[]⟩, .string ⟨#[]⟩] 33)
  have BR := Bx.mk w 33 #[.string ⟨#[]⟩, .string ⟨#[]⟩]
  have hcon := con_q l A cap (w.alloc (.cells #[.string ⟨#[]⟩, .string ⟨#[]⟩] 33)) ((hA.below hb0).more hb0.size) hn (by omega) (fun p h W hW => bad_all p W (hp p h).1 (hp p h).2 ((hE.below hb0).below hW))
  rw [hbad] at hcon
  have t0 : decide ((l.length : Int) > 20) = false := decide_eq_false (by omega)
  clear hbad hp hA hE
  go_enter Tryz.func25, Tryz.ntmps25
  go_wp2_with fail
  refine hcon.mono ?_
  rintro _ w1 ⟨rfl, hb1⟩
  replace hb0 := bCall hb0 hb1
  replace BR := BR.call hb1
  clear hcon hb1
  have c0 := BR.cell 0 rfl
  have c1 := BR.cell 1 rfl
  have f0 := BR.frozen 0
  have f1 := BR.frozen 1
  have B4 := (BR.set 0 (.string ⟨#[]⟩)).set 1 (.string ⟨#[]⟩)
  have hb4 := bSet (bSet hb0 (p := ⟨w.heap.size, 0, none⟩) (Nat.le_refl _) (.string ⟨#[]⟩)) (p := ⟨w.heap.size, 1, none⟩) (Nat.le_refl _) (.string ⟨#[]⟩)
  go_wp2
  first | exact bodyPost_ret (results_Q rfl _ _ rfl rfl B4) rfl ⟨rfl, hb4⟩ | exact bodyPost_ret (results_Q rfl _ _ rfl rfl BR) rfl ⟨rfl, hb0⟩
theorem Combine_over (qs : List Rat) (A : Option Addr) (cap : Nat) (w : World) (hA : At 2 ratC w w.heap.size A (qs.map txQ)) (hn : qs.length ≤ cap) (hl : qs.length ≤ 20) (hq : ∀ q ∈ qs, Un q) (hc : Kp (comb qs = none)) (hE : Env w) :
    Calls Tryz.prog 25 #[.slice A qs.length cap] w fun e w' => e = .returned (.tuple #[.agg #[.string ⟨#[]⟩, .string ⟨#[]⟩], .int .i64 350]) ∧ Below w.heap.size w w' := by
  have hb0 := bNewW w (.cells #[.string ⟨#[]⟩, .string ⟨#[]⟩] 33)
  have BR := Bx.mk w 33 #[.string ⟨#[]⟩, .string ⟨#[]⟩]
  obtain ⟨za, zb, lz⟩ := LQ.ex (Wq 0)
  have hI : I64 0 := ⟨by decide, by decide⟩
  have hcon := con_q (qs.map txQ) A cap (w.alloc (.cells #[.string ⟨#[]⟩, .string ⟨#[]⟩] 33)) ((hA.below hb0).more hb0.size) (by rw [List.length_map]; exact hn) (by rw [List.length_map]; omega) (fun p hp W hW => by
    obtain ⟨q, hqm, rfl⟩ := List.mem_map.1 hp
    exact bad_q q _ _ W ⟨⟨rfl, rfl⟩⟩ (hq q hqm).1 ((hE.below hb0).below hW))
  rw [List.length_map] at hcon
  have hany : (qs.map txQ).any (fun p => !unB p) = false := by
    rw [List.any_eq_false]
    intro p hp
    obtain ⟨q, hqm, rfl⟩ := List.mem_map.1 hp
    rw [unB_t ⟨q, hq q hqm, rfl⟩]; decide
  rw [hany] at hcon
  have t0 : decide ((qs.length : Int) > 20) = false := by simp; omega
  have vO : VO (comb qs) = .agg #[.string ⟨#[]⟩, .string ⟨#[]⟩] := by rw [hc.out]; rfl
  have eO' : eO (comb qs) = 40 := by rw [hc.out]; rfl
  have hEn : ∀ W, Below w.heap.size w W → Env W := fun W hW => hE.below hW
  clear hany
  go_enter Tryz.func25, Tryz.ntmps25
  go_wp2_with (go_at_call 64; refine hcon.mono ?_; rintro _ w1 ⟨rfl, hb1⟩; clear hcon)
  replace hb0 := bCall hb0 hb1
  replace BR := BR.call hb1
  have hbE := bNew hb0 (.cells #[.int .i64 0] 34)
  have BE := Bx.mk w1 34 #[.int .i64 0]
  replace BR := BR.new (.cells #[.int .i64 0] 34)
  have lR := BR.lt
  have hw := whole_s (w1.alloc (.cells #[.int .i64 0] 34)) hI lz (hEn _ hbE)
  have hgeL := hb0.size
  have hRlt : w.heap.size < w1.heap.size := by have := hb1.size; rw [alloc_size] at this; omega
  refine hw.mono ?_
  rintro _ w2 ⟨rfl, hb2⟩
  clear hw
  replace hbE := bCall hbE hb2
  replace BE := BE.call hb2
  replace BR := BR.call hb2
  have hF := fold_any qs A cap w1.heap.size za zb w2 w.heap.size lz (hA.below hbE) hn hl (fun q h => (hq q h).1) BE hgeL (fun W hW => hEn W (hbE.trans hW))
  rw [vO, eO'] at hF
  go_wp2_with fail
  refine hF.mono ?_
  rintro _ w3 ⟨rfl, BE3, hO⟩
  clear hF
  have BR3 := hO.bx BR (by omega)
  have hb3 := hbE.trans (hO.to hgeL (Nat.le_trans hgeL (by have := BE.lt; omega)))
  replace hb0 := bNew hb3 (.cells #[.string ⟨#[]⟩, .string ⟨#[]⟩] 33)
  have BE4 := BE3.new (.cells #[.string ⟨#[]⟩, .string ⟨#[]⟩] 33)
  replace BR := BR3.new (.cells #[.string ⟨#[]⟩, .string ⟨#[]⟩] 33)
  have e0 := BE4.cell 0 rfl
  clear BR3 BE3 hb3 hbE BE hO hA hEn hE hc
  have c0 := BR.cell 0 rfl
  have c1 := BR.cell 1 rfl
  have f0 := BR.frozen 0
  have f1 := BR.frozen 1
  have B4 := (BR.set 0 (.string ⟨#[]⟩)).set 1 (.string ⟨#[]⟩)
  have hb4 := bSet (bSet hb0 (p := ⟨w.heap.size, 0, none⟩) (Nat.le_refl _) (.string ⟨#[]⟩)) (p := ⟨w.heap.size, 1, none⟩) (Nat.le_refl _) (.string ⟨#[]⟩)
  go_wp2
  first | exact bodyPost_ret (results_Q rfl _ _ rfl rfl B4) rfl ⟨rfl, hb4⟩ | exact bodyPost_ret (results_Q rfl _ _ rfl rfl BR) rfl ⟨rfl, hb0⟩
theorem rCombine_bad (l : List Pr) (A : Option Addr) (cap : Nat) (w : World) (hA : At 2 ratC w w.heap.size A l) (hn : l.length ≤ cap) (hl : l.length ≤ 20) (hp : ∀ p ∈ l, p.1.length ≤ 9223372036854775807 ∧ p.2.length ≤ 9223372036854775807) (hbad : l.any (fun p => !unB p) = true) :
    Calls Tryz.prog 26 #[.slice A l.length cap] w fun e w' => e = .returned (.tuple #[.agg #[.string ⟨#[]⟩, .string ⟨#[]⟩], .int .i64 350]) ∧ Below w.heap.size w w' := by
  have hb0 := bNewW w (.cells #[.string ⟨#[]⟩, .string ⟨#[]⟩] 33)
  have BR := Bx.mk w 33 #[.string ⟨#[]⟩, .string ⟨#[]⟩]
  have t20 : decide ((l.length : Int) > 20) = false := decide_eq_false (by omega)
  have hpos : 0 < l.length := by cases l with
    | nil => cases hbad
    | cons a b => exact Nat.succ_pos _
  replace hp := Kp.mk hp
  have hbk := Kp.mk hbad
  obtain ⟨b9, off, rfl⟩ := at_ptr hA hpos
  have hI : I64 0 := ⟨by decide, by decide⟩
  have hI1 : I64 1 := ⟨by decide, by decide⟩
  obtain ⟨za, zb, lz⟩ := LQ.ex (Wq 0)
  obtain ⟨oa, ob, lo⟩ := LQ.ex (Wq 1)
  clear hbad
  go_enter Tryz.func26, Tryz.ntmps26
  go_wp2_with fail
  generalize w.alloc (.cells #[.string ⟨#[]⟩, .string ⟨#[]⟩] 33) = W0 at *
  go_loopw [4] (fun s4 wr => ∃ k : Nat, k ≤ l.length ∧ s4 = .int .i64 k ∧ Kp (∀ j (hj : j < l.length), j < k → unB l[j] = true) ∧ Bx wr w.heap.size 33 #[.string ⟨#[]⟩, .string ⟨#[]⟩] ∧ Below w.heap.size w wr) (fun s4 _ => l.length - (intOf s4).toNat)
  case atStart => exact ⟨0, Nat.zero_le _, rfl, ⟨fun j hj h => absurd h (Nat.not_lt_zero _)⟩, BR, hb0⟩
  case round =>
    clear BR hb0
    obtain ⟨k, hk, rfl, hall, BR, hb0⟩ := hrel
    by_cases hlt : k < l.length
    · have t0 : decide ((k : Int) < (l.length : Int)) = true := decide_eq_true (by omega)
      obtain ⟨hp1, hp2⟩ := hp.out _ (List.getElem_mem hlt)
      have hc := cell_ratC (p1 := l[k].1) (p2 := l[k].2) (hA.below hb0) (List.getElem?_eq_getElem hlt)
      have hgo : Kp (unB l[k] = true → ∀ j (hj : j < l.length), j < k + 1 → unB l[j] = true) := ⟨fun h j hj hjk => by
        rcases Nat.lt_or_ge j k with h1 | h1
        · exact hall.out j hj h1
        · obtain rfl : j = k := by omega
          exact h⟩
      obtain ⟨hb9, k0, k1⟩ := hc
      have g0 := fun d os => ((below_regrown wr d os).cell (p := ⟨b9, off + k * 2, none⟩) (Nat.lt_of_lt_of_le hb9 hb0.size)).trans k0
      have g1 := fun d os => ((below_regrown wr d os).cell (p := ⟨b9, off + k * 2 + 1, none⟩) (Nat.lt_of_lt_of_le hb9 hb0.size)).trans k1
      have kv := fun d os => fqValid_anyL l[k].1 l[k].2 (Sort.grow (redrawn wr d) os) hp1 hp2
      cases hok : Rq.okB l[k].1 l[k].2 with
      | false =>
        rw [hok] at kv
        clear hgo hall hok
        generalize l[k].1 = p1 at *
        generalize l[k].2 = p2 at *
        go_wp2_with fail
        refine wp_region_quiet_below (by kernel_rfl) (by kernel_rfl) ?_
        repeat (go_big_quiet_step (first
          | (go_at_call 55; with_reducible exact Calls.regrown_of (kv _ _))))
        refine wpQuiet_nil ?_
        rintro _ ⟨z, rfl⟩
        replace hb0 := bCall hb0 (below_regrown wr z.d z.os)
        replace BR := BR.again z.d z.os
        clear kv g0 g1 k0 k1
        generalize Sort.grow (redrawn wr z.d) z.os = W5 at *
        have c0 := BR.cell 0 rfl
        have c1 := BR.cell 1 rfl
        have f0 := BR.frozen 0
        have f1 := BR.frozen 1
        have B4 := (BR.set 0 (.string ⟨#[]⟩)).set 1 (.string ⟨#[]⟩)
        have hb4 := bSet (bSet hb0 (p := ⟨w.heap.size, 0, none⟩) (Nat.le_refl _) (.string ⟨#[]⟩)) (p := ⟨w.heap.size, 1, none⟩) (Nat.le_refl _) (.string ⟨#[]⟩)
        go_wp2
        first | exact bodyPost_ret (results_Q rfl _ _ rfl rfl B4) rfl ⟨rfl, hb4⟩ | exact bodyPost_ret (results_Q rfl _ _ rfl rfl BR) rfl ⟨rfl, hb0⟩
      | true =>
        rw [hok] at kv
        obtain ⟨q, hq, hpq⟩ := okB_q' hok
        have hun : unB l[k] = unB (txQ q) := by rw [hpq]
        have lq : LQ q l[k].1 l[k].2 := by rw [hpq]; exact ⟨rfl, rfl⟩
        rw [hun] at hgo
        clear hok hpq hun
        generalize l[k].1 = p1 at *
        generalize l[k].2 = p2 at *
        obtain ⟨cz, hcz⟩ := exK (Rq.cmpQ q (Wq 0))
        obtain ⟨co, hco⟩ := exK (Rq.cmpQ q (Wq 1))
        have kz := fun d os => rzero_s (Sort.grow (redrawn wr d) os) lz
        have ko := fun d os => rone_s (Sort.grow (redrawn wr d) os) lo
        have kcz := fun d os => fCmp_s (Sort.grow (redrawn wr d) os) lq lz hq (Wq_fq hI) hcz
        have kco := fun d os => fCmp_s (Sort.grow (redrawn wr d) os) lq lo hq (Wq_fq hI1) hco
        by_cases hq0 : q < 0
        · have u0 : decide (cz < 0) = true := by rw [← hcz.out, Wq_0, Rq.cmp_lt.2 hq0]; rfl
          clear hgo hall hcz hco lq
          go_wp2_with fail
          refine wp_region_quiet_below (by kernel_rfl) (by kernel_rfl) ?_
          repeat (go_big_quiet_step (first
            | (go_at_call 55; with_reducible exact Calls.regrown_of (kv _ _))
            | (go_at_call 57; with_reducible exact Calls.regrown_of (kz _ _))
            | (go_at_call 56; with_reducible exact Calls.regrown_of (kcz _ _))))
          refine wpQuiet_nil ?_
          rintro _ ⟨z, rfl⟩
          replace hb0 := bCall hb0 (below_regrown wr z.d z.os)
          replace BR := BR.again z.d z.os
          clear kv kz ko kcz kco g0 g1 k0 k1
          generalize Sort.grow (redrawn wr z.d) z.os = W5 at *
          have c0 := BR.cell 0 rfl
          have c1 := BR.cell 1 rfl
          have f0 := BR.frozen 0
          have f1 := BR.frozen 1
          have B4 := (BR.set 0 (.string ⟨#[]⟩)).set 1 (.string ⟨#[]⟩)
          have hb4 := bSet (bSet hb0 (p := ⟨w.heap.size, 0, none⟩) (Nat.le_refl _) (.string ⟨#[]⟩)) (p := ⟨w.heap.size, 1, none⟩) (Nat.le_refl _) (.string ⟨#[]⟩)
          go_wp2
          first | exact bodyPost_ret (results_Q rfl _ _ rfl rfl B4) rfl ⟨rfl, hb4⟩ | exact bodyPost_ret (results_Q rfl _ _ rfl rfl BR) rfl ⟨rfl, hb0⟩
        · have u0 : decide (cz < 0) = false := by
            rw [← hcz.out, Wq_0]
            rcases Rq.cmp_cases q 0 with ⟨_, h⟩ | ⟨e, _⟩ | ⟨e, _⟩
            · exact absurd h hq0
            · rw [e]; rfl
            · rw [e]; rfl
          by_cases hq1 : 1 < q
          · have u1 : decide (co > 0) = true := cmp_gt' hco (by rw [Wq_1]; exact hq1)
            clear hgo hall hcz hco lq
            go_wp2_with fail
            refine wp_region_quiet_below (by kernel_rfl) (by kernel_rfl) ?_
            repeat (go_big_quiet_step (first
              | (go_at_call 55; with_reducible exact Calls.regrown_of (kv _ _))
              | (go_at_call 57; with_reducible exact Calls.regrown_of (kz _ _))
              | (go_at_call 67; with_reducible exact Calls.regrown_of (ko _ _))
              | (go_at_call 56; with_reducible exact Calls.regrown_of (kcz _ _))
              | (go_at_call 56; with_reducible exact Calls.regrown_of (kco _ _))))
            refine wpQuiet_nil ?_
            rintro _ ⟨z, rfl⟩
            replace hb0 := bCall hb0 (below_regrown wr z.d z.os)
            replace BR := BR.again z.d z.os
            clear kv kz ko kcz kco g0 g1 k0 k1
            generalize Sort.grow (redrawn wr z.d) z.os = W5 at *
            have c0 := BR.cell 0 rfl
            have c1 := BR.cell 1 rfl
            have f0 := BR.frozen 0
            have f1 := BR.frozen 1
            have B4 := (BR.set 0 (.string ⟨#[]⟩)).set 1 (.string ⟨#[]⟩)
            have hb4 := bSet (bSet hb0 (p := ⟨w.heap.size, 0, none⟩) (Nat.le_refl _) (.string ⟨#[]⟩)) (p := ⟨w.heap.size, 1, none⟩) (Nat.le_refl _) (.string ⟨#[]⟩)
            go_wp2
            first | exact bodyPost_ret (results_Q rfl _ _ rfl rfl B4) rfl ⟨rfl, hb4⟩ | exact bodyPost_ret (results_Q rfl _ _ rfl rfl BR) rfl ⟨rfl, hb0⟩
          · have u1 : decide (co > 0) = false := cmp_le hco (by rw [Wq_1]; exact Rat.not_lt.1 hq1)
            have hnx := Kp.mk (hgo.out (unB_t ⟨q, ⟨hq, Rat.not_lt.1 hq0, Rat.not_lt.1 hq1⟩, rfl⟩))
            clear hgo hall hcz hco lq
            go_wp2_with fail
            refine wp_region_quiet_below (by kernel_rfl) (by kernel_rfl) ?_
            repeat (go_big_quiet_step (first
              | (go_at_call 55; with_reducible exact Calls.regrown_of (kv _ _))
              | (go_at_call 57; with_reducible exact Calls.regrown_of (kz _ _))
              | (go_at_call 67; with_reducible exact Calls.regrown_of (ko _ _))
              | (go_at_call 56; with_reducible exact Calls.regrown_of (kcz _ _))
              | (go_at_call 56; with_reducible exact Calls.regrown_of (kco _ _))))
            refine wpQuiet_nil ?_
            rintro _ ⟨z, rfl⟩
            replace hb0 := bCall hb0 (below_regrown wr z.d z.os)
            replace BR := BR.again z.d z.os
            clear kv kz ko kcz kco g0 g1 k0 k1
            generalize Sort.grow (redrawn wr z.d) z.os = W5 at *
            go_wp2
            exact ⟨⟨k + 1, by omega, by go_num, hnx, BR, hb0⟩, by simp [intOf] <;> omega⟩
    · exfalso
      obtain ⟨p, hpm, hpb⟩ := List.any_eq_true.1 hbk.out
      obtain ⟨i, hi, rfl⟩ := List.mem_iff_getElem.1 hpm
      rw [hall.out i hi (by omega)] at hpb
      cases hpb
end Go.Proofs.YtklelhkcbdajpaaGreatDoor
namespace Go.Proofs.YtklelhkcbdajpaaGreatDoor
open Go.RowKit Go.Shelf
theorem fAdd_k {x y z : Rat} {xa xb ya yb za zb : List UInt8} (w : World) (lx : LQ x xa xb) (ly : LQ y ya yb) (lz : LQ z za zb) (hx : Rq.Fq x) (hy : Rq.Fq y) (hf : fitAdd x y) (h : Kp (x + y = z)) :
    Calls Tryz.prog 68 #[.agg #[.string ⟨xa.toArray⟩, .string ⟨xb.toArray⟩], .agg #[.string ⟨ya.toArray⟩, .string ⟨yb.toArray⟩]] w fun e w' => e = .returned (.tuple #[.agg #[.string ⟨za.toArray⟩, .string ⟨zb.toArray⟩], .int .i64 0]) ∧ Below w.heap.size w w' := by
  have h' := fAdd_both x y w hx hy
  rw [lx.eq, ly.eq, h.out, lz.eq] at h'
  exact h'.mono fun e w' hh => ⟨hh.1 hf, hh.2.2⟩
theorem fAdd_o {x y : Rat} {xa xb ya yb : List UInt8} (w : World) (lx : LQ x xa xb) (ly : LQ y ya yb) (hx : Rq.Fq x) (hy : Rq.Fq y) (hf : ¬ fitAdd x y) :
    Calls Tryz.prog 68 #[.agg #[.string ⟨xa.toArray⟩, .string ⟨xb.toArray⟩], .agg #[.string ⟨ya.toArray⟩, .string ⟨yb.toArray⟩]] w fun e w' => e = .returned (.tuple #[.agg #[.string ⟨#[]⟩, .string ⟨#[]⟩], .int .i64 40]) ∧ Below w.heap.size w w' := by
  have h' := fAdd_both x y w hx hy
  rw [lx.eq, ly.eq] at h'
  exact h'.mono fun e w' hh => ⟨hh.2.1 hf, hh.2.2⟩
theorem rCombine_sum (qs : List Rat) (A : Option Addr) (cap : Nat) (ra rb : List UInt8) (code : Int) (w : World) (hA : At 2 ratC w w.heap.size A (qs.map txQ)) (hn : qs.length ≤ cap) (hl : qs.length ≤ 20) (hq : ∀ q ∈ qs, Un q)
    (hout : Kp ((∃ r, comb qs = some r ∧ LQ (lq1 r) ra rb ∧ code = 0) ∨ (comb qs = none ∧ ra = [] ∧ rb = [] ∧ code = 350))) (hE : Env w) :
    Calls Tryz.prog 26 #[.slice A qs.length cap] w fun e w' => e = .returned (.tuple #[.agg #[.string ⟨ra.toArray⟩, .string ⟨rb.toArray⟩], .int .i64 code]) ∧ Below w.heap.size w w' := by
  have hE0 := hE
  have BR := Bx.mk w 33 #[.string ⟨#[]⟩, .string ⟨#[]⟩]
  have st : SE w (w.alloc (.cells #[.string ⟨#[]⟩, .string ⟨#[]⟩] 33)) := ⟨bNewW w (.cells #[.string ⟨#[]⟩, .string ⟨#[]⟩] 33), hE.below (bNewW w (.cells #[.string ⟨#[]⟩, .string ⟨#[]⟩] 33))⟩
  have t20 : decide ((qs.length : Int) > 20) = false := decide_eq_false (by omega)
  have hI : I64 0 := ⟨by decide, by decide⟩
  have hI1 : I64 1 := ⟨by decide, by decide⟩
  obtain ⟨za, zb, lz⟩ := LQ.ex (Wq 0)
  obtain ⟨oa, ob, lo⟩ := LQ.ex (Wq 1)
  replace hq := Kp.mk hq
  obtain ⟨gR, hgR⟩ : ∃ g, g = w.heap.size := ⟨_, rfl⟩
  clear hE
  go_enter Tryz.func26, Tryz.ntmps26
  go_wp2_with fail
  generalize w.alloc (.cells #[.string ⟨#[]⟩, .string ⟨#[]⟩] 33) = W0 at *
  go_loopw [4] (fun s4 wr => ∃ k : Nat, k ≤ qs.length ∧ s4 = .int .i64 k ∧ Bx wr w.heap.size 33 #[.string ⟨#[]⟩, .string ⟨#[]⟩] ∧ SE w wr) (fun s4 _ => qs.length - (intOf s4).toNat)
  case atStart => exact ⟨0, Nat.zero_le _, rfl, BR, st⟩
  case round =>
    clear BR st
    obtain ⟨k, hk, rfl, BR, st⟩ := hrel
    by_cases hlt : k < qs.length
    · have t0 : decide ((k : Int) < (qs.length : Int)) = true := decide_eq_true (by omega)
      obtain ⟨b9, off, rfl⟩ := at_ptr hA (by rw [List.length_map]; omega)
      obtain ⟨hqf, hq0, hq1⟩ := hq.out _ (List.getElem_mem hlt)
      obtain ⟨p1, p2, lq⟩ := LQ.ex qs[k]
      have hgk : (qs.map txQ)[k]? = some (p1, p2) := by rw [List.getElem?_map, List.getElem?_eq_getElem hlt]; exact congrArg some (Prod.ext lq.out.1 lq.out.2)
      obtain ⟨hb9, k0, k1⟩ := cell_ratC (hA.below st.bl) hgk
      have g0 := fun d os => ((below_regrown wr d os).cell (p := ⟨b9, off + k * 2, none⟩) (Nat.lt_of_lt_of_le hb9 st.bl.size)).trans k0
      have g1 := fun d os => ((below_regrown wr d os).cell (p := ⟨b9, off + k * 2 + 1, none⟩) (Nat.lt_of_lt_of_le hb9 st.bl.size)).trans k1
      generalize qs[k] = q at *
      have hok : Rq.okB p1 p2 = true := by rw [← lq.out.1, ← lq.out.2]; exact Rq.okB_q hqf
      have hl1 : p1.length ≤ 9223372036854775807 := by rw [← lq.out.1]; have := fits_small hqf.num; omega
      have hl2 : p2.length ≤ 9223372036854775807 := by rw [← lq.out.2]; have := fits_small hqf.den; omega
      have kv := fun d os => fqValid_anyL p1 p2 (Sort.grow (redrawn wr d) os) hl1 hl2
      rw [hok] at kv
      obtain ⟨cz, hcz⟩ := exK (Rq.cmpQ q (Wq 0))
      obtain ⟨co, hco⟩ := exK (Rq.cmpQ q (Wq 1))
      have kz := fun d os => rzero_s (Sort.grow (redrawn wr d) os) lz
      have ko := fun d os => rone_s (Sort.grow (redrawn wr d) os) lo
      have kcz := fun d os => fCmp_s (Sort.grow (redrawn wr d) os) lq lz hqf (Wq_fq hI) hcz
      have kco := fun d os => fCmp_s (Sort.grow (redrawn wr d) os) lq lo hqf (Wq_fq hI1) hco
      have u0 : decide (cz < 0) = false := by
        rw [← hcz.out, Wq_0]
        rcases Rq.cmp_cases q 0 with ⟨_, h⟩ | ⟨e, _⟩ | ⟨e, _⟩
        · exact absurd hq0 (Rat.not_le.2 h)
        · rw [e]; rfl
        · rw [e]; rfl
      have u1 : decide (co > 0) = false := cmp_le hco (by rw [Wq_1]; exact hq1)
      clear hcz hco lq hok hl1 hl2 hgk hq0 hq1 hqf
      go_wp2_with fail
      refine wp_region_quiet_below (by kernel_rfl) (by kernel_rfl) ?_
      repeat (go_big_quiet_step (first
        | (go_at_call 55; with_reducible exact Calls.regrown_of (kv _ _))
        | (go_at_call 57; with_reducible exact Calls.regrown_of (kz _ _))
        | (go_at_call 67; with_reducible exact Calls.regrown_of (ko _ _))
        | (go_at_call 56; with_reducible exact Calls.regrown_of (kcz _ _))
        | (go_at_call 56; with_reducible exact Calls.regrown_of (kco _ _))))
      refine wpQuiet_nil ?_
      rintro _ ⟨z, rfl⟩
      replace st := st.call (below_regrown wr z.d z.os)
      replace BR := BR.again z.d z.os
      clear kv kz ko kcz kco g0 g1 k0 k1
      generalize Sort.grow (redrawn wr z.d) z.os = W5 at *
      go_wp2
      exact ⟨⟨k + 1, by omega, by go_num, BR, st⟩, by simp [intOf] <;> omega⟩
    · obtain rfl : k = qs.length := by omega
      have hZ := rzero_s wr lz
      go_wp2_with fail
      refine hZ.mono ?_
      rintro _ w3 ⟨rfl, hb1⟩
      clear hZ
      go_upto_region 9 with fail
      have hgW := (st.call hb1).bl.size
      have dRS := (BR.call hb1).lt
      replace st := (st.call hb1).call (bNewW w3 (.cells #[.string ⟨za.toArray⟩, .string ⟨zb.toArray⟩] 33))
      replace BR := (BR.call hb1).new (.cells #[.string ⟨za.toArray⟩, .string ⟨zb.toArray⟩] 33)
      have BS := Bx.mk w3 33 #[.string ⟨za.toArray⟩, .string ⟨zb.toArray⟩]
      generalize w3.alloc (.cells #[.string ⟨za.toArray⟩, .string ⟨zb.toArray⟩] 33) = w4 at *
      generalize w3.heap.size = gM at *
      clear hb1
      go_wp2_with fail
      go_loopw [6] (fun s6 wr => ∃ (k : Nat) (q : Rat) (sa sb : List UInt8), k ≤ qs.length ∧ s6 = .int .i64 k ∧ Kp (comb (qs.take k) = some q ∧ Rq.Fq q) ∧ LQ q sa sb ∧ Bx wr w.heap.size 33 #[.string ⟨#[]⟩, .string ⟨#[]⟩] ∧ Bx wr gM 33 #[.string ⟨sa.toArray⟩, .string ⟨sb.toArray⟩] ∧ SE w wr) (fun s6 _ => qs.length - (intOf s6).toNat)
      case atStart => exact ⟨0, 0, za, zb, Nat.zero_le _, rfl, ⟨rfl, by rw [← Wq_0]; exact Wq_fq hI⟩, by rw [← Wq_0]; exact lz, BR, BS, st⟩
      case round =>
        clear BR BS st
        obtain ⟨k, q, sa, sb, hk, rfl, hcq, ls, BR, BM, st⟩ := hrel
        by_cases hlt : k < qs.length
        · have t0 : decide ((k : Int) < (qs.length : Int)) = true := decide_eq_true (by omega)
          obtain ⟨b9, off, rfl⟩ := at_ptr hA (by rw [List.length_map]; omega)
          obtain ⟨hxf, -, -⟩ := hq.out _ (List.getElem_mem hlt)
          obtain ⟨p1, p2, lx⟩ := LQ.ex qs[k]
          have hgk : (qs.map txQ)[k]? = some (p1, p2) := by rw [List.getElem?_map, List.getElem?_eq_getElem hlt]; exact congrArg some (Prod.ext lx.out.1 lx.out.2)
          have hcel := fun W (hW : Below w.heap.size w W) => cell_ratC (hA.below hW) hgk
          have hcn : Kp (comb (qs.take (k + 1)) = addO (some q) (some qs[k])) := ⟨by rw [Tb.take_snoc' hlt, comb_snoc, hcq.out.1]⟩
          generalize qs[k] = x at *
          have hkp := Nat.succ_le_of_lt hlt
          clear hgk
          by_cases hf : fitAdd q x
          · obtain ⟨na, nb, ln⟩ := LQ.ex (q + x)
            have kA := fun w0 => fAdd_k w0 ls lx ln hcq.out.2 hxf hf ⟨rfl⟩
            have hnx : Kp (comb (qs.take (k + 1)) = some (q + x) ∧ Rq.Fq (q + x)) := ⟨by rw [hcn.out]; exact opO_yes hf, by
              rw [← Rq.add_is]
              exact Rq.red_fits (Int.mul_ne_zero (Rq.den_ne' q) (Rq.den_ne' x)) hf.2.2.1 hf.2.2.2⟩
            clear hcn hcq
            have lMw := BM.lt
            go_wp2_with fail
            refine RS.wp_region_rgl (RS.cls_KF (wr.heap.size) 33 #[.string ⟨na.toArray⟩, .string ⟨nb.toArray⟩]) [(10, 9)] [RS.Eqv (.agg #[.string ⟨sa.toArray⟩, .string ⟨sb.toArray⟩]), RS.Eqv (.slice (some ⟨b9, off, none⟩) qs.length cap), RS.Eqv (.int .i64 (k : Int)), RS.Eqv (.pointer (some ⟨b9, off + k * 2, none⟩)), RS.Eqv (.agg #[.string ⟨p1.toArray⟩, .string ⟨p2.toArray⟩]), RS.Eqv (.tuple #[.agg #[.string ⟨na.toArray⟩, .string ⟨nb.toArray⟩], .int .i64 0]), RS.Eqv (.tuple #[.agg #[.string ⟨na.toArray⟩, .string ⟨nb.toArray⟩], .int .i64 0]), RS.Eqv (.agg #[.string ⟨na.toArray⟩, .string ⟨nb.toArray⟩]), RS.Eqv (.int .i64 0), RS.PtrR (wr.heap.size) 33 #[.string ⟨na.toArray⟩, .string ⟨nb.toArray⟩], RS.StoR (wr.heap.size) 33 #[.string ⟨na.toArray⟩, .string ⟨nb.toArray⟩], RS.Eqv (.int .i64 0)] 12 66 (by kernel_rfl) rfl rfl (by kernel_rfl) (by kernel_rfl) ?_ ?_ ?_
            · simp only [RS.AllS]
              exact ⟨RS.stab_eqv _, RS.stab_eqv _, RS.stab_eqv _, RS.stab_eqv _, RS.stab_eqv _, RS.stab_eqv _, RS.stab_eqv _, RS.stab_eqv _, RS.stab_eqv _, RS.stab_ptr _ _ _, RS.stab_sto _ _ _, RS.stab_eqv _, trivial⟩
            · simp only [RS.UsersG, List.take, List.length]
              refine ⟨?_, ?_, ?_, ?_, ?_, ?_, ?_, ?_, ?_, ?_, ?_, ?_, trivial⟩
              all_goals (intro vs w2 hb2 hd; simp only [RS.putD, Act.put, List.nil_append, List.cons_append, List.setIfInBounds_toArray, List.set_cons_succ, List.set_cons_zero, Nat.reduceAdd])
              · have q0 := (BM.below hb2.1 BM.lt).cell 0 rfl; have q1 := (BM.below hb2.1 BM.lt).cell 1 rfl; clear hd kA hcel; go_wp2; first | exact ⟨RS.KF.rf _ _ _ _, rfl⟩ | exact ⟨RS.KF.rf _ _ _ _, by simp [RS.Eqv]⟩ | (simp [RS.Eqv])
              · clear hd kA hcel; go_wp2; first | exact ⟨RS.KF.rf _ _ _ _, rfl⟩ | exact ⟨RS.KF.rf _ _ _ _, by simp [RS.Eqv]⟩ | (simp [RS.Eqv])
              · clear hd kA hcel; go_wp2; first | exact ⟨RS.KF.rf _ _ _ _, rfl⟩ | exact ⟨RS.KF.rf _ _ _ _, by simp [RS.Eqv]⟩ | (simp [RS.Eqv])
              · have e0 := hd 1 rfl; change vs 1 = _ at e0; have e1 := hd 2 rfl; change vs 2 = _ at e1; clear hd kA hcel; rw [e0, e1]; go_wp2; first | exact ⟨RS.KF.rf _ _ _ _, rfl⟩ | exact ⟨RS.KF.rf _ _ _ _, by simp [RS.Eqv]⟩ | (simp [RS.Eqv])
              · have e0 := hd 3 rfl; change vs 3 = _ at e0; have qz := hcel w2 (st.bl.trans (hb2.1.mono st.bl.size)); obtain ⟨-, q0, q1⟩ := qz; clear hd kA hcel; rw [e0]; go_wp2; first | exact ⟨RS.KF.rf _ _ _ _, rfl⟩ | exact ⟨RS.KF.rf _ _ _ _, by simp [RS.Eqv]⟩ | (simp [RS.Eqv])
              · have e0 := hd 0 rfl; change vs 0 = _ at e0; have e1 := hd 4 rfl; change vs 4 = _ at e1; have hC := kA w2; clear hd kA hcel; rw [e0, e1]
                go_wp2_with fail
                refine hC.mono ?_
                rintro _ w9 ⟨rfl, hb9⟩
                clear hC
                go_wp2
                exact ⟨hb2.call (Nat.le_refl _) hb9, rfl⟩
              · have e0 := hd 5 rfl; change vs 5 = _ at e0; clear hd kA hcel; rw [e0]; go_wp2; first | exact ⟨RS.KF.rf _ _ _ _, rfl⟩ | exact ⟨RS.KF.rf _ _ _ _, by simp [RS.Eqv]⟩ | (simp [RS.Eqv])
              · have e0 := hd 6 rfl; change vs 6 = _ at e0; clear hd kA hcel; rw [e0]; go_wp2; first | exact ⟨RS.KF.rf _ _ _ _, rfl⟩ | exact ⟨RS.KF.rf _ _ _ _, by simp [RS.Eqv]⟩ | (simp [RS.Eqv])
              · have e0 := hd 6 rfl; change vs 6 = _ at e0; clear hd kA hcel; rw [e0]; go_wp2; first | exact ⟨RS.KF.rf _ _ _ _, rfl⟩ | exact ⟨RS.KF.rf _ _ _ _, by simp [RS.Eqv]⟩ | (simp [RS.Eqv])
              · clear hd kA hcel; go_wp2; exact hb2.new (Nat.le_refl _) #[.string ⟨#[]⟩, .string ⟨#[]⟩] rfl _
              · have e0 := hd 7 rfl; change vs 7 = _ at e0; obtain ⟨g, c, eg, hg, hcs, hB⟩ := hd 9 rfl; change vs 9 = _ at eg; obtain ⟨a', b', rfl⟩ := RS.two_cells hcs; have q0 := hB.cell 0 rfl; have q1 := hB.cell 1 rfl; have q2 := hB.frozen 0; have q3 := hB.frozen 1; clear hd kA hcel; rw [eg, e0]; go_wp2; exact RS.KF.store2 hg hB _ eg _
              · have e0 := hd 8 rfl; change vs 8 = _ at e0; clear hd kA hcel; rw [e0]; go_wp2; first | exact ⟨RS.KF.rf _ _ _ _, rfl⟩ | exact ⟨RS.KF.rf _ _ _ _, by simp [RS.Eqv]⟩ | (simp [RS.Eqv])
            · intro vs w901 hba hR2
              simp only [RS.AllR, RS.Eqv] at hR2
              obtain ⟨e0, e1, e2, e3, e4, e5, e6, e7, e8, e9, e10, e11, -⟩ := hR2
              obtain ⟨gX, egS, hgS, BX⟩ := e10
              change vs 9 = _ at egS
              clear e9
              simp only [List.drop, List.take, List.map, RS.putD, Act.put, List.setIfInBounds_toArray, List.set_cons_succ, List.set_cons_zero, Nat.reduceAdd]
              rw [e0, e1, e2, e3, e4, e5, e6, e7, e8, egS, e11]
              clear e0 e1 e2 e3 e4 e5 e6 e7 e8 e11
              have hb1 := hba.1
              replace st := st.call hb1
              replace BM := BM.call hb1
              replace BR := BR.call hb1
              have lX := BX.lt
              clear hb1 hba
              have hXM : ¬ gX = gM := by omega
              have hXM' : ¬ gM = gX := fun h => hXM h.symm
              have cX0 := BX.cell 0 rfl
              have cX1 := BX.cell 1 rfl
              have cM0 := BM.cell 0 rfl
              have cM1 := BM.cell 1 rfl
              have fM0 := BM.frozen 0
              have fM1 := BM.frozen 1
              have stF := (st.set hE0 (p := ⟨gM, 0, none⟩) hgW (.string ⟨na.toArray⟩)).set hE0 (p := ⟨gM, 1, none⟩) hgW (.string ⟨nb.toArray⟩)
              have BMF := (BM.set 0 (.string ⟨na.toArray⟩)).set 1 (.string ⟨nb.toArray⟩)
              have BRF := (BR.far (p := ⟨gM, 0, none⟩) (by show w.heap.size ≠ gM; omega) (.string ⟨na.toArray⟩)).far (p := ⟨gM, 1, none⟩) (by show w.heap.size ≠ gM; omega) (.string ⟨nb.toArray⟩)
              clear kA hcel BX
              go_wp2
              exact ⟨⟨k + 1, q + x, na, nb, hkp, by go_num, hnx, ln, BRF, by simpa using BMF, stF⟩, by simp [intOf] <;> omega⟩
          · have kA := fun w0 => fAdd_o w0 ls lx hcq.out.2 hxf hf
            have hnone : comb qs = none := comb_none (k := k + 1) (by rw [hcn.out]; exact opO_no hf)
            obtain ⟨r, h, -⟩ | ⟨-, rfl, rfl, rfl⟩ := hout.out
            · rw [hnone] at h; cases h
            clear hcn hcq hnone hout
            have lMw := BM.lt
            go_wp2_with fail
            refine RS.wp_region_rgl (RS.cls_KF (wr.heap.size) 33 #[.string ⟨#[]⟩, .string ⟨#[]⟩]) [(10, 9)] [RS.Eqv (.agg #[.string ⟨sa.toArray⟩, .string ⟨sb.toArray⟩]), RS.Eqv (.slice (some ⟨b9, off, none⟩) qs.length cap), RS.Eqv (.int .i64 (k : Int)), RS.Eqv (.pointer (some ⟨b9, off + k * 2, none⟩)), RS.Eqv (.agg #[.string ⟨p1.toArray⟩, .string ⟨p2.toArray⟩]), RS.Eqv (.tuple #[.agg #[.string ⟨#[]⟩, .string ⟨#[]⟩], .int .i64 40]), RS.Eqv (.tuple #[.agg #[.string ⟨#[]⟩, .string ⟨#[]⟩], .int .i64 40]), RS.Eqv (.agg #[.string ⟨#[]⟩, .string ⟨#[]⟩]), RS.Eqv (.int .i64 40), RS.PtrR (wr.heap.size) 33 #[.string ⟨#[]⟩, .string ⟨#[]⟩], RS.StoR (wr.heap.size) 33 #[.string ⟨#[]⟩, .string ⟨#[]⟩], RS.Eqv (.int .i64 40)] 12 66 (by kernel_rfl) rfl rfl (by kernel_rfl) (by kernel_rfl) ?_ ?_ ?_
            · simp only [RS.AllS]
              exact ⟨RS.stab_eqv _, RS.stab_eqv _, RS.stab_eqv _, RS.stab_eqv _, RS.stab_eqv _, RS.stab_eqv _, RS.stab_eqv _, RS.stab_eqv _, RS.stab_eqv _, RS.stab_ptr _ _ _, RS.stab_sto _ _ _, RS.stab_eqv _, trivial⟩
            · simp only [RS.UsersG, List.take, List.length]
              refine ⟨?_, ?_, ?_, ?_, ?_, ?_, ?_, ?_, ?_, ?_, ?_, ?_, trivial⟩
              all_goals (intro vs w2 hb2 hd; simp only [RS.putD, Act.put, List.nil_append, List.cons_append, List.setIfInBounds_toArray, List.set_cons_succ, List.set_cons_zero, Nat.reduceAdd])
              · have q0 := (BM.below hb2.1 BM.lt).cell 0 rfl; have q1 := (BM.below hb2.1 BM.lt).cell 1 rfl; clear hd kA hcel; go_wp2; first | exact ⟨RS.KF.rf _ _ _ _, rfl⟩ | exact ⟨RS.KF.rf _ _ _ _, by simp [RS.Eqv]⟩ | (simp [RS.Eqv])
              · clear hd kA hcel; go_wp2; first | exact ⟨RS.KF.rf _ _ _ _, rfl⟩ | exact ⟨RS.KF.rf _ _ _ _, by simp [RS.Eqv]⟩ | (simp [RS.Eqv])
              · clear hd kA hcel; go_wp2; first | exact ⟨RS.KF.rf _ _ _ _, rfl⟩ | exact ⟨RS.KF.rf _ _ _ _, by simp [RS.Eqv]⟩ | (simp [RS.Eqv])
              · have e0 := hd 1 rfl; change vs 1 = _ at e0; have e1 := hd 2 rfl; change vs 2 = _ at e1; clear hd kA hcel; rw [e0, e1]; go_wp2; first | exact ⟨RS.KF.rf _ _ _ _, rfl⟩ | exact ⟨RS.KF.rf _ _ _ _, by simp [RS.Eqv]⟩ | (simp [RS.Eqv])
              · have e0 := hd 3 rfl; change vs 3 = _ at e0; have qz := hcel w2 (st.bl.trans (hb2.1.mono st.bl.size)); obtain ⟨-, q0, q1⟩ := qz; clear hd kA hcel; rw [e0]; go_wp2; first | exact ⟨RS.KF.rf _ _ _ _, rfl⟩ | exact ⟨RS.KF.rf _ _ _ _, by simp [RS.Eqv]⟩ | (simp [RS.Eqv])
              · have e0 := hd 0 rfl; change vs 0 = _ at e0; have e1 := hd 4 rfl; change vs 4 = _ at e1; have hC := kA w2; clear hd kA hcel; rw [e0, e1]
                go_wp2_with fail
                refine hC.mono ?_
                rintro _ w9 ⟨rfl, hb9⟩
                clear hC
                go_wp2
                exact ⟨hb2.call (Nat.le_refl _) hb9, rfl⟩
              · have e0 := hd 5 rfl; change vs 5 = _ at e0; clear hd kA hcel; rw [e0]; go_wp2; first | exact ⟨RS.KF.rf _ _ _ _, rfl⟩ | exact ⟨RS.KF.rf _ _ _ _, by simp [RS.Eqv]⟩ | (simp [RS.Eqv])
              · have e0 := hd 6 rfl; change vs 6 = _ at e0; clear hd kA hcel; rw [e0]; go_wp2; first | exact ⟨RS.KF.rf _ _ _ _, rfl⟩ | exact ⟨RS.KF.rf _ _ _ _, by simp [RS.Eqv]⟩ | (simp [RS.Eqv])
              · have e0 := hd 6 rfl; change vs 6 = _ at e0; clear hd kA hcel; rw [e0]; go_wp2; first | exact ⟨RS.KF.rf _ _ _ _, rfl⟩ | exact ⟨RS.KF.rf _ _ _ _, by simp [RS.Eqv]⟩ | (simp [RS.Eqv])
              · clear hd kA hcel; go_wp2; exact hb2.new (Nat.le_refl _) #[.string ⟨#[]⟩, .string ⟨#[]⟩] rfl _
              · have e0 := hd 7 rfl; change vs 7 = _ at e0; obtain ⟨g, c, eg, hg, hcs, hB⟩ := hd 9 rfl; change vs 9 = _ at eg; obtain ⟨a', b', rfl⟩ := RS.two_cells hcs; have q0 := hB.cell 0 rfl; have q1 := hB.cell 1 rfl; have q2 := hB.frozen 0; have q3 := hB.frozen 1; clear hd kA hcel; rw [eg, e0]; go_wp2; exact RS.KF.store2 hg hB _ eg _
              · have e0 := hd 8 rfl; change vs 8 = _ at e0; clear hd kA hcel; rw [e0]; go_wp2; first | exact ⟨RS.KF.rf _ _ _ _, rfl⟩ | exact ⟨RS.KF.rf _ _ _ _, by simp [RS.Eqv]⟩ | (simp [RS.Eqv])
            · intro vs w901 hba hR2
              simp only [RS.AllR, RS.Eqv] at hR2
              obtain ⟨e0, e1, e2, e3, e4, e5, e6, e7, e8, e9, e10, e11, -⟩ := hR2
              obtain ⟨gX, egS, hgS, BX⟩ := e10
              change vs 9 = _ at egS
              clear e9
              simp only [List.drop, List.take, List.map, RS.putD, Act.put, List.setIfInBounds_toArray, List.set_cons_succ, List.set_cons_zero, Nat.reduceAdd]
              rw [e0, e1, e2, e3, e4, e5, e6, e7, e8, egS, e11]
              clear e0 e1 e2 e3 e4 e5 e6 e7 e8 e11
              have hb1 := hba.1
              replace st := st.call hb1
              replace BM := BM.call hb1
              replace BR := BR.call hb1
              have lX := BX.lt
              clear hb1 hba
              have c0 := BR.cell 0 rfl
              have c1 := BR.cell 1 rfl
              have f0 := BR.frozen 0
              have f1 := BR.frozen 1
              have B4 := (BR.set 0 (.string ⟨#[]⟩)).set 1 (.string ⟨#[]⟩)
              have hb4 := bSet (bSet st.bl (p := ⟨w.heap.size, 0, none⟩) (Nat.le_refl _) (.string ⟨#[]⟩)) (p := ⟨w.heap.size, 1, none⟩) (Nat.le_refl _) (.string ⟨#[]⟩)
              clear kA hcel BX
              go_wp2
              first | exact bodyPost_ret (results_Q rfl _ _ rfl rfl B4) rfl ⟨rfl, hb4⟩ | exact bodyPost_ret (results_Q rfl _ _ rfl rfl BR) rfl ⟨rfl, st.bl⟩
        · obtain rfl : k = qs.length := by omega
          rw [List.take_length] at hcq
          obtain ⟨r, h, lr, rfl⟩ | ⟨h, -⟩ := hout.out
          · rw [hcq.out.1] at h
            cases h
            have hLs := fun w0 => rleast_s w0 hcq.out.2 ls lr
            have c0 := BM.cell 0 rfl
            have c1 := BM.cell 1 rfl
            clear hcq hout
            go_wp2_with fail
            refine (hLs _).mono ?_
            rintro _ w8 ⟨rfl, hb1⟩
            replace st := st.call hb1
            replace BR := BR.call hb1
            clear hLs hb1 c0 c1
            have c0 := BR.cell 0 rfl
            have c1 := BR.cell 1 rfl
            have f0 := BR.frozen 0
            have f1 := BR.frozen 1
            have B4 := (BR.set 0 (.string ⟨ra.toArray⟩)).set 1 (.string ⟨rb.toArray⟩)
            have hb4 := bSet (bSet st.bl (p := ⟨w.heap.size, 0, none⟩) (Nat.le_refl _) (.string ⟨ra.toArray⟩)) (p := ⟨w.heap.size, 1, none⟩) (Nat.le_refl _) (.string ⟨rb.toArray⟩)
            go_wp2
            exact bodyPost_ret (results_Q rfl _ _ rfl rfl B4) rfl ⟨rfl, hb4⟩
          · rw [hcq.out.1] at h; cases h
end Go.Proofs.YtklelhkcbdajpaaGreatDoor
namespace Tb
theorem Bw.ex {l : List Int} {w : Int} (hs : So l) (hw : 1 ≤ w) : ∃ b a, Bw l w l.length b a := by
  have h : ∀ k, k ≤ l.length → ∃ b a, Bw l w k b a := fun k => by
    induction k with
    | zero => exact fun _ => ⟨0, 0, Bw.start l w⟩
    | succ k ih =>
      intro hk
      obtain ⟨b, a, hB⟩ := ih (by omega)
      obtain ⟨n1, n2⟩ := hB.next hs hw (show k < l.length by omega)
      by_cases hb : b < (cw l l[k] w : Int)
      · exact ⟨_, _, n1 hb⟩
      · exact ⟨_, _, n2 hb⟩
  exact h l.length (Nat.le_refl _)
end Tb
namespace Go.Proofs.YtklelhkcbdajpaaGreatDoor
open Go.RowKit Go.Shelf
theorem fMul_k {x y z : Rat} {xa xb ya yb za zb : List UInt8} (w : World) (lx : LQ x xa xb) (ly : LQ y ya yb) (lz : LQ z za zb) (hx : Rq.Fq x) (hy : Rq.Fq y) (hf : Ig.fits (x.num * y.num) ∧ Ig.fits ((x.den : Int) * y.den)) (h : Kp (x * y = z)) :
    Calls Tryz.prog 61 #[.agg #[.string ⟨xa.toArray⟩, .string ⟨xb.toArray⟩], .agg #[.string ⟨ya.toArray⟩, .string ⟨yb.toArray⟩]] w fun e w' => e = .returned (.tuple #[.agg #[.string ⟨za.toArray⟩, .string ⟨zb.toArray⟩], .int .i64 0]) ∧ Below w.heap.size w w' := by
  have h' := fMul_both x y w hx hy
  rw [lx.eq, ly.eq, h.out, lz.eq] at h'
  exact h'.mono fun e w' hh => ⟨hh.1 hf, hh.2.2⟩
theorem bst_fq {n m mx : Nat} {c e : Int} (hn5 : n ≤ 50) (h0 : 0 ≤ c) (h1 : c ≤ e) (h2 : e ≤ 1000) (h3 : 1 ≤ e) (hmx : mx ≤ 60) : (Ig.fits ((Tb.Pq n m c (e - c)).num * (Wq (mx : Int)).num) ∧ Ig.fits (((Tb.Pq n m c (e - c)).den : Int) * (Wq (mx : Int)).den)) ∧ Rq.Fq (bst n m mx c e) := by
  have hpq := Tb.Pq_qz (n := n) h0 (show 0 ≤ e - c by omega) (by omega) (by omega) m
  have hwn : (Wq (mx : Int)).num = (mx : Int) := by rw [Wq_is]; exact Rat.num_intCast _
  have hwd : (Wq (mx : Int)).den = 1 := by rw [Wq_is]; exact Rat.den_intCast _
  have hms : Rq.Sz 2 (mx : Int) := by unfold Rq.Sz; rw [Int.natAbs_natCast]; omega
  refine ⟨⟨by rw [hwn]; exact (hpq.num.mul hms).fits (by omega), by rw [hwd]; exact (hpq.den.mul Rq.sz_one).fits (by omega)⟩, ?_⟩
  have e1 : bst n m mx c e = Rat.divInt ((Tb.Pq n m c (e - c)).num * (mx : Int)) ((Tb.Pq n m c (e - c)).den : Int) := by
    unfold bst
    rw [← Rq.mul_is, hwn, hwd]
    simp
  obtain ⟨s1, s2⟩ := divInt_small ((Tb.Pq n m c (e - c)).num * (mx : Int)) (Tb.Pq n m c (e - c)).den (Tb.Pq n m c (e - c)).den_pos
  rw [← e1] at s1 s2
  refine ⟨Nat.lt_of_le_of_lt s1 ((hpq.num.mul hms).fits (by omega)), ?_⟩
  have hd := hpq.den.fits (show 3 * n + 1 ≤ 200 by omega)
  unfold Ig.fits at hd ⊢
  rw [Int.natAbs_natCast] at hd ⊢
  omega
theorem Burst_not (l : List Int) (A : Option Addr) (cap : Nat) (width n c e : Int) (w : World) (hA : At 1 intC w w.heap.size A l) (hn : l.length ≤ cap) (hl : l.length ≤ 9223372036854775807) (h : ¬ ((Tb.Tms l ∧ 1 ≤ width ∧ width ≤ 10000000) ∧ chB c e = true ∧ 0 ≤ n ∧ n ≤ 50)) (hE : Env w) :
    Calls Tryz.prog 23 #[.slice A l.length cap, .int .i64 width, .int .i64 n, .agg #[.int .i64 c, .int .i64 e]] w fun e' w' => e' = .returned (.tuple #[.int .i64 0, .agg #[.string ⟨#[]⟩, .string ⟨#[]⟩], .int .i64 350]) ∧ Below w.heap.size w w' := by
  have hb0 := bNew (bNewW w (.cells #[.int .i64 c, .int .i64 e] 23)) (.cells #[.string ⟨#[]⟩, .string ⟨#[]⟩] 33)
  have B0 := (Bx.mk w 23 #[.int .i64 c, .int .i64 e]).new (.cells #[.string ⟨#[]⟩, .string ⟨#[]⟩] 33)
  have B1 := Bx.mk (w.alloc (.cells #[.int .i64 c, .int .i64 e] 23)) 33 #[.string ⟨#[]⟩, .string ⟨#[]⟩]
  rw [alloc_size] at B1
  have hA0 := (hA.below hb0).more hb0.size
  replace h := Kp.mk h
  have hEn : ∀ W, Below w.heap.size w W → Env W := fun W hW => hE.below hW
  by_cases hS' : Tb.Tms l ∧ 1 ≤ width ∧ width ≤ 10000000
  · have hS := Scan_good l A cap width _ hA0 hn hS'.1 hS'.2.1 hS'.2.2
    have hT' : ¬ (chB c e = true ∧ 0 ≤ n ∧ n ≤ 50) := fun hh => h.out ⟨hS', hh⟩
    replace hT' := Kp.mk hT'
    clear hS' h hA0 hA
    go_enter Tryz.func23, Tryz.ntmps23
    go_wp2_with fail
    refine hS.mono ?_
    rintro _ w1 ⟨⟨best, at_, rfl, -⟩, hb1⟩
    replace hb0 := bCall hb0 hb1
    replace B0 := B0.call hb1
    replace B1 := B1.call hb1
    clear hS hb1
    have hT := tails_not n c e w1 hT'.out
    clear hT'
    have c0 := B0.cell 0 rfl
    have c1 := B0.cell 1 rfl
    go_wp2_with fail
    refine hT.mono ?_
    rintro _ w2 ⟨rfl, hb1⟩
    replace hb0 := bCall hb0 hb1
    replace B0 := B0.call hb1
    replace B1 := B1.call hb1
    clear hT hb1 c0 c1
    have d0 := B1.cell 0 rfl
    have d1 := B1.cell 1 rfl
    have f0 := B1.frozen 0
    have f1 := B1.frozen 1
    have B4 := (B1.set 0 (.string ⟨#[]⟩)).set 1 (.string ⟨#[]⟩)
    have hb4 := bSet (bSet hb0 (p := ⟨w.heap.size + 1, 0, none⟩) (Nat.le_succ _) (.string ⟨#[]⟩)) (p := ⟨w.heap.size + 1, 1, none⟩) (Nat.le_succ _) (.string ⟨#[]⟩)
    go_wp2
    first | exact bodyPost_ret (results_B rfl _ _ rfl rfl rfl B4) rfl ⟨rfl, hb4⟩ | exact bodyPost_ret (results_B rfl _ _ rfl rfl rfl B1) rfl ⟨rfl, hb0⟩
  · have hS := Scan_not l A cap width _ hA0 hn hl hS'
    clear hS' h hA0 hA
    by_cases hT' : chB c e = true ∧ 0 ≤ n ∧ n ≤ 50
    · obtain ⟨g1, g2, g3⟩ := hT'
      obtain ⟨a1, a2, a3, a4⟩ := chB_iff.1 g1
      obtain ⟨m, rfl⟩ := Int.eq_ofNat_of_zero_le g2
      clear g1
      go_enter Tryz.func23, Tryz.ntmps23
      go_wp2_with fail
      refine hS.mono ?_
      rintro _ w1 ⟨rfl, hb1⟩
      replace hb0 := bCall hb0 hb1
      replace B0 := B0.call hb1
      replace B1 := B1.call hb1
      clear hS hb1
      have hT := tails_good m c e w1 (by omega) a3 a4 a2 a1 (hEn _ hb0)
      have c0 := B0.cell 0 rfl
      have c1 := B0.cell 1 rfl
      go_wp2_with fail
      refine hT.mono ?_
      rintro _ w2 ⟨⟨gn, ga, gr, gy, go, rfl, -⟩, hb1⟩
      replace hb0 := bCall hb0 hb1
      replace B0 := B0.call hb1
      replace B1 := B1.call hb1
      clear hT hb1 c0 c1
      have d0 := B1.cell 0 rfl
      have d1 := B1.cell 1 rfl
      have f0 := B1.frozen 0
      have f1 := B1.frozen 1
      have B4 := (B1.set 0 (.string ⟨#[]⟩)).set 1 (.string ⟨#[]⟩)
      have hb4 := bSet (bSet hb0 (p := ⟨w.heap.size + 1, 0, none⟩) (Nat.le_succ _) (.string ⟨#[]⟩)) (p := ⟨w.heap.size + 1, 1, none⟩) (Nat.le_succ _) (.string ⟨#[]⟩)
      go_wp2
      first | exact bodyPost_ret (results_B rfl _ _ rfl rfl rfl B4) rfl ⟨rfl, hb4⟩ | exact bodyPost_ret (results_B rfl _ _ rfl rfl rfl B1) rfl ⟨rfl, hb0⟩
    · replace hT' := Kp.mk hT'
      go_enter Tryz.func23, Tryz.ntmps23
      go_wp2_with fail
      refine hS.mono ?_
      rintro _ w1 ⟨rfl, hb1⟩
      replace hb0 := bCall hb0 hb1
      replace B0 := B0.call hb1
      replace B1 := B1.call hb1
      clear hS hb1
      have hT := tails_not n c e w1 hT'.out
      clear hT'
      have c0 := B0.cell 0 rfl
      have c1 := B0.cell 1 rfl
      go_wp2_with fail
      refine hT.mono ?_
      rintro _ w2 ⟨rfl, hb1⟩
      replace hb0 := bCall hb0 hb1
      replace B0 := B0.call hb1
      replace B1 := B1.call hb1
      clear hT hb1 c0 c1
      have d0 := B1.cell 0 rfl
      have d1 := B1.cell 1 rfl
      have f0 := B1.frozen 0
      have f1 := B1.frozen 1
      have B4 := (B1.set 0 (.string ⟨#[]⟩)).set 1 (.string ⟨#[]⟩)
      have hb4 := bSet (bSet hb0 (p := ⟨w.heap.size + 1, 0, none⟩) (Nat.le_succ _) (.string ⟨#[]⟩)) (p := ⟨w.heap.size + 1, 1, none⟩) (Nat.le_succ _) (.string ⟨#[]⟩)
      go_wp2
      first | exact bodyPost_ret (results_B rfl _ _ rfl rfl rfl B4) rfl ⟨rfl, hb4⟩ | exact bodyPost_ret (results_B rfl _ _ rfl rfl rfl B1) rfl ⟨rfl, hb0⟩
theorem rBurst_not (l : List Int) (A : Option Addr) (cap : Nat) (width n c e : Int) (w : World) (hA : At 1 intC w w.heap.size A l) (hn : l.length ≤ cap) (hl : l.length ≤ 9223372036854775807) (h : ¬ ((Tb.Tms l ∧ 1 ≤ width ∧ width ≤ 10000000) ∧ chB c e = true ∧ 0 ≤ n ∧ n ≤ 50)) :
    Calls Tryz.prog 24 #[.slice A l.length cap, .int .i64 width, .int .i64 n, .agg #[.int .i64 c, .int .i64 e]] w fun e' w' => e' = .returned (.tuple #[.int .i64 0, .agg #[.string ⟨#[]⟩, .string ⟨#[]⟩], .int .i64 350]) ∧ Below w.heap.size w w' := by
  have hb0 := bNew (bNewW w (.cells #[.int .i64 c, .int .i64 e] 23)) (.cells #[.string ⟨#[]⟩, .string ⟨#[]⟩] 33)
  have B0 := (Bx.mk w 23 #[.int .i64 c, .int .i64 e]).new (.cells #[.string ⟨#[]⟩, .string ⟨#[]⟩] 33)
  have B1 := Bx.mk (w.alloc (.cells #[.int .i64 c, .int .i64 e] 23)) 33 #[.string ⟨#[]⟩, .string ⟨#[]⟩]
  rw [alloc_size] at B1
  have hA0 := (hA.below hb0).more hb0.size
  replace h := Kp.mk h
  by_cases hS' : Tb.Tms l ∧ 1 ≤ width ∧ width ≤ 10000000
  · obtain ⟨bb, ab, hBw⟩ := Tb.Bw.ex (l := l) (w := width) hS'.1.2.1 hS'.2.1
    have hS := rScan_good l A cap width bb ab _ hA0 hn hS'.1 hS'.2.1 hS'.2.2 hBw
    clear hBw
    have hT' : ¬ (chB c e = true ∧ 0 ≤ n ∧ n ≤ 50) := fun hh => h.out ⟨hS', hh⟩
    replace hT' := Kp.mk hT'
    clear hS' h hA0 hA
    go_enter Tryz.func24, Tryz.ntmps24
    go_wp2_with fail
    refine hS.mono ?_
    rintro _ w1 ⟨rfl, hb1⟩
    replace hb0 := bCall hb0 hb1
    replace B0 := B0.call hb1
    replace B1 := B1.call hb1
    clear hS hb1
    have hT := rBinomial_not n 0 c e w1 (fun hh => hT'.out ⟨hh.1, hh.2.1, hh.2.2.1⟩)
    clear hT'
    have c0 := B0.cell 0 rfl
    have c1 := B0.cell 1 rfl
    go_wp2_with fail
    refine hT.mono ?_
    rintro _ w2 ⟨rfl, hb1⟩
    replace hb0 := bCall hb0 hb1
    replace B0 := B0.call hb1
    replace B1 := B1.call hb1
    clear hT hb1 c0 c1
    go_upto_region 3 with fail
    replace B1 := B1.new (.cells #[.string ⟨#[]⟩, .string ⟨#[]⟩] 33)
    replace hb0 := bNew hb0 (.cells #[.string ⟨#[]⟩, .string ⟨#[]⟩] 33)
    generalize w2.alloc (.cells #[.string ⟨#[]⟩, .string ⟨#[]⟩] 33) = w3 at *
    generalize w2.heap.size = gq at *
    have d0 := B1.cell 0 rfl
    have d1 := B1.cell 1 rfl
    have f0 := B1.frozen 0
    have f1 := B1.frozen 1
    have B4 := (B1.set 0 (.string ⟨#[]⟩)).set 1 (.string ⟨#[]⟩)
    have hb4 := bSet (bSet hb0 (p := ⟨w.heap.size + 1, 0, none⟩) (Nat.le_succ _) (.string ⟨#[]⟩)) (p := ⟨w.heap.size + 1, 1, none⟩) (Nat.le_succ _) (.string ⟨#[]⟩)
    go_wp2
    first | exact bodyPost_ret (results_B rfl _ _ rfl rfl rfl B4) rfl ⟨rfl, hb4⟩ | exact bodyPost_ret (results_B rfl _ _ rfl rfl rfl B1) rfl ⟨rfl, hb0⟩
  · have hS := rScan_not l A cap width _ hA0 hn hl hS'
    clear hS' h hA0 hA
    by_cases hT' : chB c e = true ∧ 0 ≤ n ∧ n ≤ 50
    · obtain ⟨g1, g2, g3⟩ := hT'
      obtain ⟨a1, a2, a3, a4⟩ := chB_iff.1 g1
      obtain ⟨m, rfl⟩ := Int.eq_ofNat_of_zero_le g2
      clear g1
      obtain ⟨pa, pb, lp⟩ := LQ.ex (Tb.Pq m 0 c (e - c))
      go_enter Tryz.func24, Tryz.ntmps24
      go_wp2_with fail
      refine hS.mono ?_
      rintro _ w1 ⟨rfl, hb1⟩
      replace hb0 := bCall hb0 hb1
      replace B0 := B0.call hb1
      replace B1 := B1.call hb1
      clear hS hb1
      have hT := rBinomial_good m 0 c e pa pb w1 (by omega) (Nat.zero_le _) a3 a4 a2 a1 lp
      have c0 := B0.cell 0 rfl
      have c1 := B0.cell 1 rfl
      go_wp2_with fail
      refine hT.mono ?_
      rintro _ w2 ⟨rfl, hb1⟩
      replace hb0 := bCall hb0 hb1
      replace B0 := B0.call hb1
      replace B1 := B1.call hb1
      clear hT hb1 c0 c1
      go_upto_region 3 with fail
      replace B1 := B1.new (.cells #[.string ⟨pa.toArray⟩, .string ⟨pb.toArray⟩] 33)
      replace hb0 := bNew hb0 (.cells #[.string ⟨pa.toArray⟩, .string ⟨pb.toArray⟩] 33)
      generalize w2.alloc (.cells #[.string ⟨pa.toArray⟩, .string ⟨pb.toArray⟩] 33) = w3 at *
      generalize w2.heap.size = gq at *
      have d0 := B1.cell 0 rfl
      have d1 := B1.cell 1 rfl
      have f0 := B1.frozen 0
      have f1 := B1.frozen 1
      have B4 := (B1.set 0 (.string ⟨#[]⟩)).set 1 (.string ⟨#[]⟩)
      have hb4 := bSet (bSet hb0 (p := ⟨w.heap.size + 1, 0, none⟩) (Nat.le_succ _) (.string ⟨#[]⟩)) (p := ⟨w.heap.size + 1, 1, none⟩) (Nat.le_succ _) (.string ⟨#[]⟩)
      go_wp2
      first | exact bodyPost_ret (results_B rfl _ _ rfl rfl rfl B4) rfl ⟨rfl, hb4⟩ | exact bodyPost_ret (results_B rfl _ _ rfl rfl rfl B1) rfl ⟨rfl, hb0⟩
    · replace hT' := Kp.mk hT'
      go_enter Tryz.func24, Tryz.ntmps24
      go_wp2_with fail
      refine hS.mono ?_
      rintro _ w1 ⟨rfl, hb1⟩
      replace hb0 := bCall hb0 hb1
      replace B0 := B0.call hb1
      replace B1 := B1.call hb1
      clear hS hb1
      have hT := rBinomial_not n 0 c e w1 (fun hh => hT'.out ⟨hh.1, hh.2.1, hh.2.2.1⟩)
      clear hT'
      have c0 := B0.cell 0 rfl
      have c1 := B0.cell 1 rfl
      go_wp2_with fail
      refine hT.mono ?_
      rintro _ w2 ⟨rfl, hb1⟩
      replace hb0 := bCall hb0 hb1
      replace B0 := B0.call hb1
      replace B1 := B1.call hb1
      clear hT hb1 c0 c1
      go_upto_region 3 with fail
      replace B1 := B1.new (.cells #[.string ⟨#[]⟩, .string ⟨#[]⟩] 33)
      replace hb0 := bNew hb0 (.cells #[.string ⟨#[]⟩, .string ⟨#[]⟩] 33)
      generalize w2.alloc (.cells #[.string ⟨#[]⟩, .string ⟨#[]⟩] 33) = w3 at *
      generalize w2.heap.size = gq at *
      have d0 := B1.cell 0 rfl
      have d1 := B1.cell 1 rfl
      have f0 := B1.frozen 0
      have f1 := B1.frozen 1
      have B4 := (B1.set 0 (.string ⟨#[]⟩)).set 1 (.string ⟨#[]⟩)
      have hb4 := bSet (bSet hb0 (p := ⟨w.heap.size + 1, 0, none⟩) (Nat.le_succ _) (.string ⟨#[]⟩)) (p := ⟨w.heap.size + 1, 1, none⟩) (Nat.le_succ _) (.string ⟨#[]⟩)
      go_wp2
      first | exact bodyPost_ret (results_B rfl _ _ rfl rfl rfl B4) rfl ⟨rfl, hb4⟩ | exact bodyPost_ret (results_B rfl _ _ rfl rfl rfl B1) rfl ⟨rfl, hb0⟩
theorem rBurst_good (l : List Int) (A : Option Addr) (cap : Nat) (width : Int) (n : Nat) (c e : Int) (best : Nat) (at_ : Int) (ra rb : List UInt8) (w : World) (hA : At 1 intC w w.heap.size A l) (hn : l.length ≤ cap) (ht : Tb.Tms l) (hw1 : 1 ≤ width) (hw2 : width ≤ 10000000) (hn5 : n ≤ 50) (h0 : 0 ≤ c) (h1 : c ≤ e) (h2 : e ≤ 1000) (h3 : 1 ≤ e)
    (hB : Tb.Bw l width l.length best at_) (lr : LQ (lq1 (bst n (min best (n + 1)) (max l.length 1) c e)) ra rb) :
    Calls Tryz.prog 24 #[.slice A l.length cap, .int .i64 width, .int .i64 n, .agg #[.int .i64 c, .int .i64 e]] w fun e' w' => e' = .returned (.tuple #[.int .i64 best, .agg #[.string ⟨ra.toArray⟩, .string ⟨rb.toArray⟩], .int .i64 0]) ∧ Below w.heap.size w w' := by
  have hb0 := bNew (bNewW w (.cells #[.int .i64 c, .int .i64 e] 23)) (.cells #[.string ⟨#[]⟩, .string ⟨#[]⟩] 33)
  have B0 := (Bx.mk w 23 #[.int .i64 c, .int .i64 e]).new (.cells #[.string ⟨#[]⟩, .string ⟨#[]⟩] 33)
  have B1 := Bx.mk (w.alloc (.cells #[.int .i64 c, .int .i64 e] 23)) 33 #[.string ⟨#[]⟩, .string ⟨#[]⟩]
  rw [alloc_size] at B1
  have hS := rScan_good l A cap width best at_ _ ((hA.below hb0).more hb0.size) hn ht hw1 hw2 hB
  have hl60 := ht.1
  obtain ⟨m, hm⟩ : ∃ m, min best (n + 1) = m := ⟨_, rfl⟩
  obtain ⟨mx, hmx⟩ : ∃ m, max l.length 1 = m := ⟨_, rfl⟩
  have hmi : min (best : Int) ((n : Int) + 1) = (m : Int) := by omega
  have hmxi : max (l.length : Int) 1 = (mx : Int) := by omega
  rw [hm, hmx] at lr
  have hmle : m ≤ n + 1 := by omega
  have hmx60 : mx ≤ 60 := by omega
  obtain ⟨ga, gb, lg⟩ := LQ.ex (Tb.Pq n 0 c (e - c))
  obtain ⟨pa, pb, lp⟩ := LQ.ex (Tb.Pq n m c (e - c))
  obtain ⟨wa, wb, lw⟩ := LQ.ex (Wq mx)
  obtain ⟨ma, mb, lm⟩ := LQ.ex (bst n m mx c e)
  obtain ⟨hfit, hqm⟩ := bst_fq (m := m) hn5 h0 h1 h2 h3 hmx60
  have hIm : I64 (mx : Int) := ⟨by omega, by omega⟩
  have kG := fun w0 => rBinomial_good n 0 c e ga gb w0 hn5 (Nat.zero_le _) h0 h1 h2 h3 lg
  have kP := fun w0 => rBinomial_good n m c e pa pb w0 hn5 hmle h0 h1 h2 h3 lp
  have kO := fun w0 => fOf_ok (mx : Int) 1 w0 hIm ⟨by decide, by decide⟩ (by decide)
  rw [show QV (Rat.divInt (mx : Int) 1) = _ from lw.eq] at kO
  have kM := fun w0 => fMul_k w0 lp lw lm (Pq_fq hn5 h0 h1 h2 h3) (Wq_fq hIm) hfit ⟨rfl⟩
  have kL := fun w0 => rleast_s w0 hqm lm lr
  clear hm hmx lg lp lw lm lr hfit hqm hB ht hA
  go_enter Tryz.func24, Tryz.ntmps24
  go_wp2_with fail
  refine hS.mono ?_
  rintro _ w1 ⟨rfl, hb1⟩
  replace hb0 := bCall hb0 hb1
  replace B0 := B0.call hb1
  replace B1 := B1.call hb1
  clear hS hb1
  have c0 := B0.cell 0 rfl
  have c1 := B0.cell 1 rfl
  go_wp2_with fail
  refine (kG _).mono ?_
  rintro _ w2 ⟨rfl, hb1⟩
  replace hb0 := bCall hb0 hb1
  replace B0 := B0.call hb1
  replace B1 := B1.call hb1
  clear kG hb1 c0 c1
  go_upto_region 3 with fail
  replace B0 := B0.new (.cells #[.string ⟨ga.toArray⟩, .string ⟨gb.toArray⟩] 33)
  replace B1 := B1.new (.cells #[.string ⟨ga.toArray⟩, .string ⟨gb.toArray⟩] 33)
  replace hb0 := bNew hb0 (.cells #[.string ⟨ga.toArray⟩, .string ⟨gb.toArray⟩] 33)
  generalize w2.alloc (.cells #[.string ⟨ga.toArray⟩, .string ⟨gb.toArray⟩] 33) = w3 at *
  generalize w2.heap.size = gg at *
  have c0 := B0.cell 0 rfl
  have c1 := B0.cell 1 rfl
  go_wp2_with fail
  refine (kP _).mono ?_
  rintro _ w4 ⟨rfl, hb1⟩
  replace hb0 := bCall hb0 hb1
  replace B0 := B0.call hb1
  replace B1 := B1.call hb1
  clear kP hb1 c0 c1 B0
  go_upto_region 6 with fail
  have BP := Bx.mk w4 33 #[.string ⟨pa.toArray⟩, .string ⟨pb.toArray⟩]
  replace B1 := B1.new (.cells #[.string ⟨pa.toArray⟩, .string ⟨pb.toArray⟩] 33)
  replace hb0 := bNew hb0 (.cells #[.string ⟨pa.toArray⟩, .string ⟨pb.toArray⟩] 33)
  generalize w4.alloc (.cells #[.string ⟨pa.toArray⟩, .string ⟨pb.toArray⟩] 33) = w5 at *
  generalize w4.heap.size = gp at *
  go_wp2_with fail
  refine (kO _).mono ?_
  rintro _ w6 ⟨rfl, hb1⟩
  replace hb0 := bCall hb0 hb1
  replace BP := BP.call hb1
  replace B1 := B1.call hb1
  clear kO hb1
  go_upto_region 7 with fail
  have BW := Bx.mk w6 33 #[.string ⟨wa.toArray⟩, .string ⟨wb.toArray⟩]
  replace B1 := B1.new (.cells #[.string ⟨wa.toArray⟩, .string ⟨wb.toArray⟩] 33)
  replace BP := BP.new (.cells #[.string ⟨wa.toArray⟩, .string ⟨wb.toArray⟩] 33)
  replace hb0 := bNew hb0 (.cells #[.string ⟨wa.toArray⟩, .string ⟨wb.toArray⟩] 33)
  generalize w6.alloc (.cells #[.string ⟨wa.toArray⟩, .string ⟨wb.toArray⟩] 33) = w7 at *
  generalize w6.heap.size = gw at *
  have p0 := BP.cell 0 rfl
  have p1 := BP.cell 1 rfl
  have q0 := BW.cell 0 rfl
  have q1 := BW.cell 1 rfl
  go_wp2_with fail
  refine (kM _).mono ?_
  rintro _ w8 ⟨rfl, hb1⟩
  replace hb0 := bCall hb0 hb1
  replace B1 := B1.call hb1
  clear kM hb1 p0 p1 q0 q1 BP BW
  go_upto_region 8 with fail
  have BM := Bx.mk w8 33 #[.string ⟨ma.toArray⟩, .string ⟨mb.toArray⟩]
  replace B1 := B1.new (.cells #[.string ⟨ma.toArray⟩, .string ⟨mb.toArray⟩] 33)
  replace hb0 := bNew hb0 (.cells #[.string ⟨ma.toArray⟩, .string ⟨mb.toArray⟩] 33)
  generalize w8.alloc (.cells #[.string ⟨ma.toArray⟩, .string ⟨mb.toArray⟩] 33) = w9 at *
  generalize w8.heap.size = gm at *
  have p0 := BM.cell 0 rfl
  have p1 := BM.cell 1 rfl
  go_wp2_with fail
  refine (kL _).mono ?_
  rintro _ v1 ⟨rfl, hb1⟩
  replace hb0 := bCall hb0 hb1
  replace B1 := B1.call hb1
  clear kL hb1 p0 p1 BM
  have d0 := B1.cell 0 rfl
  have d1 := B1.cell 1 rfl
  have f0 := B1.frozen 0
  have f1 := B1.frozen 1
  have B4 := (B1.set 0 (.string ⟨ra.toArray⟩)).set 1 (.string ⟨rb.toArray⟩)
  have hb4 := bSet (bSet hb0 (p := ⟨w.heap.size + 1, 0, none⟩) (Nat.le_succ _) (.string ⟨ra.toArray⟩)) (p := ⟨w.heap.size + 1, 1, none⟩) (Nat.le_succ _) (.string ⟨rb.toArray⟩)
  go_wp2
  exact bodyPost_ret (results_B rfl _ _ rfl rfl rfl B4) rfl ⟨rfl, hb4⟩
end Go.Proofs.YtklelhkcbdajpaaGreatDoor
namespace Go.Proofs.YtklelhkcbdajpaaGreatDoor
open Go.RowKit Go.Shelf
theorem binTot (n k c e : Int) : ∃ (ra rb : List UInt8) (code : Int), (∀ w, Env w → Calls Tryz.prog 14 #[.int .i64 n, .int .i64 k, .agg #[.int .i64 c, .int .i64 e]] w fun e' w' => e' = .returned (.tuple #[.agg #[.string ⟨ra.toArray⟩, .string ⟨rb.toArray⟩], .int .i64 code]) ∧ Below w.heap.size w w') ∧
    (∀ w, Env w → Calls Tryz.prog 15 #[.int .i64 n, .int .i64 k, .agg #[.int .i64 c, .int .i64 e]] w fun e' w' => e' = .returned (.tuple #[.agg #[.string ⟨ra.toArray⟩, .string ⟨rb.toArray⟩], .int .i64 code]) ∧ Below w.heap.size w w') := by
  by_cases h : chB c e = true ∧ 0 ≤ n ∧ n ≤ 50 ∧ 0 ≤ k ∧ k ≤ n + 1
  · obtain ⟨h1, h2, h3, h4, h5⟩ := h
    obtain ⟨a1, a2, a3, a4⟩ := chB_iff.1 h1
    obtain ⟨m, rfl⟩ := Int.eq_ofNat_of_zero_le h2
    obtain ⟨j, rfl⟩ := Int.eq_ofNat_of_zero_le h4
    obtain ⟨qa, qb, lq⟩ := LQ.ex (Tb.Pq m j c (e - c))
    exact ⟨qa, qb, 0, fun w hE => Binomial_good m j c e qa qb w (by omega) (by omega) a3 a4 a2 a1 lq hE, fun w _ => rBinomial_good m j c e qa qb w (by omega) (by omega) a3 a4 a2 a1 lq⟩
  · exact ⟨[], [], 350, fun w hE => Binomial_not n k c e w hE h, fun w _ => rBinomial_not n k c e w h⟩
theorem hypTot (t m d k : Int) : ∃ (ra rb : List UInt8) (code : Int), (∀ w, Env w → Calls Tryz.prog 16 #[.int .i64 t, .int .i64 m, .int .i64 d, .int .i64 k] w fun e' w' => e' = .returned (.tuple #[.agg #[.string ⟨ra.toArray⟩, .string ⟨rb.toArray⟩], .int .i64 code]) ∧ Below w.heap.size w w') ∧
    (∀ w, Env w → Calls Tryz.prog 17 #[.int .i64 t, .int .i64 m, .int .i64 d, .int .i64 k] w fun e' w' => e' = .returned (.tuple #[.agg #[.string ⟨ra.toArray⟩, .string ⟨rb.toArray⟩], .int .i64 code]) ∧ Below w.heap.size w w') := by
  by_cases h : 0 ≤ t ∧ t ≤ 100 ∧ 0 ≤ m ∧ m ≤ t ∧ 0 ≤ d ∧ d ≤ t ∧ 0 ≤ k ∧ k ≤ d + 1
  · obtain ⟨h1, h2, h3, h4, h5, h6, h7, h8⟩ := h
    obtain ⟨t, rfl⟩ := Int.eq_ofNat_of_zero_le h1
    obtain ⟨m, rfl⟩ := Int.eq_ofNat_of_zero_le h3
    obtain ⟨d, rfl⟩ := Int.eq_ofNat_of_zero_le h5
    obtain ⟨k, rfl⟩ := Int.eq_ofNat_of_zero_le h7
    obtain ⟨qa, qb, lq⟩ := LQ.ex (Tb.Hq t m d k)
    exact ⟨qa, qb, 0, fun w hE => Hyper_good t m d k qa qb w (by omega) (by omega) (by omega) (by omega) lq hE, fun w _ => rHyper_good t m d k qa qb w (by omega) (by omega) (by omega) (by omega) lq⟩
  · exact ⟨[], [], 350, fun w hE => Hyper_not t m d k w h, fun w _ => rHyper_not t m d k w h⟩
theorem leastTot (n c e : Int) (la lb : List UInt8) (hla : la.length ≤ 9223372036854775807) (hlb : lb.length ≤ 9223372036854775807) : ∃ (k : Int) (code : Int), (∀ w, Env w → Calls Tryz.prog 18 #[.int .i64 n, .agg #[.int .i64 c, .int .i64 e], .agg #[.string ⟨la.toArray⟩, .string ⟨lb.toArray⟩]] w fun e' w' => e' = .returned (.tuple #[.int .i64 k, .int .i64 code]) ∧ Below w.heap.size w w') ∧
    (∀ w, Env w → Calls Tryz.prog 19 #[.int .i64 n, .agg #[.int .i64 c, .int .i64 e], .agg #[.string ⟨la.toArray⟩, .string ⟨lb.toArray⟩]] w fun e' w' => e' = .returned (.tuple #[.int .i64 k, .int .i64 code]) ∧ Below w.heap.size w w') := by
  by_cases h : chB c e = true ∧ 0 ≤ n ∧ n ≤ 50
  · obtain ⟨h1, h2, h3⟩ := h
    obtain ⟨a1, a2, a3, a4⟩ := chB_iff.1 h1
    obtain ⟨m, rfl⟩ := Int.eq_ofNat_of_zero_le h2
    cases hk : Rq.okB la lb with
    | false => exact ⟨0, 350, fun w hE => Least_no2 m c e la lb w (by omega) a3 a4 a2 a1 hla hlb hk hE, fun w _ => rLeast_no2 m c e la lb w (by omega) a3 a4 a2 a1 hla hlb hk⟩
    | true =>
      obtain ⟨q, hq, hpq⟩ := okB_q' (p := (la, lb)) hk
      have lq : LQ q la lb := ⟨(congrArg Prod.fst hpq).symm, (congrArg Prod.snd hpq).symm⟩
      by_cases hq0 : q < 0
      · exact ⟨0, 350, fun w hE => Least_no3 m c e la lb w (by omega) a3 a4 a2 a1 lq hq hq0 hE, fun w _ => rLeast_no3 m c e la lb w (by omega) a3 a4 a2 a1 lq hq hq0⟩
      · have hq0' := Rat.not_lt.1 hq0
        obtain ⟨k, hL⟩ := Tb.Le.ex (n := m) (c := c) (d := e - c) hq0'
        exact ⟨k, 0, fun w hE => Least_k w (by omega) a3 a4 a2 a1 lq hq hq0' hL hE, fun w _ => rLeast_good m c e la lb k w (by omega) a3 a4 a2 a1 lq hq hq0' hL⟩
  · exact ⟨0, 350, fun w hE => Least_no1 n c e la lb w h, fun w _ => rLeast_no1 n c e la lb w h⟩
theorem scanTot (l : List Int) (width : Int) (hl : l.length ≤ 9223372036854775807) : ∃ (b a code : Int), (∀ (A : Option Addr) (cap : Nat) w, At 1 intC w w.heap.size A l → l.length ≤ cap → Calls Tryz.prog 21 #[.slice A l.length cap, .int .i64 width] w fun e' w' => e' = .returned (.tuple #[.int .i64 b, .int .i64 a, .int .i64 code]) ∧ Below w.heap.size w w') ∧
    (∀ (A : Option Addr) (cap : Nat) w, At 1 intC w w.heap.size A l → l.length ≤ cap → Calls Tryz.prog 22 #[.slice A l.length cap, .int .i64 width] w fun e' w' => e' = .returned (.tuple #[.int .i64 b, .int .i64 a, .int .i64 code]) ∧ Below w.heap.size w w') := by
  by_cases h : Tb.Tms l ∧ 1 ≤ width ∧ width ≤ 10000000
  · obtain ⟨b, a, hB⟩ := Tb.Bw.ex h.1.2.1 h.2.1
    exact ⟨b, a, 0, fun A cap w hA hn => Scan_k w hA hn h.1 h.2.1 h.2.2 hB, fun A cap w hA hn => rScan_good l A cap width b a w hA hn h.1 h.2.1 h.2.2 hB⟩
  · exact ⟨0, 0, 350, fun A cap w hA hn => Scan_not l A cap width w hA hn hl h, fun A cap w hA hn => rScan_not l A cap width w hA hn hl h⟩
theorem burstTot (l : List Int) (width n c e : Int) (hl : l.length ≤ 9223372036854775807) : ∃ (b : Int) (ra rb : List UInt8) (code : Int), (∀ (A : Option Addr) (cap : Nat) w, At 1 intC w w.heap.size A l → l.length ≤ cap → Env w → Calls Tryz.prog 23 #[.slice A l.length cap, .int .i64 width, .int .i64 n, .agg #[.int .i64 c, .int .i64 e]] w fun e' w' => e' = .returned (.tuple #[.int .i64 b, .agg #[.string ⟨ra.toArray⟩, .string ⟨rb.toArray⟩], .int .i64 code]) ∧ Below w.heap.size w w') ∧
    (∀ (A : Option Addr) (cap : Nat) w, At 1 intC w w.heap.size A l → l.length ≤ cap → Env w → Calls Tryz.prog 24 #[.slice A l.length cap, .int .i64 width, .int .i64 n, .agg #[.int .i64 c, .int .i64 e]] w fun e' w' => e' = .returned (.tuple #[.int .i64 b, .agg #[.string ⟨ra.toArray⟩, .string ⟨rb.toArray⟩], .int .i64 code]) ∧ Below w.heap.size w w') := by
  by_cases h : (Tb.Tms l ∧ 1 ≤ width ∧ width ≤ 10000000) ∧ chB c e = true ∧ 0 ≤ n ∧ n ≤ 50
  · obtain ⟨⟨h1, h2, h3⟩, h4, h5, h6⟩ := h
    obtain ⟨a1, a2, a3, a4⟩ := chB_iff.1 h4
    obtain ⟨m, rfl⟩ := Int.eq_ofNat_of_zero_le h5
    obtain ⟨b, a, hB⟩ := Tb.Bw.ex h1.2.1 h2
    have hb : 0 ≤ b := by
      rcases Nat.eq_zero_or_pos l.length with h0 | h0
      · rw [(hB.z h0).1]; exact Int.le_refl _
      · obtain ⟨j, hj, -, -, h9⟩ := hB.wh h0
        rw [← h9]; exact Int.natCast_nonneg _
    obtain ⟨b, rfl⟩ := Int.eq_ofNat_of_zero_le hb
    obtain ⟨ra, rb, lr⟩ := LQ.ex (lq1 (bst m (min b (m + 1)) (max l.length 1) c e))
    exact ⟨b, ra, rb, 0, fun A cap w hA hn hE => Burst_k w hA hn h1 h2 h3 (by omega) a3 a4 a2 a1 hB lr hE, fun A cap w hA hn _ => rBurst_good l A cap width m c e b a ra rb w hA hn h1 h2 h3 (by omega) a3 a4 a2 a1 hB lr⟩
  · exact ⟨0, [], [], 350, fun A cap w hA hn hE => Burst_not l A cap width n c e w hA hn hl h hE, fun A cap w hA hn _ => rBurst_not l A cap width n c e w hA hn hl h⟩
theorem uns_list : ∀ {l : List Pr}, (∀ p ∈ l, UnS p) → ∃ qs : List Rat, l = qs.map txQ ∧ ∀ q ∈ qs, Un q
  | [], _ => ⟨[], rfl, fun q h => by cases h⟩
  | p :: l, h => by
    obtain ⟨q, hq, e⟩ := h p (by simp)
    obtain ⟨qs, e2, h2⟩ := uns_list (l := l) (fun x hx => h x (by simp [hx]))
    refine ⟨q :: qs, by rw [List.map_cons, ← e, ← e2], fun x hx => ?_⟩
    rcases List.mem_cons.1 hx with rfl | hx
    · exact hq
    · exact h2 x hx
theorem combTot (l : List Pr) (hp : ∀ p ∈ l, p.1.length ≤ 9223372036854775807 ∧ p.2.length ≤ 9223372036854775807) : ∃ (ra rb : List UInt8) (code : Int), (∀ (A : Option Addr) (cap : Nat) w, At 2 ratC w w.heap.size A l → l.length ≤ cap → Env w → Calls Tryz.prog 25 #[.slice A l.length cap] w fun e' w' => e' = .returned (.tuple #[.agg #[.string ⟨ra.toArray⟩, .string ⟨rb.toArray⟩], .int .i64 code]) ∧ Below w.heap.size w w') ∧
    (∀ (A : Option Addr) (cap : Nat) w, At 2 ratC w w.heap.size A l → l.length ≤ cap → Env w → Calls Tryz.prog 26 #[.slice A l.length cap] w fun e' w' => e' = .returned (.tuple #[.agg #[.string ⟨ra.toArray⟩, .string ⟨rb.toArray⟩], .int .i64 code]) ∧ Below w.heap.size w w') := by
  by_cases h20 : 20 < l.length
  · exact ⟨[], [], 350, fun A cap w hA hn hE => Combine_len l A cap w h20, fun A cap w hA hn hE => rCombine_len l A cap w h20⟩
  · have hl : l.length ≤ 20 := by omega
    cases hbad : l.any (fun p => !unB p) with
    | true => exact ⟨[], [], 350, fun A cap w hA hn hE => Combine_bad l A cap w hA hn hl hp hbad hE, fun A cap w hA hn hE => rCombine_bad l A cap w hA hn hl hp hbad⟩
    | false =>
      have hall : ∀ p ∈ l, UnS p := fun p hp => by
        have := List.any_eq_false.1 hbad p hp
        by_cases hu : UnS p
        · exact hu
        · rw [unB_f hu] at this; exact absurd rfl this
      obtain ⟨qs, rfl, hq⟩ := uns_list hall
      rw [List.length_map] at hl ⊢
      cases hc : comb qs with
      | none => exact ⟨[], [], 350, fun A cap w hA hn hE => Combine_over qs A cap w hA hn hl hq ⟨hc⟩ hE, fun A cap w hA hn hE => rCombine_sum qs A cap [] [] 350 w hA hn hl hq ⟨.inr ⟨hc, rfl, rfl, rfl⟩⟩ hE⟩
      | some r =>
        obtain ⟨ra, rb, lr⟩ := LQ.ex (lq1 r)
        exact ⟨ra, rb, 0, fun A cap w hA hn hE => Combine_good qs A cap r ra rb w hA hn hl hq ⟨hc⟩ lr hE, fun A cap w hA hn hE => rCombine_sum qs A cap ra rb 0 w hA hn hl hq ⟨.inl ⟨r, hc, lr, rfl⟩⟩ hE⟩
end Go.Proofs.YtklelhkcbdajpaaGreatDoor
namespace Go.Proofs.YtklelhkcbdajpaaGreatDoor
open Go.RowKit Go.Shelf
theorem rRatios_row (x : List (Int × Int)) (A : Option Addr) (cap : Nat) (w : World) (hA : At 2 y2C w w.heap.size A x) (hn : x.length ≤ cap) (hlen : x.length ≤ maxLen) (hx : ∀ y ∈ x, I64 y.1 ∧ I64 y.2) :
    Calls Tryz.prog 12 #[.slice A x.length cap] w fun e w' => (∃ v, e = .returned v ∧ Kp (RowZ 33 2 w.heap.size (Tb.ratios x).length ((Tb.ratios x).flatMap ratV) v w')) ∧ Below w.heap.size w w' := by
  obtain ⟨i, z, hi, hzz, hs1, hz1, hby⟩ := ratI
  go_enter Tryz.func12, Tryz.ntmps12
  go_wp2
  go_loopw [3, 4] (fun s3 s4 wr => ∃ k : Nat, k ≤ x.length ∧ k ≤ 8 ∧ s4 = .int .i64 k ∧ RowZ 33 2 w.heap.size k ((Tb.rqs x k).flatMap ratV) s3 wr ∧ Below w.heap.size w wr) (fun _ s4 _ => 8 - (intOf s4).toNat)
  case atStart => exact ⟨0, Nat.zero_le _, Nat.zero_le _, rfl, .inl ⟨rfl, rfl, rfl⟩, bStart w⟩
  case round =>
    obtain ⟨k, hk, hk6, rfl, hrow, hb⟩ := hrel
    by_cases hlt : k < x.length
    · by_cases hl6 : k < 8
      · have t6 : decide ((k : Int) < 8) = true := by simp; omega
        obtain ⟨b9, off, rfl, hb9, hcell⟩ := hA (by omega)
        have hck := List.getElem?_eq_getElem hlt
        obtain ⟨hy1, hy2⟩ := hx _ (List.getElem_mem hlt)
        have g0 : wr.cell? ⟨b9, off + k * 2, none⟩ = some (.int .i64 x[k].1) := (hb.cell (p := ⟨b9, off + k * 2, none⟩) hb9).trans (hcell k _ hck 0 _ rfl)
        have g1 : wr.cell? ⟨b9, off + k * 2 + 1, none⟩ = some (.int .i64 x[k].2) := (hb.cell (p := ⟨b9, off + k * 2 + 1, none⟩) hb9).trans (hcell k _ hck 1 _ rfl)
        have hts := Kp.mk (Tb.rqs_succ hlt)
        have hrq : Kp (Rat.divInt (Tp.pick x[k].1 (1 + Tp.pick x[k].2 60 + 1)) (1 + Tp.pick x[k].2 60) = Tb.rq x[k]) := ⟨rfl⟩
        clear hcell hck hA
        generalize x[k] = y at *
        obtain ⟨ya, yb⟩ := y
        simp only at g0 g1 hy1 hy2 hrq
        have e1 := Tp.pick_lt yb (show (0 : Int) < 60 by decide)
        have p1 := fun w0 => rpick_any yb 60 (by decide) hy2 w0
        have p2 := fun w0 => rpick_any ya (1 + Tp.pick yb 60 + 1) (by omega) hy1 w0
        have e2 := Tp.pick_lt ya (show 0 < 1 + Tp.pick yb 60 + 1 by omega)
        generalize Tp.pick ya (1 + Tp.pick yb 60 + 1) = q2 at *
        generalize Tp.pick yb 60 = q1 at *
        generalize Tb.rq (ya, yb) = q at *
        obtain ⟨qa, qb, lq⟩ := LQ.ex q
        have hO := fun w0 => fOf_ok q2 (1 + q1) w0 ⟨by omega, by omega⟩ ⟨by omega, by omega⟩ (by omega)
        rw [hrq.out, lq.eq] at hO
        have hnx : Kp (Tb.rqs x (k + 1) = Tb.rqs x k ++ [q] ∧ ratV q = [.string ⟨qa.toArray⟩, .string ⟨qb.toArray⟩]) := ⟨hts.out, ratV_is lq⟩
        clear hts hrq lq hy1 hy2
        go_wp2_with fail
        refine (p1 _).mono ?_
        rintro _ _ ⟨rfl, rfl⟩
        go_wp2_with fail
        refine (p2 _).mono ?_
        rintro _ _ ⟨rfl, rfl⟩
        go_wp2_with fail
        refine (hO _).mono ?_
        rintro _ w1 ⟨rfl, hb1⟩
        clear hO p1 p2 g0 g1
        go_upto_region 7 with fail
        have B1 := Bx.mk w1 33 #[.string ⟨qa.toArray⟩, .string ⟨qb.toArray⟩]
        have hbn := bNew (bCall hb hb1) (.cells #[.string ⟨qa.toArray⟩, .string ⟨qb.toArray⟩] 33)
        have hrow1 := stab_rowZ _ _ _ _ _ _ _ _ (stab_rowZ _ _ _ _ _ _ _ _ hrow hb1) (bNewW w1 (.cells #[.string ⟨qa.toArray⟩, .string ⟨qb.toArray⟩] 33))
        have hlt1 := B1.lt
        generalize w1.alloc (.cells #[.string ⟨qa.toArray⟩, .string ⟨qb.toArray⟩] 33) = w2 at *
        generalize w1.heap.size = g1 at *
        have c0 := B1.cell 0 rfl
        have c1 := B1.cell 1 rfl
        have hsrc := RowC.src (P := Tryz.prog) (B := w2.heap.size) (cap := 1) (e := 33) (size := 2) (t := 26) (fun u hu => by simp at hu; rcases hu with rfl | rfl <;> rfl) Tryz.underlying26 (show RowC 33 2 w2.heap.size 1 1 [.string ⟨qa.toArray⟩, .string ⟨qb.toArray⟩] (.slice (some ⟨w2.heap.size, 0, none⟩) 1 1) (w2.alloc (.cells #[.string ⟨qa.toArray⟩, .string ⟨qb.toArray⟩] 33)) from ⟨w2.heap.size, _, rfl, Nat.le_refl _, Nat.le_refl _, Bx.mk _ _ _, rfl, rfl⟩)
        have hrow2 := stab_rowZ _ _ _ _ _ _ _ _ hrow1 (bNewW w2 (.cells #[.string ⟨qa.toArray⟩, .string ⟨qb.toArray⟩] 33))
        have hbm := bNew hbn (.cells #[.string ⟨qa.toArray⟩, .string ⟨qb.toArray⟩] 33)
        have hsz : w.heap.size ≤ (w2.alloc (.cells #[.string ⟨qa.toArray⟩, .string ⟨qb.toArray⟩] 33)).heap.size := hbm.size
        have fin : ∀ v' w', Below w.heap.size (w2.alloc (.cells #[.string ⟨qa.toArray⟩, .string ⟨qb.toArray⟩] 33)) w' → RowZ 33 2 w.heap.size (k + 1) ((Tb.rqs x k).flatMap ratV ++ [.string ⟨qa.toArray⟩, .string ⟨qb.toArray⟩]) v' w' → RowZ 33 2 w.heap.size (k + 1) ((Tb.rqs x (k + 1)).flatMap ratV) v' w' ∧ Below w.heap.size w w' := fun v' w' h1 h2 => by
          rw [hnx.out.1, List.flatMap_append, List.flatMap_singleton, hnx.out.2]
          exact ⟨h2, hbm.trans h1⟩
        go_wp2_with (at_builtin; refine wpList_append_rowZ rfl (.tmp 38) (.tmp 40) 26 33 rfl i z 2 w.heap.size k 1 ((Tb.rqs x k).flatMap ratV) [.string ⟨qa.toArray⟩, .string ⟨qb.toArray⟩] _ _ Tryz.underlying26 hi hzz hs1 hz1 rfl rfl hrow2 hsz hsrc (by omega) (by unfold maxLen; omega) (by rw [hby]; omega) ?_; intro v' w' e1 e2; obtain ⟨f1, f2⟩ := fin _ _ e1 e2)
        exact ⟨⟨k + 1, by omega, by omega, by go_num, f1, f2⟩, by simp [intOf]; omega⟩
      · have t6 : decide ((k : Int) < 8) = false := by simp; omega
        have hM : Kp (Tb.ratios x = Tb.rqs x k) := ⟨Tb.rqs_all (.inr ⟨by omega, hk⟩)⟩
        have hkl := Tb.rqs_len hk
        obtain ⟨C, cc, hs3, h1, h2, h3⟩ := RowZ.at (f := ratV) (p := Tb.rqs x k) ratV_len (by rw [hkl]; exact hrow)
        subst hs3
        rw [hkl] at hrow
        go_wp2
        go_ret
        exact ⟨⟨_, rfl, ⟨by rw [hM.out, hkl]; exact hrow⟩⟩, hb⟩
    · obtain rfl : k = x.length := by omega
      have hM : Kp (Tb.ratios x = Tb.rqs x x.length) := ⟨Tb.rqs_all (.inl ⟨rfl, hk6⟩)⟩
      have hkl := Tb.rqs_len hk
      obtain ⟨C, cc, hs3, h1, h2, h3⟩ := RowZ.at (f := ratV) (p := Tb.rqs x x.length) ratV_len (by rw [hkl]; exact hrow)
      subst hs3
      rw [hkl] at hrow
      go_wp2
      go_ret
      exact ⟨⟨_, rfl, ⟨by rw [hM.out, hkl]; exact hrow⟩⟩, hb⟩
theorem RowZ.at2 {α : Type} {size : Nat} {f : α → List Value} {w : World} {e : TypeId} {B n cap : Nat} {p : List α} {A : Option Addr} (hf : ∀ c, (f c).length = size) (h : RowZ e size B p.length (p.flatMap f) (.slice A n cap) w) : At size f w w.heap.size A p ∧ n = p.length ∧ p.length ≤ cap ∧ cap ≤ maxLen := by
  obtain ⟨A', cap', he, h1, h2, h3⟩ := RowZ.at hf h
  cases he
  exact ⟨h1, rfl, h2, h3⟩
theorem ratC_one (p : Pr) : ∀ u ∈ ratC p, u.oneCell' = true := fun u hu => by
  simp only [ratC, List.mem_cons, List.not_mem_nil, or_false] at hu
  rcases hu with rfl | rfl <;> rfl
theorem flat_ratV (l : List Rat) : l.flatMap ratV = (l.map txQ).flatMap ratC := by
  rw [List.flatMap_map]; rfl
theorem row_empty (w : World) : RowC 33 2 w.heap.size 0 0 [] (.slice (some ⟨w.heap.size, 0, none⟩) 0 0) (w.alloc (.cells #[] 33)) :=
  ⟨w.heap.size, #[], rfl, Nat.le_refl _, Nat.le_refl _, Bx.mk _ _ _, rfl, rfl⟩
def LenP (p : Pr) : Prop := p.1.length ≤ 9223372036854775807 ∧ p.2.length ≤ 9223372036854775807
theorem lenP_q {q : Rat} (h : Rq.Fq q) : LenP (txQ q) := ⟨Nat.le_trans (fits_small h.num) (by decide), Nat.le_trans (fits_small h.den) (by decide)⟩
end Go.Proofs.YtklelhkcbdajpaaGreatDoor

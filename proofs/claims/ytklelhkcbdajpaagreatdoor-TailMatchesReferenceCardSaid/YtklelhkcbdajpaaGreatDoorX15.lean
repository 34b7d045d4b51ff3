/- fold at fractions, Combine of package tail. The step of Combine's fold; the fold. Combine of package tail, at fractions from 0 to 1. Burst of package tail. What the laws of dialtonelaw35 share: pick, of, binomial, hyper, ones. The chapter's examples of package tail as plain facts. -/
import Derived.Test.YtklelhkcbdajpaaGreatDoorX14
import Derived.Test.YtklelhkcbdajpaaGreatDoorX09
set_option linter.unusedVariables false
set_option linter.unusedSimpArgs false
set_option maxRecDepth 100000
set_option maxHeartbeats 8000000
namespace Go.Proofs.YtklelhkcbdajpaaGreatDoor
open Go.RowKit Go.Shelf
abbrev Pr := List UInt8 × List UInt8
theorem idx_q (l : List Pr) (A : Option Addr) (cap : Nat) (w : World) (hA : At 2 ratC w w.heap.size A l) (hn : l.length ≤ cap) (hl : l.length ≤ 9223372036854775807)
    (hp : ∀ p ∈ l, ∀ W, Below w.heap.size w W → Calls Tryz.prog 63 #[.agg #[.string ⟨p.1.toArray⟩, .string ⟨p.2.toArray⟩]] W fun e w' => e = .returned (.bool (!unB p)) ∧ Below W.heap.size W w') :
    Calls Tryz.prog 99 #[.slice A l.length cap, .func (.func 63) #[] #[]] w fun e w' => e = .returned (.int .i64 (idxI (fun p => !unB p) l)) ∧ Below w.heap.size w w' := by
  obtain ⟨f, hf⟩ : ∃ f : Pr → Bool, f = fun p => !unB p := ⟨_, rfl⟩
  have hp' : ∀ p ∈ l, ∀ W, Below w.heap.size w W → Calls Tryz.prog 63 #[.agg #[.string ⟨p.1.toArray⟩, .string ⟨p.2.toArray⟩]] W fun e w' => e = .returned (.bool (f p)) ∧ Below W.heap.size W w' := by rw [hf]; exact hp
  rw [← hf]
  clear hp hf
  go_enter Tryz.func99, Tryz.ntmps99
  go_wp2
  go_loopw [8] (fun s8 wr => ∃ k : Nat, k ≤ l.length ∧ s8 = .int .i64 k ∧ Kp (∀ (j : Nat) (hj : j < l.length), j < k → f l[j] = false) ∧ Below w.heap.size w wr) (fun s8 _ => l.length - (intOf s8).toNat)
  case atStart => exact ⟨0, Nat.zero_le _, rfl, ⟨fun j hj h => by omega⟩, bStart _⟩
  case round =>
    obtain ⟨k, hk, rfl, hno, hb⟩ := hrel
    by_cases hlt : k < l.length
    · obtain ⟨b, off, rfl, hbB, hcell⟩ := hA (by omega)
      have hck : l[k]? = some l[k] := List.getElem?_eq_getElem hlt
      have hP := hp' l[k] (List.getElem_mem hlt) wr hb
      have hh := fun (h : f l[k] = true) => idx_hit hlt h (fun j hj => hno.out j (by omega) hj)
      have hnx : Kp (f l[k] = false → ∀ (j : Nat) (hj : j < l.length), j < k + 1 → f l[j] = false) := ⟨fun h j hj hjk => by
        rcases Nat.lt_or_ge j k with h1 | h1
        · exact hno.out j hj h1
        · obtain rfl : j = k := by omega
          exact h⟩
      have c0 : wr.cell? ⟨b, off + k * 2, none⟩ = some (.string ⟨l[k].1.toArray⟩) := (hb.cell (p := ⟨b, _, none⟩) hbB).trans (hcell k _ hck 0 _ rfl)
      have c1 : wr.cell? ⟨b, off + k * 2 + 1, none⟩ = some (.string ⟨l[k].2.toArray⟩) := (hb.cell (p := ⟨b, _, none⟩) hbB).trans (hcell k _ hck 1 _ rfl)
      have hfin : Kp (f l[k] = true → idxI f l = k) := ⟨hh⟩
      generalize f l[k] = t at *
      generalize l[k].1 = x0 at *
      generalize l[k].2 = x1 at *
      clear hcell hA hck hno hh hp'
      cases t
      · go_wp2_with (refine hP.mono ?_; rintro _ w1 ⟨rfl, hb1⟩; clear hP)
        exact ⟨⟨k + 1, by omega, by go_num, ⟨by first | exact hnx.out rfl | exact hnx.out trivial⟩, bCall hb hb1⟩, by simp [intOf]; omega⟩
      · go_wp2_with (refine hP.mono ?_; rintro _ w1 ⟨rfl, hb1⟩; clear hP)
        go_ret
        exact ⟨ret_int (by first | exact (hfin.out rfl).symm | exact (hfin.out trivial).symm), bCall hb hb1⟩
    · have hfin : Kp (idxI f l = -1) := ⟨idx_none fun j hj => hno.out j hj (by omega)⟩
      clear hno hp'
      go_wp2
      go_ret
      exact ⟨ret_int hfin.out.symm, hb⟩
theorem con_q (l : List Pr) (A : Option Addr) (cap : Nat) (w : World) (hA : At 2 ratC w w.heap.size A l) (hn : l.length ≤ cap) (hl : l.length ≤ 9223372036854775807)
    (hp : ∀ p ∈ l, ∀ W, Below w.heap.size w W → Calls Tryz.prog 63 #[.agg #[.string ⟨p.1.toArray⟩, .string ⟨p.2.toArray⟩]] W fun e w' => e = .returned (.bool (!unB p)) ∧ Below W.heap.size W w') :
    Calls Tryz.prog 64 #[.slice A l.length cap, .func (.func 63) #[] #[]] w fun e w' => e = .returned (.bool (l.any (fun p => !unB p))) ∧ Below w.heap.size w w' := by
  have hI := idx_q l A cap w hA hn hl hp
  have hd := idx_any (fun p : Pr => !unB p) l
  generalize idxI (fun p : Pr => !unB p) l = i at *
  generalize l.any (fun p => !unB p) = r at *
  clear hA hp
  by_cases h : 0 ≤ i
  all_goals
    have t0 : decide (0 ≤ i) = r := hd
    first | rw [decide_eq_true h] at t0 | rw [decide_eq_false h] at t0
    subst t0
    clear hd
    go_enter Tryz.func64, Tryz.ntmps64
    go_wp2_with (go_at_call 99; refine hI.mono ?_; rintro _ w1 ⟨rfl, hb1⟩; clear hI)
    go_ret
    exact ⟨ret_bool (by simp <;> omega), hb1⟩
structure Ot (g : Nat) (W W' : World) : Prop where
  os : W'.os = W.os
  tape : W'.tape = W.tape
  output : W'.output = W.output
  size : W.heap.size ≤ W'.heap.size
  block : ∀ k, k < W.heap.size → k ≠ g → W'.heap[k]? = W.heap[k]?
theorem Ot.below {g : Nat} {W W' : World} (h : Below W.heap.size W W') : Ot g W W' := ⟨h.os, h.tape, h.output, h.size, fun k hk _ => h.block k hk⟩
theorem Ot.trans {g : Nat} {A B C : World} (h : Ot g A B) (k : Ot g B C) : Ot g A C := ⟨k.os.trans h.os, k.tape.trans h.tape, k.output.trans h.output, Nat.le_trans h.size k.size, fun i hi hne => (k.block i (Nat.lt_of_lt_of_le hi h.size) hne).trans (h.block i hi hne)⟩
theorem Ot.to {g B : Nat} {W W' : World} (h : Ot g W W') (hB : B ≤ g) (hW : B ≤ W.heap.size) : Below B W W' := ⟨h.os, h.tape, h.output, h.size, fun k hk => h.block k (by omega) (by omega)⟩
theorem Ot.bx {g b : Nat} {t : TypeId} {cs : Array Value} {W W' : World} (h : Ot g W W') (hB : Bx W b t cs) (hne : b ≠ g) : Bx W' b t cs := (h.block b hB.lt hne).trans hB
theorem Ot.set {g : Nat} {W : World} (u : Value) (i : Nat) (o : Nat) (h : o = g ∨ W.heap.size ≤ o) : Ot g W (W.setCell ⟨o, i, none⟩ u) :=
  ⟨((Below.refl 0 W).setCell (p := ⟨o, i, none⟩) (Nat.zero_le _) u).os, ((Below.refl 0 W).setCell (p := ⟨o, i, none⟩) (Nat.zero_le _) u).tape, ((Below.refl 0 W).setCell (p := ⟨o, i, none⟩) (Nat.zero_le _) u).output, ((Below.refl 0 W).setCell (p := ⟨o, i, none⟩) (Nat.zero_le _) u).size, fun k hk hne => Below.heap_setCell W ⟨o, i, none⟩ u k (by show k ≠ o; omega)⟩
theorem Ot.setUp {g : Nat} {W W' : World} (h : Ot g W W') (u : Value) (i : Nat) (o : Nat) (ho : o = g ∨ W.heap.size ≤ o) : Ot g W (W'.setCell ⟨o, i, none⟩ u) :=
  have hb := (Below.refl 0 W').setCell (p := ⟨o, i, none⟩) (Nat.zero_le _) u
  ⟨hb.os.trans h.os, hb.tape.trans h.tape, hb.output.trans h.output, Nat.le_trans h.size hb.size, fun k hk hne => (Below.heap_setCell W' ⟨o, i, none⟩ u k (by show k ≠ o; omega)).trans (h.block k hk hne)⟩
end Go.Proofs.YtklelhkcbdajpaaGreatDoor
namespace Go.Proofs.YtklelhkcbdajpaaGreatDoor
open Go.RowKit Go.Shelf
theorem step_any (o o2 : Option Rat) (q : Rat) (ge : Nat) (sa sb qa qb ra rb : List UInt8) (c c2 : Int) (w : World) (ho : FqO o) (hq : Rq.Fq q) (h2 : Kp (addO o (some q) = o2)) (es : Kp (sn o = sa ∧ sd o = sb ∧ eO o = c)) (lq : LQ q qa qb) (er : Kp (sn o2 = ra ∧ sd o2 = rb ∧ eO o2 = c2)) (hB : Bx w ge 34 #[.int .i64 c]) (hE : Env w) :
    Calls Tryz.prog 66 #[.agg #[.string ⟨sa.toArray⟩, .string ⟨sb.toArray⟩], .agg #[.string ⟨qa.toArray⟩, .string ⟨qb.toArray⟩], .pointer (some ⟨ge, 0, none⟩)] w fun e w' => e = .returned (.agg #[.string ⟨ra.toArray⟩, .string ⟨rb.toArray⟩]) ∧ Bx w' ge 34 #[.int .i64 c2] ∧ Ot ge w w' := by
  have hgl := hB.lt
  have B0 := ((Bx.mk w 33 #[.string ⟨sa.toArray⟩, .string ⟨sb.toArray⟩]).new (.cells #[.string ⟨qa.toArray⟩, .string ⟨qb.toArray⟩] 33)).new (.cells #[.string ⟨#[]⟩, .string ⟨#[]⟩] 33)
  have B1 := (Bx.mk (w.alloc (.cells #[.string ⟨sa.toArray⟩, .string ⟨sb.toArray⟩] 33)) 33 #[.string ⟨qa.toArray⟩, .string ⟨qb.toArray⟩]).new (.cells #[.string ⟨#[]⟩, .string ⟨#[]⟩] 33)
  rw [alloc_size] at B1
  have B2 := Bx.mk ((w.alloc (.cells #[.string ⟨sa.toArray⟩, .string ⟨sb.toArray⟩] 33)).alloc (.cells #[.string ⟨qa.toArray⟩, .string ⟨qb.toArray⟩] 33)) 33 #[.string ⟨#[]⟩, .string ⟨#[]⟩]
  rw [alloc_size, alloc_size] at B2
  have hb := bNew (bNew (bNewW w (.cells #[.string ⟨sa.toArray⟩, .string ⟨sb.toArray⟩] 33)) (.cells #[.string ⟨qa.toArray⟩, .string ⟨qb.toArray⟩] 33)) (.cells #[.string ⟨#[]⟩, .string ⟨#[]⟩] 33)
  have BE := hB.call hb
  have c0 := BE.cell 0 rfl
  have a0 := B0.cell 0 rfl
  have a1 := B0.cell 1 rfl
  have b0 := B1.cell 0 rfl
  have b1 := B1.cell 1 rfl
  generalize hW : ((w.alloc (.cells #[.string ⟨sa.toArray⟩, .string ⟨sb.toArray⟩] 33)).alloc (.cells #[.string ⟨qa.toArray⟩, .string ⟨qb.toArray⟩] 33)).alloc (.cells #[.string ⟨#[]⟩, .string ⟨#[]⟩] 33) = W0 at *
  have hE0 := hE.below hb
  rcases o with _ | x
  · have e2 : o2 = none := h2.out.symm
    subst e2
    have e3 : sa = ra := es.out.1.symm.trans er.out.1
    have e4 : sb = rb := es.out.2.1.symm.trans er.out.2.1
    have e5 : c = 40 := es.out.2.2.symm
    have e6 : c2 = 40 := er.out.2.2.symm
    subst e3 e4 e5 e6
    have f0 := B2.frozen 0
    have f1 := B2.frozen 1
    have d0 := B2.cell 0 rfl
    have d1 := B2.cell 1 rfl
    have B4 := (B2.set 0 (.string ⟨sa.toArray⟩)).set 1 (.string ⟨sb.toArray⟩)
    have O4 := (Ot.below (g := ge) hb).setUp (.string ⟨sa.toArray⟩) 0 (w.heap.size + 1 + 1) (.inr (by omega))
    replace O4 := O4.setUp (.string ⟨sb.toArray⟩) 1 (w.heap.size + 1 + 1) (.inr (by omega))
    have E4 := (BE.far (p := ⟨w.heap.size + 1 + 1, 0, none⟩) (by show ge ≠ w.heap.size + 1 + 1; omega) (.string ⟨sa.toArray⟩)).far (p := ⟨w.heap.size + 1 + 1, 1, none⟩) (by show ge ≠ w.heap.size + 1 + 1; omega) (.string ⟨sb.toArray⟩)
    clear es er h2 ho hE hE0 hq lq
    go_enter Tryz.func66, Tryz.ntmps66
    go_wp2
    exact bodyPost_ret (results_Q1 rfl _ _ rfl B4) rfl ⟨rfl, E4, O4⟩
  · obtain ⟨hF2, hAdd⟩ := addO_any (some x) (some q) ho (fun r hr => by cases hr; exact hq)
    have hA := hAdd W0 hE0
    rw [h2.out] at hA
    have v1 : VO (some x) = .agg #[.string ⟨sa.toArray⟩, .string ⟨sb.toArray⟩] := by unfold VO; rw [es.out.1, es.out.2.1]
    have v2 : VO (some q) = .agg #[.string ⟨qa.toArray⟩, .string ⟨qb.toArray⟩] := by rw [← lq.eq]; rfl
    have v3 : VO o2 = .agg #[.string ⟨ra.toArray⟩, .string ⟨rb.toArray⟩] := by unfold VO; rw [er.out.1, er.out.2.1]
    rw [v1, v2, v3, er.out.2.2] at hA
    have e5 : c = 0 := es.out.2.2.symm
    subst e5
    clear es er h2 ho hE hE0 hq lq v1 v2 v3 hAdd hF2
    go_enter Tryz.func66, Tryz.ntmps66
    go_wp2_with fail
    refine hA.mono ?_
    rintro _ w1 ⟨rfl, hb1⟩
    clear hA a0 a1 b0 b1 c0
    replace B0 := B0.call hb1
    replace B2 := B2.call hb1
    replace BE := BE.call hb1
    replace hb := bCall hb hb1
    have f0 := B0.frozen 0
    have f1 := B0.frozen 1
    have a0 := B0.cell 0 rfl
    have a1 := B0.cell 1 rfl
    have c0 := BE.cell 0 rfl
    have fe := BE.frozen 0
    have P0 : Bx ((w1.setCell ⟨w.heap.size, 0, none⟩ (.string ⟨ra.toArray⟩)).setCell ⟨w.heap.size, 1, none⟩ (.string ⟨rb.toArray⟩)) w.heap.size 33 #[.string ⟨ra.toArray⟩, .string ⟨rb.toArray⟩] := by simpa using (B0.set 0 (.string ⟨ra.toArray⟩)).set 1 (.string ⟨rb.toArray⟩)
    have BE1 : Bx ((w1.setCell ⟨w.heap.size, 0, none⟩ (.string ⟨ra.toArray⟩)).setCell ⟨w.heap.size, 1, none⟩ (.string ⟨rb.toArray⟩)) ge 34 #[.int .i64 0] := (BE.far (p := ⟨w.heap.size, 0, none⟩) (by show ge ≠ w.heap.size; omega) (.string ⟨ra.toArray⟩)).far (p := ⟨w.heap.size, 1, none⟩) (by show ge ≠ w.heap.size; omega) (.string ⟨rb.toArray⟩)
    have B21 : Bx ((w1.setCell ⟨w.heap.size, 0, none⟩ (.string ⟨ra.toArray⟩)).setCell ⟨w.heap.size, 1, none⟩ (.string ⟨rb.toArray⟩)) (w.heap.size + 1 + 1) 33 #[.string ⟨#[]⟩, .string ⟨#[]⟩] := (B2.far (p := ⟨w.heap.size, 0, none⟩) (by show _ ≠ w.heap.size; omega) (.string ⟨ra.toArray⟩)).far (p := ⟨w.heap.size, 1, none⟩) (by show _ ≠ w.heap.size; omega) (.string ⟨rb.toArray⟩)
    have P02 : Bx (((w1.setCell ⟨w.heap.size, 0, none⟩ (.string ⟨ra.toArray⟩)).setCell ⟨w.heap.size, 1, none⟩ (.string ⟨rb.toArray⟩)).setCell ⟨ge, 0, none⟩ (.int .i64 c2)) w.heap.size 33 #[.string ⟨ra.toArray⟩, .string ⟨rb.toArray⟩] := P0.far (p := ⟨ge, 0, none⟩) (by show _ ≠ ge; omega) (.int .i64 c2)
    have BE2 : Bx (((w1.setCell ⟨w.heap.size, 0, none⟩ (.string ⟨ra.toArray⟩)).setCell ⟨w.heap.size, 1, none⟩ (.string ⟨rb.toArray⟩)).setCell ⟨ge, 0, none⟩ (.int .i64 c2)) ge 34 #[.int .i64 c2] := by simpa using BE1.set 0 (.int .i64 c2)
    have B22 : Bx (((w1.setCell ⟨w.heap.size, 0, none⟩ (.string ⟨ra.toArray⟩)).setCell ⟨w.heap.size, 1, none⟩ (.string ⟨rb.toArray⟩)).setCell ⟨ge, 0, none⟩ (.int .i64 c2)) (w.heap.size + 1 + 1) 33 #[.string ⟨#[]⟩, .string ⟨#[]⟩] := B21.far (p := ⟨ge, 0, none⟩) (by show _ ≠ ge; omega) (.int .i64 c2)
    have fe2 := BE1.frozen 0
    have ce2 := BE1.cell 0 rfl
    have p0 := P02.cell 0 rfl
    have p1 := P02.cell 1 rfl
    have r0 := B22.cell 0 rfl
    have r1 := B22.cell 1 rfl
    have rf0 := B22.frozen 0
    have rf1 := B22.frozen 1
    have B4 := (B22.set 0 (.string ⟨ra.toArray⟩)).set 1 (.string ⟨rb.toArray⟩)
    have E4 := (BE2.far (p := ⟨w.heap.size + 1 + 1, 0, none⟩) (by show ge ≠ w.heap.size + 1 + 1; omega) (.string ⟨ra.toArray⟩)).far (p := ⟨w.heap.size + 1 + 1, 1, none⟩) (by show ge ≠ w.heap.size + 1 + 1; omega) (.string ⟨rb.toArray⟩)
    have O4 := (((((Ot.below (g := ge) hb).setUp (.string ⟨ra.toArray⟩) 0 w.heap.size (.inr (Nat.le_refl _))).setUp (.string ⟨rb.toArray⟩) 1 w.heap.size (.inr (Nat.le_refl _))).setUp (.int .i64 c2) 0 ge (.inl rfl)).setUp (.string ⟨ra.toArray⟩) 0 (w.heap.size + 1 + 1) (.inr (by omega))).setUp (.string ⟨rb.toArray⟩) 1 (w.heap.size + 1 + 1) (.inr (by omega))
    clear B0 B2 BE P0 BE1 B21 P02 BE2 B22 hb hb1 B1 hB hW
    go_wp2
    exact bodyPost_ret (results_Q1 rfl _ _ rfl B4) rfl ⟨rfl, E4, O4⟩
noncomputable def comb (l : List Rat) : Option Rat := l.foldl (fun o q => addO o (some q)) (some 0)
theorem comb_snoc (l : List Rat) (q : Rat) : comb (l ++ [q]) = addO (comb l) (some q) := by unfold comb; rw [List.foldl_append]; rfl
theorem fold_fq : ∀ (l : List Rat) (o : Option Rat), FqO o → (∀ q ∈ l, Rq.Fq q) → FqO (l.foldl (fun o q => addO o (some q)) o)
  | [], o, ho, _ => ho
  | q :: l, o, ho, h => fold_fq l _ (addO_any o (some q) ho (fun r hr => by cases hr; exact h q (by simp))).1 fun r hr => h r (List.mem_cons_of_mem _ hr)
theorem comb_fq {l : List Rat} (h : ∀ q ∈ l, Rq.Fq q) : FqO (comb l) := fold_fq l (some 0) (fun q h => by cases h; exact ⟨fits_0, fits_1⟩) h
theorem fold_any (qs : List Rat) (A : Option Addr) (cap ge : Nat) (za zb : List UInt8) (w : World) (n₀ : Nat) (lz : LQ (Wq 0) za zb) (hA : At 2 ratC w n₀ A (qs.map txQ)) (hn : qs.length ≤ cap) (hl : qs.length ≤ 20) (hq : ∀ q ∈ qs, Rq.Fq q) (hB : Bx w ge 34 #[.int .i64 0]) (hge : n₀ ≤ ge) (hEn : ∀ W, Below n₀ w W → Env W) :
    Calls Tryz.prog 65 #[.agg #[.string ⟨za.toArray⟩, .string ⟨zb.toArray⟩], .slice A qs.length cap, .func (.func 66) #[] #[.pointer (some ⟨ge, 0, none⟩)]] w fun e w' => e = .returned (VO (comb qs)) ∧ Bx w' ge 34 #[.int .i64 (eO (comb qs))] ∧ Ot ge w w' := by
  have hgl := hB.lt
  have B0 := (Bx.mk w 33 #[.string ⟨za.toArray⟩, .string ⟨zb.toArray⟩]).new (.cells #[.string ⟨#[]⟩, .string ⟨#[]⟩] 33)
  have B1 := Bx.mk (w.alloc (.cells #[.string ⟨za.toArray⟩, .string ⟨zb.toArray⟩] 33)) 33 #[.string ⟨#[]⟩, .string ⟨#[]⟩]
  rw [alloc_size] at B1
  have hb := bNew (bNewW w (.cells #[.string ⟨za.toArray⟩, .string ⟨zb.toArray⟩] 33)) (.cells #[.string ⟨#[]⟩, .string ⟨#[]⟩] 33)
  have BE := hB.call hb
  have hz0 : sn (comb []) = za ∧ sd (comb []) = zb ∧ eO (comb []) = 0 := by
    have h1 := lz.out
    rw [Wq_0] at h1
    exact ⟨h1.1, h1.2, rfl⟩
  have hfin : Kp (comb (qs.take qs.length) = comb qs) := ⟨by rw [List.take_length]⟩
  go_enter Tryz.func65, Tryz.ntmps65
  go_wp2_with fail
  go_loopw [11] (fun s11 wr => ∃ (k : Nat) (sa sb : List UInt8) (c : Int), s11 = .int .i64 k ∧ k ≤ qs.length ∧ Kp (sn (comb (qs.take k)) = sa ∧ sd (comb (qs.take k)) = sb ∧ eO (comb (qs.take k)) = c) ∧ Bx wr w.heap.size 33 #[.string ⟨sa.toArray⟩, .string ⟨sb.toArray⟩] ∧ Bx wr (w.heap.size + 1) 33 #[.string ⟨#[]⟩, .string ⟨#[]⟩] ∧ Bx wr ge 34 #[.int .i64 c] ∧ Ot ge w wr) (fun s11 _ => qs.length - (intOf s11).toNat)
  case atStart => exact ⟨0, za, zb, 0, rfl, Nat.zero_le _, ⟨hz0⟩, B0, B1, BE, Ot.below hb⟩
  case round =>
    clear B0 B1 BE hb hB hz0
    obtain ⟨k, sa, sb, c, rfl, hk, hs, B0, B1, BE, hO⟩ := hrel
    by_cases hlt : k < qs.length
    · have t0 : decide ((k : Int) < (qs.length : Int)) = true := by simp; omega
      have hkl : k < qs.length := by omega
      have hgw : n₀ ≤ w.heap.size := by omega
      obtain ⟨b, off, rfl, hbB, hcell⟩ := (hA.below (hO.to hge hgw)) (by rw [List.length_map]; omega)
      obtain ⟨qa, qb, lq⟩ := LQ.ex qs[k]
      have hck : (qs.map txQ)[k]? = some (txQ qs[k]) := by rw [List.getElem?_map, List.getElem?_eq_getElem hkl]; rfl
      have c0 : wr.cell? ⟨b, off + k * 2, none⟩ = some (.string ⟨qa.toArray⟩) := by rw [← lq.out.1]; exact hcell k _ hck 0 _ rfl
      have c1 : wr.cell? ⟨b, off + k * 2 + 1, none⟩ = some (.string ⟨qb.toArray⟩) := by rw [← lq.out.2]; exact hcell k _ hck 1 _ rfl
      obtain ⟨o, ho⟩ : ∃ o, comb (qs.take k) = o := ⟨_, rfl⟩
      obtain ⟨o2, ho2⟩ : ∃ o2, comb (qs.take (k + 1)) = o2 := ⟨_, rfl⟩
      have hstep : Kp (addO o (some qs[k]) = o2) := ⟨by rw [← ho, ← ho2, List.take_succ_eq_append_getElem hkl, comb_snoc]⟩
      have hFo : FqO o := by rw [← ho]; exact comb_fq fun q hq' => hq q (List.mem_of_mem_take hq')
      have hFq := hq qs[k] (List.getElem_mem hkl)
      rw [ho] at hs
      obtain ⟨ra, rb, c2, hr⟩ : ∃ ra rb c2, sn o2 = ra ∧ sd o2 = rb ∧ eO o2 = c2 := ⟨_, _, _, rfl, rfl, rfl⟩
      have hr' : Kp (sn (comb (qs.take (k + 1))) = ra ∧ sd (comb (qs.take (k + 1))) = rb ∧ eO (comb (qs.take (k + 1))) = c2) := ⟨by rw [ho2]; exact hr⟩
      have l0 := B0.lt
      have l1 := B1.lt
      have lE := BE.lt
      have hbX := bNewW wr (.cells #[.string ⟨qa.toArray⟩, .string ⟨qb.toArray⟩] 33)
      have hC := step_any o o2 qs[k] ge sa sb qa qb ra rb c c2 (wr.alloc (.cells #[.string ⟨qa.toArray⟩, .string ⟨qb.toArray⟩] 33)) hFo hFq hstep hs lq ⟨hr⟩ (BE.call hbX) (hEn _ ((hO.to hge hgw).trans (hbX.mono (Nat.le_trans hgw hO.size))))
      have X0 := B0.call hbX
      have X1 := B1.call hbX
      have X8 := Bx.mk wr 33 #[.string ⟨qa.toArray⟩, .string ⟨qb.toArray⟩]
      have a0 := X0.cell 0 rfl
      have a1 := X0.cell 1 rfl
      have x0 := X8.cell 0 rfl
      have x1 := X8.cell 1 rfl
      replace hO := hO.trans (Ot.below hbX)
      clear hcell hck ho ho2 hstep hFo hFq hs hr B0 B1 BE hq lq hEn
      go_wp2_with fail
      refine hC.mono ?_
      rintro _ w1 ⟨rfl, hBE, hO1⟩
      clear hC a0 a1 x0 x1
      have Y0 := hO1.bx X0 (by omega)
      have Y1 := hO1.bx X1 (by omega)
      have a0 := Y0.cell 0 rfl
      have a1 := Y0.cell 1 rfl
      have f0 := Y0.frozen 0
      have f1 := Y0.frozen 1
      have Z0 : Bx ((w1.setCell ⟨w.heap.size, 0, none⟩ (.string ⟨ra.toArray⟩)).setCell ⟨w.heap.size, 1, none⟩ (.string ⟨rb.toArray⟩)) w.heap.size 33 #[.string ⟨ra.toArray⟩, .string ⟨rb.toArray⟩] := by simpa using (Y0.set 0 (.string ⟨ra.toArray⟩)).set 1 (.string ⟨rb.toArray⟩)
      have Z1 := (Y1.far (p := ⟨w.heap.size, 0, none⟩) (by show _ ≠ w.heap.size; omega) (.string ⟨ra.toArray⟩)).far (p := ⟨w.heap.size, 1, none⟩) (by show _ ≠ w.heap.size; omega) (.string ⟨rb.toArray⟩)
      have ZE := (hBE.far (p := ⟨w.heap.size, 0, none⟩) (by show ge ≠ w.heap.size; omega) (.string ⟨ra.toArray⟩)).far (p := ⟨w.heap.size, 1, none⟩) (by show ge ≠ w.heap.size; omega) (.string ⟨rb.toArray⟩)
      have ZO := ((hO.trans hO1).setUp (.string ⟨ra.toArray⟩) 0 w.heap.size (.inr (Nat.le_refl _))).setUp (.string ⟨rb.toArray⟩) 1 w.heap.size (.inr (Nat.le_refl _))
      clear X0 X1 X8 hO hO1 hBE Y0 Y1 hbX
      go_wp2
      exact ⟨⟨k + 1, ra, rb, c2, by go_num, by omega, hr', Z0, Z1, ZE, ZO⟩, by simp [intOf] <;> omega⟩
    · have hkN : k = qs.length := by omega
      rw [hkN, hfin.out] at hs
      have t0 : decide ((k : Int) < (qs.length : Int)) = false := by simp; omega
      clear hkN
      have ev : VO (comb qs) = .agg #[.string ⟨sa.toArray⟩, .string ⟨sb.toArray⟩] := by unfold VO; rw [hs.out.1, hs.out.2.1]
      have ee : Kp (eO (comb qs) = c) := ⟨hs.out.2.2⟩
      have ev := Kp.mk ev
      have a0 := B0.cell 0 rfl
      have a1 := B0.cell 1 rfl
      have r0 := B1.cell 0 rfl
      have r1 := B1.cell 1 rfl
      have f0 := B1.frozen 0
      have f1 := B1.frozen 1
      have lE := BE.lt
      have B4 := (B1.set 0 (.string ⟨sa.toArray⟩)).set 1 (.string ⟨sb.toArray⟩)
      have ZE := (BE.far (p := ⟨w.heap.size + 1, 0, none⟩) (by show ge ≠ w.heap.size + 1; omega) (.string ⟨sa.toArray⟩)).far (p := ⟨w.heap.size + 1, 1, none⟩) (by show ge ≠ w.heap.size + 1; omega) (.string ⟨sb.toArray⟩)
      have ZO := (hO.setUp (.string ⟨sa.toArray⟩) 0 (w.heap.size + 1) (.inr (by omega))).setUp (.string ⟨sb.toArray⟩) 1 (w.heap.size + 1) (.inr (by omega))
      clear hs hfin hA hEn hq B0 B1 BE hO lz
      go_wp2
      exact bodyPost_ret (results_Q1 rfl _ _ rfl B4) rfl ⟨by rw [ev.out], by rw [ee.out]; exact ZE, ZO⟩
end Go.Proofs.YtklelhkcbdajpaaGreatDoor
namespace Go.Proofs.YtklelhkcbdajpaaGreatDoor
open Go.RowKit Go.Shelf
theorem Combine_good (qs : List Rat) (A : Option Addr) (cap : Nat) (r : Rat) (ra rb : List UInt8) (w : World) (hA : At 2 ratC w w.heap.size A (qs.map txQ)) (hn : qs.length ≤ cap) (hl : qs.length ≤ 20) (hq : ∀ q ∈ qs, Un q) (hc : Kp (comb qs = some r)) (lr : LQ (lq1 r) ra rb) (hE : Env w) :
    Calls Tryz.prog 25 #[.slice A qs.length cap] w fun e w' => e = .returned (.tuple #[.agg #[.string ⟨ra.toArray⟩, .string ⟨rb.toArray⟩], .int .i64 0]) ∧ Below w.heap.size w w' := by
  have hb0 := bNewW w (.cells #[.string ⟨#[]⟩, .string ⟨#[]⟩] 33)
  have BR := Bx.mk w 33 #[.string ⟨#[]⟩, .string ⟨#[]⟩]
  obtain ⟨za, zb, lz⟩ := LQ.ex (Wq 0)
  have hI : I64 0 := ⟨by decide, by decide⟩
  have hcon := con_q (qs.map txQ) A cap (w.alloc (.cells #[.string ⟨#[]⟩, .string ⟨#[]⟩] 33)) ((hA.below hb0).more hb0.size) (by rw [List.length_map]; exact hn) (by rw [List.length_map]; omega) (fun p hp W hW => by
    obtain ⟨q, hqm, rfl⟩ := List.mem_map.1 hp
    exact bad_q q _ _ W ⟨⟨rfl, rfl⟩⟩ (hq q hqm).1 ((hE.below hb0).below hW))
  rw [List.length_map] at hcon
  have hany : (qs.map txQ).any (fun p => !unB p) = false := by
    rw [List.any_eq_false]
    intro p hp
    obtain ⟨q, hqm, rfl⟩ := List.mem_map.1 hp
    rw [unB_t ⟨q, hq q hqm, rfl⟩]; decide
  rw [hany] at hcon
  have t0 : decide ((qs.length : Int) > 20) = false := by simp; omega
  obtain ⟨oa, ob, lo⟩ := LQ.ex r
  have hrf : Rq.Fq r := comb_fq (fun q h => (hq q h).1) r hc.out
  have vO : VO (comb qs) = .agg #[.string ⟨oa.toArray⟩, .string ⟨ob.toArray⟩] := by rw [hc.out, ← lo.eq]; rfl
  have eO' : eO (comb qs) = 0 := by rw [hc.out]; rfl
  have hEn : ∀ W, Below w.heap.size w W → Env W := fun W hW => hE.below hW
  clear hany
  go_enter Tryz.func25, Tryz.ntmps25
  go_wp2_with (go_at_call 64; refine hcon.mono ?_; rintro _ w1 ⟨rfl, hb1⟩; clear hcon)
  replace hb0 := bCall hb0 hb1
  replace BR := BR.call hb1
  have hbE := bNew hb0 (.cells #[.int .i64 0] 34)
  have BE := Bx.mk w1 34 #[.int .i64 0]
  replace BR := BR.new (.cells #[.int .i64 0] 34)
  have lR := BR.lt
  have hw := whole_s (w1.alloc (.cells #[.int .i64 0] 34)) hI lz (hEn _ hbE)
  have hgeL := hb0.size
  have hRlt : w.heap.size < w1.heap.size := by have := hb1.size; rw [alloc_size] at this; omega
  refine hw.mono ?_
  rintro _ w2 ⟨rfl, hb2⟩
  clear hw
  replace hbE := bCall hbE hb2
  replace BE := BE.call hb2
  replace BR := BR.call hb2
  have hF := fold_any qs A cap w1.heap.size za zb w2 w.heap.size lz (hA.below hbE) hn hl (fun q h => (hq q h).1) BE hgeL (fun W hW => hEn W (hbE.trans hW))
  rw [vO, eO'] at hF
  go_wp2_with fail
  refine hF.mono ?_
  rintro _ w3 ⟨rfl, BE3, hO⟩
  clear hF
  have BR3 := hO.bx BR (by omega)
  have hb3 := hbE.trans (hO.to hgeL (Nat.le_trans hgeL (by have := BE.lt; omega)))
  have hb4 := bNew hb3 (.cells #[.string ⟨oa.toArray⟩, .string ⟨ob.toArray⟩] 33)
  have BE4 := BE3.new (.cells #[.string ⟨oa.toArray⟩, .string ⟨ob.toArray⟩] 33)
  have BR4 := BR3.new (.cells #[.string ⟨oa.toArray⟩, .string ⟨ob.toArray⟩] 33)
  have B6 := Bx.mk w3 33 #[.string ⟨oa.toArray⟩, .string ⟨ob.toArray⟩]
  have e0 := BE4.cell 0 rfl
  have s0 := B6.cell 0 rfl
  have s1 := B6.cell 1 rfl
  have hL := least_s (w3.alloc (.cells #[.string ⟨oa.toArray⟩, .string ⟨ob.toArray⟩] 33)) hrf lo lr (hEn _ hb4)
  clear hE hEn hc lr lo lz hrf hq hA vO eO' hO BE BE3 BR BR3 hb0 hbE hb1 hb2 hb3
  go_wp2_with fail
  refine hL.mono ?_
  rintro _ w5 ⟨rfl, hb5⟩
  clear hL
  replace BR4 := BR4.call hb5
  have f0 := BR4.frozen 0
  have f1 := BR4.frozen 1
  have d0 := BR4.cell 0 rfl
  have d1 := BR4.cell 1 rfl
  have B9 := (BR4.set 0 (.string ⟨ra.toArray⟩)).set 1 (.string ⟨rb.toArray⟩)
  have hb9 := bSet (bSet (bCall hb4 hb5) (p := ⟨w.heap.size, 0, none⟩) (Nat.le_refl _) (.string ⟨ra.toArray⟩)) (p := ⟨w.heap.size, 1, none⟩) (Nat.le_refl _) (.string ⟨rb.toArray⟩)
  clear BR4 BE4 B6 e0 s0 s1 hb4 hb5
  go_wp2
  exact bodyPost_ret (results_Q rfl _ _ rfl rfl B9) rfl ⟨rfl, hb9⟩
end Go.Proofs.YtklelhkcbdajpaaGreatDoor
namespace Go.Proofs.YtklelhkcbdajpaaGreatDoor
open Go.RowKit Go.Shelf
theorem results_B {fn : Func} {s t u : Tmp} {g : Nat} {n d : ByteArray} {e x : Value} (h : fn.results = #[.tmp s, .cell t 33, .tmp u]) (tmps : Array Value) (w : World) (hs : tmps.getD s undef = x) (ht : tmps.getD t undef = .pointer (some ⟨g, 0, none⟩)) (hu : tmps.getD u undef = e) (hB : Bx w g 33 #[.string n, .string d]) :
    (results fn tmps).run Tryz.prog w = .ok (.tuple #[x, .agg #[.string n, .string d], e]) w := by
  have h0 := hB.cell 0 rfl
  have h1 := hB.cell 1 rfl
  have hs' : tmps[s]?.getD undef = x := by simpa using hs
  have ht' : tmps[t]?.getD undef = .pointer (some ⟨g, 0, none⟩) := by simpa using ht
  have hu' : tmps[u]?.getD undef = e := by simpa using hu
  simp only [results, h]
  simp [go_sem, hs', ht', hu', h0, h1, loadVar]
def bst (n m mx : Nat) (c e : Int) : Rat := Tb.Pq n m c (e - c) * Wq mx
theorem Burst_good (l : List Int) (A : Option Addr) (cap : Nat) (width : Int) (n : Nat) (c e : Int) (w : World) (hA : At 1 intC w w.heap.size A l) (hn : l.length ≤ cap) (ht : Tb.Tms l) (hw1 : 1 ≤ width) (hw2 : width ≤ 10000000) (hn5 : n ≤ 50) (h0 : 0 ≤ c) (h1 : c ≤ e) (h2 : e ≤ 1000) (h3 : 1 ≤ e) (hE : Env w) :
    Calls Tryz.prog 23 #[.slice A l.length cap, .int .i64 width, .int .i64 n, .agg #[.int .i64 c, .int .i64 e]] w fun e' w' => (∃ (best : Nat) (at_ : Int) (ra rb : List UInt8), e' = .returned (.tuple #[.int .i64 best, .agg #[.string ⟨ra.toArray⟩, .string ⟨rb.toArray⟩], .int .i64 0]) ∧ Tb.Bw l width l.length best at_ ∧ best ≤ l.length ∧ LQ (lq1 (bst n (min best (n + 1)) (max l.length 1) c e)) ra rb) ∧ Below w.heap.size w w' := by
  have hb0 := bNew (bNewW w (.cells #[.int .i64 c, .int .i64 e] 23)) (.cells #[.string ⟨#[]⟩, .string ⟨#[]⟩] 33)
  have B0 := (Bx.mk w 23 #[.int .i64 c, .int .i64 e]).new (.cells #[.string ⟨#[]⟩, .string ⟨#[]⟩] 33)
  have B1 := Bx.mk (w.alloc (.cells #[.int .i64 c, .int .i64 e] 23)) 33 #[.string ⟨#[]⟩, .string ⟨#[]⟩]
  rw [alloc_size] at B1
  have hl60 := ht.1
  have hS := Scan_good l A cap width _ ((hA.below hb0).more hb0.size) hn ht hw1 hw2
  have hEn : ∀ W, Below w.heap.size w W → Env W := fun W hW => hE.below hW
  go_enter Tryz.func23, Tryz.ntmps23
  go_wp2_with fail
  refine hS.mono ?_
  rintro _ w1 ⟨⟨best, at_, rfl, hBw, hb1', hb2', -, -⟩, hb1⟩
  clear hS hA
  obtain ⟨bn, rfl⟩ := Int.eq_ofNat_of_zero_le hb1'
  have hbl : bn ≤ l.length := by omega
  replace hb0 := bCall hb0 hb1
  replace B0 := B0.call hb1
  replace B1 := B1.call hb1
  have c0 := B0.cell 0 rfl
  have c1 := B0.cell 1 rfl
  have hT := tails_good n c e w1 hn5 h0 h1 h2 h3 (hEn _ hb0)
  obtain ⟨m, hm⟩ : ∃ m, min bn (n + 1) = m := ⟨_, rfl⟩
  obtain ⟨mx, hmx⟩ : ∃ m, max l.length 1 = m := ⟨_, rfl⟩
  have hmi : min (bn : Int) ((n : Int) + 1) = (m : Int) := by omega
  have hmxi : max (l.length : Int) 1 = (mx : Int) := by omega
  obtain ⟨pa, pb, lp⟩ := LQ.ex (Tb.Pq n m c (e - c))
  obtain ⟨wa, wb, lw⟩ := LQ.ex (Wq mx)
  have hIm : I64 (mx : Int) := ⟨by omega, by omega⟩
  have hpq := Tb.Pq_qz (n := n) h0 (show 0 ≤ e - c by omega) (by omega) (by omega) m
  have hwn : (Wq (mx : Int)).num = (mx : Int) := by rw [Wq_is]; exact Rat.num_intCast _
  have hwd : (Wq (mx : Int)).den = 1 := by rw [Wq_is]; exact Rat.den_intCast _
  have hms : Rq.Sz 2 (mx : Int) := by unfold Rq.Sz; rw [Int.natAbs_natCast]; omega
  have hMul := fun W hEW => QMul_good (Tb.Pq n m c (e - c)) (Wq mx) W hEW (Pq_fq hn5 h0 h1 h2 h3) (Wq_fq hIm) (by rw [hwn]; exact (hpq.num.mul hms).fits (by omega)) (by rw [hwd]; exact (hpq.den.mul Rq.sz_one).fits (by omega))
  obtain ⟨ma, mb, lm⟩ := LQ.ex (bst n m mx c e)
  have hqm : Rq.Fq (bst n m mx c e) := by
    have hp := Tb.Pq_pos (n := n) (k := m) h0 (show 0 ≤ e - c by omega) (by omega)
    have e1 : bst n m mx c e = Rat.divInt ((Tb.Pq n m c (e - c)).num * (mx : Int)) ((Tb.Pq n m c (e - c)).den : Int) := by
      unfold bst
      rw [← Rq.mul_is, hwn, hwd]
      simp
    obtain ⟨s1, s2⟩ := divInt_small ((Tb.Pq n m c (e - c)).num * (mx : Int)) (Tb.Pq n m c (e - c)).den (Tb.Pq n m c (e - c)).den_pos
    rw [← e1] at s1 s2
    refine ⟨Nat.lt_of_le_of_lt s1 ((hpq.num.mul hms).fits (by omega)), ?_⟩
    have hd := hpq.den.fits (show 3 * n + 1 ≤ 200 by omega)
    unfold Ig.fits at hd ⊢
    rw [Int.natAbs_natCast] at hd ⊢
    omega
  have hMul2 := fun W hEW => (by
    have h := hMul W hEW
    rw [lp.eq, lw.eq, show QV (Tb.Pq n m c (e - c) * Wq mx) = _ from lm.eq] at h
    exact h : Calls Tryz.prog 37 #[.agg #[.string ⟨pa.toArray⟩, .string ⟨pb.toArray⟩], .agg #[.string ⟨wa.toArray⟩, .string ⟨wb.toArray⟩]] W fun e' w' => e' = .returned (.tuple #[.agg #[.string ⟨ma.toArray⟩, .string ⟨mb.toArray⟩], .int .i64 0]) ∧ Below W.heap.size W w')
  obtain ⟨ra, rb, lr⟩ := LQ.ex (lq1 (bst n m mx c e))
  have hmle : m ≤ n + 1 := by omega
  clear hMul hwn hwd hms hpq hE
  go_wp2_with fail
  refine hT.mono ?_
  rintro _ w2 ⟨⟨gn, ga, gr, gy, go, rfl, hTl⟩, hb2⟩
  clear hT c0 c1
  replace hb0 := bCall hb0 hb2
  replace B1 := B1.call hb2
  have hK := tail_any n m c e gn ga gr gy go pa pb w2 hTl hn5 hmle h0 h1 h2 h3 lp (hEn _ hb0)
  clear hb1 hb2 B0
  go_wp2_with fail
  refine hK.mono ?_
  rintro _ w3 ⟨rfl, hb3⟩
  clear hK lp
  replace hb0 := bCall hb0 hb3
  replace B1 := B1.call hb3
  have hwh := whole_s w3 hIm lw (hEn _ hb0)
  go_wp2_with fail
  refine hwh.mono ?_
  rintro _ w4 ⟨rfl, hb4⟩
  clear hwh lw
  replace hb0 := bCall hb0 hb4
  replace B1 := B1.call hb4
  have hM4 := hMul2 w4 (hEn _ hb0)
  go_wp2_with fail
  refine hM4.mono ?_
  rintro _ w5 ⟨rfl, hb5⟩
  clear hM4 hMul2 hb3 hb4
  replace hb0 := bNew (bCall hb0 hb5) (.cells #[.string ⟨ma.toArray⟩, .string ⟨mb.toArray⟩] 33)
  replace B1 := (B1.call hb5).new (.cells #[.string ⟨ma.toArray⟩, .string ⟨mb.toArray⟩] 33)
  have B6 := Bx.mk w5 33 #[.string ⟨ma.toArray⟩, .string ⟨mb.toArray⟩]
  have s0 := B6.cell 0 rfl
  have s1 := B6.cell 1 rfl
  have hL := least_s (w5.alloc (.cells #[.string ⟨ma.toArray⟩, .string ⟨mb.toArray⟩] 33)) hqm lm lr (hEn _ hb0)
  clear hqm lm hEn hb5
  go_wp2_with fail
  refine hL.mono ?_
  rintro _ w6 ⟨rfl, hb6⟩
  clear hL s0 s1 B6
  replace B1 := B1.call hb6
  replace hb0 := bCall hb0 hb6
  have f0 := B1.frozen 0
  have f1 := B1.frozen 1
  have d0 := B1.cell 0 rfl
  have d1 := B1.cell 1 rfl
  have B9 := (B1.set 0 (.string ⟨ra.toArray⟩)).set 1 (.string ⟨rb.toArray⟩)
  have hb9 := bSet (bSet hb0 (p := ⟨w.heap.size + 1, 0, none⟩) (Nat.le_succ _) (.string ⟨ra.toArray⟩)) (p := ⟨w.heap.size + 1, 1, none⟩) (Nat.le_succ _) (.string ⟨rb.toArray⟩)
  clear B1 hb0 hb6
  go_wp2
  exact bodyPost_ret (results_B rfl _ _ rfl rfl rfl B9) rfl ⟨⟨bn, at_, ra, rb, rfl, hBw, hbl, by rw [hm, hmx]; exact lr⟩, hb9⟩
end Go.Proofs.YtklelhkcbdajpaaGreatDoor
namespace Go.Proofs.YtklelhkcbdajpaaGreatDoor
open Go.RowKit Go.Shelf
theorem lpick_pos {c n : Int} (hc : 0 ≤ c) : Tp.pick c n = c % n := by unfold Tp.pick; rw [if_neg (by omega)]
theorem lpick_neg {c n : Int} (hc : c < 0) : Tp.pick c n = (-(c + 1)) % n := by unfold Tp.pick; rw [if_pos hc]
theorem lpick_any (c n : Int) (h0 : 0 < n) (h : I64 c) (w : World) :
    Calls Tryz.prog 13 #[.int .i64 c, .int .i64 n] w fun e w' => e = .returned (.int .i64 (Tp.pick c n)) ∧ w = w' := by
  obtain ⟨h1, h2⟩ := h
  by_cases hc : c < 0
  · have hm : 0 ≤ -(c+1) := by omega
    go_enter Tryz.func13, Tryz.ntmps13
    go_wp2
    go_ret
    refine ⟨ret_int ?_, rfl⟩
    rw [lpick_neg hc, ← Int.neg_tmod]
    exact Int.tmod_eq_emod_of_nonneg hm
  · have hm : 0 ≤ c := by omega
    go_enter Tryz.func13, Tryz.ntmps13
    go_wp2
    go_ret
    exact ⟨ret_int (lpick_pos hm).symm, rfl⟩
theorem rpick_any (c n : Int) (h0 : 0 < n) (h : I64 c) (w : World) :
    Calls Tryz.prog 40 #[.int .i64 c, .int .i64 n] w fun e w' => e = .returned (.int .i64 (Tp.pick c n)) ∧ w = w' := by
  obtain ⟨h1, h2⟩ := h
  by_cases hc : c < 0
  · have hm : 0 ≤ -(c+1) := by omega
    go_enter Tryz.func40, Tryz.ntmps40
    go_wp2
    go_ret
    refine ⟨ret_int ?_, rfl⟩
    rw [lpick_neg hc, ← Int.neg_tmod]
    exact Int.tmod_eq_emod_of_nonneg hm
  · have hm : 0 ≤ c := by omega
    go_enter Tryz.func40, Tryz.ntmps40
    go_wp2
    go_ret
    exact ⟨ret_int (lpick_pos hm).symm, rfl⟩
theorem of_s {n d : Int} {q : Rat} {qa qb : List UInt8} (w : World) (hn : I64 n) (hd : I64 d) (h0 : d ≠ 0) (hq : Kp (Rat.divInt n d = q)) (lq : LQ q qa qb) (hE : Env w) :
    Calls Tryz.prog 28 #[.int .i64 n, .int .i64 d] w fun e w' => e = .returned (.agg #[.string ⟨qa.toArray⟩, .string ⟨qb.toArray⟩]) ∧ Below w.heap.size w w' := by
  have hb := bNewW w (.cells #[.string ⟨#[]⟩, .string ⟨#[]⟩] 33)
  have BR := Bx.mk w 33 #[.string ⟨#[]⟩, .string ⟨#[]⟩]
  have hM := Of_ok n d _ hn hd h0 (hE.below hb)
  rw [hq.out, show QV q = _ from lq.eq] at hM
  clear hE lq hq
  go_enter Tryz.func28, Tryz.ntmps28
  go_wp2_with fail
  refine hM.mono ?_
  rintro _ w1 ⟨rfl, hb1⟩
  clear hM
  have B2 := (BR.call hb1).new (.cells #[.string ⟨qa.toArray⟩, .string ⟨qb.toArray⟩] 33)
  have B3 := Bx.mk w1 33 #[.string ⟨qa.toArray⟩, .string ⟨qb.toArray⟩]
  have hb2 := bNew (bCall hb hb1) (.cells #[.string ⟨qa.toArray⟩, .string ⟨qb.toArray⟩] 33)
  have c0 := B2.cell 0 rfl
  have c1 := B2.cell 1 rfl
  have f0 := B2.frozen 0
  have f1 := B2.frozen 1
  have d0 := B3.cell 0 rfl
  have d1 := B3.cell 1 rfl
  have B4 := (B2.set 0 (.string ⟨qa.toArray⟩)).set 1 (.string ⟨qb.toArray⟩)
  have hb4 := bSet (bSet hb2 (p := ⟨w.heap.size, 0, none⟩) (Nat.le_refl _) (.string ⟨qa.toArray⟩)) (p := ⟨w.heap.size, 1, none⟩) (Nat.le_refl _) (.string ⟨qb.toArray⟩)
  clear BR hb hb1
  go_wp2
  exact bodyPost_ret (results_Q1 rfl _ _ rfl B4) rfl ⟨rfl, hb4⟩
theorem binomial_s (n k : Nat) (c e : Int) (qa qb : List UInt8) (w : World) (hn : n ≤ 50) (hk : k ≤ n + 1) (h0 : 0 ≤ c) (h1 : c ≤ e) (h2 : e ≤ 1000) (h3 : 1 ≤ e) (lq : LQ (Tb.Pq n k c (e - c)) qa qb) (hE : Env w) :
    Calls Tryz.prog 38 #[.int .i64 n, .int .i64 k, .int .i64 c, .int .i64 e, .agg #[.string ⟨qa.toArray⟩, .string ⟨qb.toArray⟩]] w fun e' w' => e' = .returned (.bool true) ∧ Below w.heap.size w w' := by
  have hb := bNewW w (.cells #[.string ⟨qa.toArray⟩, .string ⟨qb.toArray⟩] 33)
  have B0 := Bx.mk w 33 #[.string ⟨qa.toArray⟩, .string ⟨qb.toArray⟩]
  have hC := Binomial_good n k c e qa qb _ hn hk h0 h1 h2 h3 lq (hE.below hb)
  clear hE lq
  go_enter Tryz.func38, Tryz.ntmps38
  go_wp2_with fail
  refine hC.mono ?_
  rintro _ w1 ⟨rfl, hb1⟩
  clear hC
  have B2 := (B0.call hb1).new (.cells #[.string ⟨qa.toArray⟩, .string ⟨qb.toArray⟩] 33)
  have B3 := Bx.mk w1 33 #[.string ⟨qa.toArray⟩, .string ⟨qb.toArray⟩]
  have hb2 := bNew (bCall hb hb1) (.cells #[.string ⟨qa.toArray⟩, .string ⟨qb.toArray⟩] 33)
  have c0 := B2.cell 0 rfl
  have c1 := B2.cell 1 rfl
  have d0 := B3.cell 0 rfl
  have d1 := B3.cell 1 rfl
  go_wp2
  go_ret
  exact ⟨rfl, hb2⟩
theorem hyper_s (t m d k : Nat) (qa qb : List UInt8) (w : World) (ht : t ≤ 100) (hm : m ≤ t) (hd : d ≤ t) (hk : k ≤ d + 1) (lq : LQ (Tb.Hq t m d k) qa qb) (hE : Env w) :
    Calls Tryz.prog 39 #[.int .i64 t, .int .i64 m, .int .i64 d, .int .i64 k, .agg #[.string ⟨qa.toArray⟩, .string ⟨qb.toArray⟩]] w fun e' w' => e' = .returned (.bool true) ∧ Below w.heap.size w w' := by
  have hb := bNewW w (.cells #[.string ⟨qa.toArray⟩, .string ⟨qb.toArray⟩] 33)
  have B0 := Bx.mk w 33 #[.string ⟨qa.toArray⟩, .string ⟨qb.toArray⟩]
  have hC := Hyper_good t m d k qa qb _ ht hm hd hk lq (hE.below hb)
  clear hE lq
  go_enter Tryz.func39, Tryz.ntmps39
  go_wp2_with fail
  refine hC.mono ?_
  rintro _ w1 ⟨rfl, hb1⟩
  clear hC
  have B2 := (B0.call hb1).new (.cells #[.string ⟨qa.toArray⟩, .string ⟨qb.toArray⟩] 33)
  have B3 := Bx.mk w1 33 #[.string ⟨qa.toArray⟩, .string ⟨qb.toArray⟩]
  have hb2 := bNew (bCall hb hb1) (.cells #[.string ⟨qa.toArray⟩, .string ⟨qb.toArray⟩] 33)
  have c0 := B2.cell 0 rfl
  have c1 := B2.cell 1 rfl
  have d0 := B3.cell 0 rfl
  have d1 := B3.cell 1 rfl
  go_wp2
  go_ret
  exact ⟨rfl, hb2⟩
structure SE (w0 w : World) : Prop where
  bl : Below w0.heap.size w0 w
  env : Env w
theorem SE.call {w0 w w' : World} (h : SE w0 w) (hb : Below w.heap.size w w') : SE w0 w' := ⟨bCall h.bl hb, h.env.below hb⟩
theorem SE.at (w : World) {h0 w1 : World} (hE : Env h0) (hb : Below h0.heap.size h0 w1) : SE h0 w1 := ⟨hb, hE.below hb⟩
theorem Least_k {n : Nat} {c e : Int} {q : Rat} {la lb : List UInt8} {k : Nat} (w : World) (hn : n ≤ 50) (h0 : 0 ≤ c) (h1 : c ≤ e) (h2 : e ≤ 1000) (h3 : 1 ≤ e) (lq : LQ q la lb) (hq : Rq.Fq q) (hq0 : 0 ≤ q) (hk : Tb.Le n c (e - c) q k) (hE : Env w) :
    Calls Tryz.prog 18 #[.int .i64 n, .agg #[.int .i64 c, .int .i64 e], .agg #[.string ⟨la.toArray⟩, .string ⟨lb.toArray⟩]] w fun e' w' => e' = .returned (.tuple #[.int .i64 k, .int .i64 0]) ∧ Below w.heap.size w w' :=
  (Least_good n c e q la lb w hn h0 h1 h2 h3 lq hq hq0 hE).mono fun e' w' ⟨⟨k', he, hk'⟩, hb⟩ => ⟨by rw [he, hk'.unique hk], hb⟩
theorem Scan_k {l : List Int} {A : Option Addr} {cap : Nat} {width best at_ : Int} (w : World) (hA : At 1 intC w w.heap.size A l) (hn : l.length ≤ cap) (ht : Tb.Tms l) (hw1 : 1 ≤ width) (hw2 : width ≤ 10000000) (hB : Tb.Bw l width l.length best at_) :
    Calls Tryz.prog 21 #[.slice A l.length cap, .int .i64 width] w fun e w' => e = .returned (.tuple #[.int .i64 best, .int .i64 at_, .int .i64 0]) ∧ Below w.heap.size w w' :=
  (Scan_good l A cap width w hA hn ht hw1 hw2).mono fun e' w' ⟨⟨b, a, he, hB', _⟩, hb⟩ => ⟨by rw [he, (hB'.unique hB).1, (hB'.unique hB).2], hb⟩
theorem LQ.same {q : Rat} {a b c d : List UInt8} (h : LQ q a b) (k : LQ q c d) : a = c ∧ b = d := ⟨h.out.1.symm.trans k.out.1, h.out.2.symm.trans k.out.2⟩
theorem Burst_k {l : List Int} {A : Option Addr} {cap : Nat} {width : Int} {n : Nat} {c e : Int} {best : Nat} {at_ : Int} {ra rb : List UInt8} (w : World) (hA : At 1 intC w w.heap.size A l) (hn : l.length ≤ cap) (ht : Tb.Tms l) (hw1 : 1 ≤ width) (hw2 : width ≤ 10000000) (hn5 : n ≤ 50) (h0 : 0 ≤ c) (h1 : c ≤ e) (h2 : e ≤ 1000) (h3 : 1 ≤ e)
    (hB : Tb.Bw l width l.length best at_) (lr : LQ (lq1 (bst n (min best (n + 1)) (max l.length 1) c e)) ra rb) (hE : Env w) :
    Calls Tryz.prog 23 #[.slice A l.length cap, .int .i64 width, .int .i64 n, .agg #[.int .i64 c, .int .i64 e]] w fun e' w' => e' = .returned (.tuple #[.int .i64 best, .agg #[.string ⟨ra.toArray⟩, .string ⟨rb.toArray⟩], .int .i64 0]) ∧ Below w.heap.size w w' :=
  (Burst_good l A cap width n c e w hA hn ht hw1 hw2 hn5 h0 h1 h2 h3 hE).mono fun e' w' ⟨⟨b, a, ra', rb', he, hB', _, lr'⟩, hb⟩ => ⟨by
    obtain ⟨e1, _⟩ := hB'.unique hB
    obtain rfl : b = best := by omega
    obtain ⟨e3, e4⟩ := lr'.same lr
    rw [he, e3, e4], hb⟩
end Go.Proofs.YtklelhkcbdajpaaGreatDoor
namespace Go.Proofs.YtklelhkcbdajpaaGreatDoor
open Go.RowKit Go.Shelf
theorem at_blk {α : Type} {size : Nat} {f : α → List Value} (hf : ∀ c, (f c).length = size) {w : World} {g : Nat} {t : TypeId} {p : List α} (h : Bx w g t (p.flatMap f).toArray) : At size f w w.heap.size (some ⟨g, 0, none⟩) p := fun _ => by
  refine ⟨g, 0, rfl, h.lt, fun i c hi j u hj => h.cell (0 + i * size + j) ?_⟩
  have hjl : j < size := by rw [← hf c]; exact (List.getElem?_eq_some_iff.1 hj).1
  rw [List.getElem?_toArray, Nat.zero_add, flat_get hf p i j c hi hjl]
  exact hj
theorem at_five {w : World} {g : Nat} (h : Bx w g 3 #[.int .i64 10, .int .i64 20, .int .i64 25, .int .i64 30, .int .i64 30]) : At 1 intC w w.heap.size (some ⟨g, 0, none⟩) [10, 20, 25, 30, 30] := at_blk (size := 1) (f := intC) (p := [10, 20, 25, 30, 30]) (fun _ => rfl) h
theorem at_two_r {w : World} {g : Nat} {a b c d : List UInt8} (h : Bx w g 33 #[.string ⟨a.toArray⟩, .string ⟨b.toArray⟩, .string ⟨c.toArray⟩, .string ⟨d.toArray⟩]) : At 2 ratC w w.heap.size (some ⟨g, 0, none⟩) [(a, b), (c, d)] := at_blk (size := 2) (f := ratC) (p := [(a, b), (c, d)]) ratC_len h
theorem Combine_k {qs : List Rat} {A : Option Addr} {cap : Nat} {r : Rat} {ra rb : List UInt8} (n : Nat) (w : World) (hn0 : qs.length = n) (hA : At 2 ratC w w.heap.size A (qs.map txQ)) (hn : n ≤ cap) (hl : n ≤ 20) (hq : ∀ q ∈ qs, Un q) (hc : Kp (comb qs = some r)) (lr : LQ (lq1 r) ra rb) (hE : Env w) :
    Calls Tryz.prog 25 #[.slice A n cap] w fun e w' => e = .returned (.tuple #[.agg #[.string ⟨ra.toArray⟩, .string ⟨rb.toArray⟩], .int .i64 0]) ∧ Below w.heap.size w w' := by
  subst hn0
  exact Combine_good qs A cap r ra rb w hA hn hl hq hc lr hE
theorem tms_5 : Tb.Tms [10, 20, 25, 30, 30] := by unfold Tb.Tms Tb.So; decide
theorem bw_10 : Tb.Bw [10, 20, 25, 30, 30] 10 ([10, 20, 25, 30, 30] : List Int).length 3 25 := by
  refine ⟨fun h => by simp at h, fun _ => ⟨2, by decide, by decide, rfl, by decide⟩, fun j hj _ => ?_⟩
  have hj5 : j < 5 := hj
  rcases (show j = 0 ∨ j = 1 ∨ j = 2 ∨ j = 3 ∨ j = 4 by omega) with rfl | rfl | rfl | rfl | rfl <;> (simp only [List.getElem_cons_zero, List.getElem_cons_succ]; decide)
theorem bw_11 : Tb.Bw [10, 20, 25, 30, 30] 11 ([10, 20, 25, 30, 30] : List Int).length ((4 : Nat) : Int) 20 := by
  refine ⟨fun h => by simp at h, fun _ => ⟨1, by decide, by decide, rfl, by decide⟩, fun j hj _ => ?_⟩
  have hj5 : j < 5 := hj
  rcases (show j = 0 ∨ j = 1 ∨ j = 2 ∨ j = 3 ∨ j = 4 by omega) with rfl | rfl | rfl | rfl | rfl <;> (simp only [List.getElem_cons_zero, List.getElem_cons_succ]; decide)
theorem lq_of {q : Rat} {n d : Int} {a b : List UInt8} (h1 : q.num = n) (h2 : (q.den : Int) = d) (h3 : Lib.itoa n = a) (h4 : Lib.itoa d = b) : LQ q a b := ⟨by rw [h1, h3], by rw [h2, h4]⟩
theorem lq_p1 : LQ (Tb.Pq 2 1 1 (2 - 1)) [51] [52] := lq_of (n := 3) (d := 4) (by decide +kernel) (by decide +kernel) (by decide +kernel) (by decide +kernel)
theorem lq_p2 : LQ (Tb.Pq 3 3 1 (10 - 1)) [49] [49, 48, 48, 48] := lq_of (n := 1) (d := 1000) (by decide +kernel) (by decide +kernel) (by decide +kernel) (by decide +kernel)
theorem lq_p3 : LQ (Tb.Pq 0 0 1 (1 - 1)) [49] [49] := lq_of (n := 1) (d := 1) (by decide +kernel) (by decide +kernel) (by decide +kernel) (by decide +kernel)
theorem lq_p4 : LQ (Tb.Pq 0 1 1 (1 - 1)) [48] [49] := lq_of (n := 0) (d := 1) (by decide +kernel) (by decide +kernel) (by decide +kernel) (by decide +kernel)
theorem lq_p5 : LQ (Tb.Pq 3 1 0 (5 - 0)) [48] [49] := lq_of (n := 0) (d := 1) (by decide +kernel) (by decide +kernel) (by decide +kernel) (by decide +kernel)
theorem lq_p6 : LQ (Tb.Pq 3 1 5 (5 - 5)) [49] [49] := lq_of (n := 1) (d := 1) (by decide +kernel) (by decide +kernel) (by decide +kernel) (by decide +kernel)
theorem lq_h1 : LQ (Tb.Hq 5 2 2 1) [55] [49, 48] := lq_of (n := 7) (d := 10) (by decide +kernel) (by decide +kernel) (by decide +kernel) (by decide +kernel)
theorem lq_h2 : LQ (Tb.Hq 5 2 2 2) [49] [49, 48] := lq_of (n := 1) (d := 10) (by decide +kernel) (by decide +kernel) (by decide +kernel) (by decide +kernel)
theorem lq_h3 : LQ (Tb.Hq 5 2 4 1) [49] [49] := lq_of (n := 1) (d := 1) (by decide +kernel) (by decide +kernel) (by decide +kernel) (by decide +kernel)
theorem lq_o1 : LQ (Rat.divInt 0 1) [48] [49] := lq_of (n := 0) (d := 1) (by decide +kernel) (by decide +kernel) (by decide +kernel) (by decide +kernel)
theorem lq_o2 : LQ (Rat.divInt 1 1) [49] [49] := lq_of (n := 1) (d := 1) (by decide +kernel) (by decide +kernel) (by decide +kernel) (by decide +kernel)
theorem lq_o3 : LQ (Rat.divInt 1 10) [49] [49, 48] := lq_of (n := 1) (d := 10) (by decide +kernel) (by decide +kernel) (by decide +kernel) (by decide +kernel)
theorem lq_o4 : LQ (Rat.divInt 1 100) [49] [49, 48, 48] := lq_of (n := 1) (d := 100) (by decide +kernel) (by decide +kernel) (by decide +kernel) (by decide +kernel)
theorem lq_o5 : LQ (Rat.divInt 1 2) [49] [50] := lq_of (n := 1) (d := 2) (by decide +kernel) (by decide +kernel) (by decide +kernel) (by decide +kernel)
theorem lq_o6 : LQ (Rat.divInt 1 3) [49] [51] := lq_of (n := 1) (d := 3) (by decide +kernel) (by decide +kernel) (by decide +kernel) (by decide +kernel)
theorem lq_o7 : LQ (Rat.divInt 2 3) [50] [51] := lq_of (n := 2) (d := 3) (by decide +kernel) (by decide +kernel) (by decide +kernel) (by decide +kernel)
theorem lq_o8 : LQ (Rat.divInt 5 6) [53] [54] := lq_of (n := 5) (d := 6) (by decide +kernel) (by decide +kernel) (by decide +kernel) (by decide +kernel)
theorem lqf_o1 : Rq.Fq (Rat.divInt 0 1) := ⟨by unfold Ig.fits; decide +kernel, by unfold Ig.fits; decide +kernel⟩
theorem lqf_o4 : Rq.Fq (Rat.divInt 1 100) := ⟨by unfold Ig.fits; decide +kernel, by unfold Ig.fits; decide +kernel⟩
theorem le_1 : Tb.Le 3 1 (10 - 1) (Rat.divInt 1 100) 3 := ⟨by decide +kernel, fun j hj => by
  rcases (show j = 0 ∨ j = 1 ∨ j = 2 by omega) with rfl | rfl | rfl <;> decide +kernel⟩
theorem le_2 : Tb.Le 3 1 (10 - 1) (Rat.divInt 0 1) 4 := ⟨by decide +kernel, fun j hj => by
  rcases (show j = 0 ∨ j = 1 ∨ j = 2 ∨ j = 3 by omega) with rfl | rfl | rfl | rfl <;> decide +kernel⟩
def qs_A : List Rat := [Rat.divInt 1 2, Rat.divInt 1 3]
def r_A : Rat := Rat.divInt 5 6
theorem tx_A : qs_A.map txQ = [([49], [50]), ([49], [51])] := by
  show [txQ (Rat.divInt 1 2), txQ (Rat.divInt 1 3)] = _
  rw [show txQ (Rat.divInt 1 2) = ([49], [50]) from Prod.ext lq_o5.out.1 lq_o5.out.2, show txQ (Rat.divInt 1 3) = ([49], [51]) from Prod.ext lq_o6.out.1 lq_o6.out.2]
theorem un_A : ∀ q ∈ qs_A, Un q := by
  intro q hq
  simp only [qs_A, List.mem_cons, List.not_mem_nil, or_false] at hq
  rcases hq with rfl | rfl <;> exact ⟨⟨by unfold Ig.fits; decide +kernel, by unfold Ig.fits; decide +kernel⟩, by decide +kernel, by decide +kernel⟩
theorem cb_A : Kp (comb qs_A = some r_A) := ⟨by
  show addO (addO (some 0) (some (Rat.divInt 1 2))) (some (Rat.divInt 1 3)) = _
  rw [show addO (some 0) (some (Rat.divInt 1 2)) = some (0 + Rat.divInt 1 2) from opO_yes ⟨by unfold Ig.fits; decide +kernel, by unfold Ig.fits; decide +kernel, by unfold Ig.fits; decide +kernel, by unfold Ig.fits; decide +kernel⟩, show addO (some (0 + Rat.divInt 1 2)) (some (Rat.divInt 1 3)) = some (0 + Rat.divInt 1 2 + Rat.divInt 1 3) from opO_yes ⟨by unfold Ig.fits; decide +kernel, by unfold Ig.fits; decide +kernel, by unfold Ig.fits; decide +kernel, by unfold Ig.fits; decide +kernel⟩, show 0 + Rat.divInt 1 2 + Rat.divInt 1 3 = r_A by decide +kernel]⟩
def qs_B : List Rat := [Rat.divInt 1 2, Rat.divInt 2 3]
def r_B : Rat := Rat.divInt 7 6
theorem tx_B : qs_B.map txQ = [([49], [50]), ([50], [51])] := by
  show [txQ (Rat.divInt 1 2), txQ (Rat.divInt 2 3)] = _
  rw [show txQ (Rat.divInt 1 2) = ([49], [50]) from Prod.ext lq_o5.out.1 lq_o5.out.2, show txQ (Rat.divInt 2 3) = ([50], [51]) from Prod.ext lq_o7.out.1 lq_o7.out.2]
theorem un_B : ∀ q ∈ qs_B, Un q := by
  intro q hq
  simp only [qs_B, List.mem_cons, List.not_mem_nil, or_false] at hq
  rcases hq with rfl | rfl <;> exact ⟨⟨by unfold Ig.fits; decide +kernel, by unfold Ig.fits; decide +kernel⟩, by decide +kernel, by decide +kernel⟩
theorem cb_B : Kp (comb qs_B = some r_B) := ⟨by
  show addO (addO (some 0) (some (Rat.divInt 1 2))) (some (Rat.divInt 2 3)) = _
  rw [show addO (some 0) (some (Rat.divInt 1 2)) = some (0 + Rat.divInt 1 2) from opO_yes ⟨by unfold Ig.fits; decide +kernel, by unfold Ig.fits; decide +kernel, by unfold Ig.fits; decide +kernel, by unfold Ig.fits; decide +kernel⟩, show addO (some (0 + Rat.divInt 1 2)) (some (Rat.divInt 2 3)) = some (0 + Rat.divInt 1 2 + Rat.divInt 2 3) from opO_yes ⟨by unfold Ig.fits; decide +kernel, by unfold Ig.fits; decide +kernel, by unfold Ig.fits; decide +kernel, by unfold Ig.fits; decide +kernel⟩, show 0 + Rat.divInt 1 2 + Rat.divInt 2 3 = r_B by decide +kernel]⟩
theorem lq_c1 : LQ (lq1 r_A) [53] [54] := lq_of (n := 5) (d := 6) (by decide +kernel) (by decide +kernel) (by decide +kernel) (by decide +kernel)
theorem lq_c2 : LQ (lq1 r_B) [49] [49] := lq_of (n := 1) (d := 1) (by decide +kernel) (by decide +kernel) (by decide +kernel) (by decide +kernel)
theorem lq_c3 : LQ (lq1 0) [48] [49] := lq_of (n := 0) (d := 1) (by decide +kernel) (by decide +kernel) (by decide +kernel) (by decide +kernel)
theorem lq_b : LQ (lq1 (bst 5 (min 4 (5 + 1)) (max ([10, 20, 25, 30, 30] : List Int).length 1) 1 10)) [50, 51] [49, 48, 48, 48, 48] := lq_of (n := 23) (d := 10000) (by decide +kernel) (by decide +kernel) (by decide +kernel) (by decide +kernel)
end Go.Proofs.YtklelhkcbdajpaaGreatDoor

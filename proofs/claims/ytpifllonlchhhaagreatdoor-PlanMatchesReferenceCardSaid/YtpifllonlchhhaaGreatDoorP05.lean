/- Made of package dialtoneref12. text of package dialtonelaw12, Number of package dialtoneref12. -/
import Derived.Test.YtpifllonlchhhaaGreatDoorP04
namespace Go.Proofs.YtpifllonlchhhaaGreatDoor
set_option linter.unusedVariables false
set_option linter.unusedSimpArgs false
open Go.RowKit
def t3C (t : Pl.T3) : List Value := [.int .i64 t.a, .int .i64 t.b, .int .i64 t.c]
/-- a value that is a plan -/
def PlanV (p : List Pl.Cd) (v : Value) (w : World) : Prop := ∃ A cap, v = .slice A p.length cap ∧ At 3 codeC w w.heap.size A p ∧ p.length ≤ cap ∧ cap ≤ maxLen
theorem codeC_len (c : Pl.Cd) : (codeC c).length = 3 := rfl
theorem codeC_one (c : Pl.Cd) : ∀ u ∈ codeC c, u.oneCell' = true := by
  intro u hu
  simp only [codeC, List.mem_cons, List.not_mem_nil, or_false] at hu
  rcases hu with rfl | rfl | rfl <;> rfl
theorem codeI : ∃ i z, Tryz.prog.info? 29 = some i ∧ i.zero = some z ∧ i.size = 3 ∧ z.cells.size = 3 ∧ i.bytes = 40 := by
  have h : (Tryz.prog.info? 29).map (fun i => (i.size, i.bytes, i.zero.map (·.cells.size))) = some (3, 40, some 3) := by kernel_rfl
  cases hi : Tryz.prog.info? 29 with
  | none => rw [hi] at h; cases h
  | some i =>
    rw [hi] at h
    simp only [Option.map_some, Option.some.injEq, Prod.mk.injEq] at h
    obtain ⟨h1, h2, h3⟩ := h
    cases hz : i.zero with
    | none => rw [hz] at h3; cases h3
    | some z => rw [hz] at h3; exact ⟨i, z, rfl, hz, h1, by simpa using h3, h2⟩
theorem codesT : Tryz.prog.underlying 24 = some (.slice 29) := Tryz.underlying24
theorem wpList_append_codes {w : World} {ops : Array Oper} {rest : List Oper} {o : Oper} {a : Act} {Q : Exit → Act → World → Prop} (hgd : o.guard = none) (s y : Operand) (ho : o.op = .call { callee := .builtin .append, args := #[s, y], argTypes := #[24, 24] })
    (B cap n m : Nat) (flat news : List Value) (v x : Value) (hes : a.eval s = v) (hey : a.eval y = x) (hv : RowC 29 3 B cap n flat v w) (hB : B ≤ w.heap.size) (hs : Src Tryz.prog 3 24 x m news w) (hcm : cap ≤ maxLen) (h63 : n + m ≤ 1000000)
    (h : ∀ v' w' cap', Below B w w' → (n = cap → Below w.heap.size w w') → RowC 29 3 B cap' (n + m) (flat ++ news) v' w' → cap' ≤ maxLen → wpList Tryz.prog ops Q rest (a.put o.dst v') w') : wpList Tryz.prog ops Q (o :: rest) a w := by
  obtain ⟨i, z, hi, hz, hs3, hz3, hby⟩ := codeI
  exact wpList_append_row hgd s y _ _ ho i z 3 B cap n m flat news v x codesT hi hz hs3 hz3 hes hey hv hB hs hcm (by unfold maxLen; omega) (by rw [hby]; omega) h
theorem foldl_full (l : List Pl.T3) (p : List Pl.Cd) (h : 8 ≤ p.length) : l.foldl Pl.madeStep p = p := by
  induction l with
  | nil => rfl
  | cons x l ih => rw [List.foldl_cons]; unfold Pl.madeStep; rw [if_neg (by omega)]; exact ih
def Small (p : List Pl.Cd) : Prop := ∀ c ∈ p, c.old.length ≤ 1000 ∧ c.new.length ≤ 1000 ∧ -9223372036854775808 ≤ c.len ∧ c.len ≤ 9223372036854775807
theorem one_small (x : Pl.T3) : (Pl.one x).old.length ≤ 1000 ∧ (Pl.one x).new.length ≤ 1000 ∧ -9223372036854775808 ≤ (Pl.one x).len ∧ (Pl.one x).len ≤ 9223372036854775807 := by
  have p2 := pick_lt x.a 3 (by decide)
  have p4 := pick_lt x.b 3 (by decide)
  have l1 := pref_len (1 + Pl.pick x.a 3).toNat (Pl.pick (x.a.tdiv 3) 1000).toNat
  have l2 := pref_len (1 + Pl.pick x.b 3).toNat (Pl.pick (x.b.tdiv 3) 1000).toNat
  unfold Pl.one
  simp only
  generalize Pl.pref (Pl.pick (x.a.tdiv 3) 1000).toNat (1 + Pl.pick x.a 3).toNat = o at *
  generalize Pl.pref (Pl.pick (x.b.tdiv 3) 1000).toNat (1 + Pl.pick x.b 3).toNat = n at *
  have p5 := pick_lt x.c (min (7 - (o.length : Int)) (8 - (n.length : Int))) (by omega)
  omega
set_option maxRecDepth 100000 in
set_option maxHeartbeats 4000000 in
theorem Made_any (x : List Pl.T3) (A : Option Addr) (cap : Nat) (w : World) (hA : At 3 t3C w w.heap.size A x) (hn : x.length ≤ cap) (hlen : x.length ≤ maxLen) (hx : ∀ t ∈ x, I64 t.a ∧ I64 t.b ∧ I64 t.c) :
    Calls Tryz.prog 5 #[.slice A x.length cap] w fun e w' => ∃ v, e = .returned v ∧ Below w.heap.size w w' ∧ PlanV (Pl.made x) v w' := by
  go_enter Tryz.func5, Tryz.ntmps5
  go_wp2
  go_loopw [3, 4, 5] (fun s3 s4 s5 wr => ∃ (k : Nat) (p : List Pl.Cd), k ≤ x.length ∧ k ≤ 16 ∧ s4 = .int .i64 k ∧ PlanV p s3 wr ∧ p.length ≤ 8 ∧ Kp (p = (x.take k).foldl Pl.madeStep []) ∧ Kp (Small p) ∧ Below w.heap.size w wr) (fun s3 s4 s5 _ => x.length - (intOf s4).toNat)
  case atStart => exact ⟨0, [], Nat.zero_le _, Nat.zero_le _, rfl, ⟨none, 0, rfl, At.nil, Nat.le_refl _, Nat.zero_le _⟩, Nat.zero_le _, ⟨rfl⟩, ⟨fun c hc => by cases hc⟩, bStart _⟩
  case round =>
    obtain ⟨k, p, hk, hk16, rfl, ⟨Ap, capp, rfl, hAp, hpc, hcm⟩, hp8, hfold, hsm, hb⟩ := hrel
    rcases (show (¬ k < x.length ∨ (k < x.length ∧ ¬ k < 16) ∨ (k < x.length ∧ k < 16 ∧ ¬ p.length < 8)) ∨ (k < x.length ∧ k < 16 ∧ p.length < 8) by omega) with hd | ⟨g1, g2, g3⟩
    · have hfin : Kp (Pl.made x = p) := by
        constructor
        unfold Pl.made
        rcases hd with h | ⟨_, h⟩ | ⟨_, _, h⟩
        · rw [hfold.out, show k = x.length by omega, List.take_of_length_le (Nat.le_refl _), List.take_of_length_le (by omega)]
        · rw [hfold.out, show k = 16 by omega]
        · have : x.take 16 = x.take k ++ (x.take 16).drop k := by
            have h3 := List.take_append_drop k (x.take 16)
            rw [List.take_take, Nat.min_eq_left hk16] at h3
            exact h3.symm
          rw [this, List.foldl_append, ← hfold.out]
          exact foldl_full _ _ (by omega)
      rcases hd with h | ⟨h', h⟩ | ⟨h', h'', h⟩
      · have t1 : decide ((k : Int) < (x.length : Int)) = false := by simp; omega
        go_wp2
        go_ret
        exact ⟨_, rfl, hb, by rw [hfin.out]; exact ⟨Ap, capp, rfl, hAp, hpc, hcm⟩⟩
      · have t1 : decide ((k : Int) < (x.length : Int)) = true := by simp; omega
        have t2 : decide ((k : Int) < 16) = false := by simp; omega
        go_wp2
        go_ret
        exact ⟨_, rfl, hb, by rw [hfin.out]; exact ⟨Ap, capp, rfl, hAp, hpc, hcm⟩⟩
      · have t1 : decide ((k : Int) < (x.length : Int)) = true := by simp; omega
        have t2 : decide ((k : Int) < 16) = true := by simp; omega
        have t3 : decide ((p.length : Int) < 8) = false := by simp; omega
        go_wp2
        go_ret
        exact ⟨_, rfl, hb, by rw [hfin.out]; exact ⟨Ap, capp, rfl, hAp, hpc, hcm⟩⟩
    · have t1 : decide ((k : Int) < (x.length : Int)) = true := by simp; omega
      have t2 : decide ((k : Int) < 16) = true := by simp; omega
      have t3 : decide ((p.length : Int) < 8) = true := by simp; omega
      obtain ⟨b, off, rfl, hbB, hcell⟩ := hA (by omega)
      have hck : x[k]? = some x[k] := List.getElem?_eq_getElem g1
      have c0 : wr.cell? ⟨b, off + k * 3, none⟩ = some (.int .i64 (x[k]).a) := (hb.cell (p := ⟨b, _, none⟩) hbB).trans (hcell k _ hck 0 _ rfl)
      have c1 : wr.cell? ⟨b, off + k * 3 + 1, none⟩ = some (.int .i64 (x[k]).b) := (hb.cell (p := ⟨b, _, none⟩) hbB).trans (hcell k _ hck 1 _ rfl)
      have c2 : wr.cell? ⟨b, off + k * 3 + 2, none⟩ = some (.int .i64 (x[k]).c) := (hb.cell (p := ⟨b, _, none⟩) hbB).trans (hcell k _ hck 2 _ rfl)
      have hbw : b < wr.heap.size := Nat.lt_of_lt_of_le hbB hb.size
      obtain ⟨x1, x2, x3⟩ := hx x[k] (List.getElem_mem g1)
      generalize x[k] = t at *
      go_wp2
      have cc := fun w1 (hb1 : Below wr.heap.size wr w1) => (hb1.cell (p := ⟨b, off + k * 3, none⟩) hbw).trans c0
      have cd := fun w1 (hb1 : Below wr.heap.size wr w1) => (hb1.cell (p := ⟨b, off + k * 3 + 1, none⟩) hbw).trans c1
      have ce := fun w1 (hb1 : Below wr.heap.size wr w1) => (hb1.cell (p := ⟨b, off + k * 3 + 2, none⟩) hbw).trans c2
      have hone := one_small t
      refine wp_region_rgl [RowC 29 3 wr.heap.size 0 0 [], Eqv (.slice Ap p.length capp), RowN 29 3 wr.heap.size p.length (p.flatMap codeC), Eqv (.slice (some ⟨b, off, none⟩) x.length cap), Eqv (.int .i64 k),
        Eqv (.pointer (some ⟨b, off + k * 3, none⟩)), Eqv (.agg #[.int .i64 t.a, .int .i64 t.b, .int .i64 t.c]), Eqv (codeV (Pl.one t)), RowC 29 3 wr.heap.size 1 1 (codeC (Pl.one t))] 9 35 (by kernel_rfl) rfl rfl (by kernel_rfl) ?_ ?_ ?_
      · simp only [AllS]
        repeat' apply And.intro
        all_goals first | exact stab_eqv _ | exact stab_rowC _ _ _ _ _ _ | exact stab_rowN _ _ _ _ _ | trivial
      · simp only [Users, List.take, List.length]
        refine ⟨?_, ?_, ?_, ?_, ?_, ?_, ?_, ?_, ?_, trivial⟩
        all_goals (intro vs w1 hb1 hd; have c3 := cc w1 hb1; have c4 := cd w1 hb1; have c5 := ce w1 hb1; clear cc cd ce c0 c1 c2 t1 t2 t3 hcell hA hx hone; simp only [putD, Act.put, List.nil_append, List.cons_append, List.setIfInBounds_toArray, List.set_cons_succ, List.set_cons_zero, Nat.reduceAdd])
        · clear hd c3 c4 c5; go_wp2; exact ⟨(Below.refl _ _).alloc (Nat.le_refl _) _, _, _, rfl, hb1.size, Nat.le_refl _, Bx.mk _ _ _, rfl, rfl⟩
        · clear hd; go_wp2; exact ⟨Below.refl _ _, rfl⟩
        · have h0 : RowC 29 3 wr.heap.size 0 0 [] (vs 0) w1 := hd 0 rfl
          have h1 : vs 1 = .slice Ap p.length capp := hd 1 rfl
          clear hd
          rw [h1]
          refine wpList_append_codes rfl (.tmp 21) (.tmp 22) rfl wr.heap.size 0 0 p.length [] (p.flatMap codeC) (vs 0) (.slice Ap p.length capp) rfl rfl h0 hb1.size ((hAp.below hb1).src codeC_len codeC_one codesT capp) (by decide) (by omega) ?_
          intro v' w' cap' e1 e2 e3 e4
          exact ⟨rfl, rfl, e2 rfl, ⟨cap', by rw [Nat.zero_add, List.nil_append] at e3; exact e3, e4⟩⟩
        · clear hd; go_wp2; exact ⟨Below.refl _ _, rfl⟩
        · clear hd; go_wp2; exact ⟨Below.refl _ _, rfl⟩
        · (have hdep3 := hd 3 rfl; conv at hdep3 => whnf); (have hdep4 := hd 4 rfl; conv at hdep4 => whnf)
          clear hd; go_wp2; exact ⟨Below.refl _ _, rfl⟩
        · (have hdep5 := hd 5 rfl; conv at hdep5 => whnf)
          clear hd; go_wp2; exact ⟨Below.refl _ _, rfl⟩
        · (have hdep6 := hd 6 rfl; conv at hdep6 => whnf)
          clear hd
          go_wp2_with (go_at_call 23; refine (One_any t.a t.b t.c x1 x2 x3 _).mono ?_; rintro _ w9 ⟨rfl, hb9⟩)
          rfl
        · have h7 : vs 7 = .agg #[.string ⟨(Pl.one t).old.toArray⟩, .string ⟨(Pl.one t).new.toArray⟩, .int .i64 (Pl.one t).len] := hd 7 rfl
          clear hd
          rw [h7]
          go_wp2
          exact ⟨(Below.refl _ _).alloc (Nat.le_refl _) _, _, _, rfl, hb1.size, Nat.le_refl _, Bx.mk _ _ _, rfl, rfl⟩
      · clear cc cd ce c0 c1 c2 hcell hA hx
        intro vs w1 hb1 hR
        simp only [AllR, Eqv] at hR
        obtain ⟨e0, e1, ⟨cap2, e2, hm2⟩, e3, e4, e5, e6, e7, e8, -⟩ := hR
        simp only [List.drop, List.take, List.map, putD, Act.put, List.setIfInBounds_toArray, List.set_cons_succ, List.set_cons_zero, Nat.reduceAdd]
        refine wpList_append_codes rfl (.tmp 23) (.tmp 29) rfl wr.heap.size cap2 p.length 1 (p.flatMap codeC) (codeC (Pl.one t)) (vs 2) (vs 8) rfl rfl e2 hb1.size (e8.src (codeC_one _) codesT) hm2 (by omega) ?_
        intro v' w' cap' f1 f2 f3 f4
        have f5 : RowC 29 3 wr.heap.size cap' (p ++ [Pl.one t]).length ((p ++ [Pl.one t]).flatMap codeC) v' w' := by simpa using f3
        obtain ⟨A2, rfl, hA2, hlen2⟩ := f5.at codeC_len
        have hb2 := hb1.trans f1
        clear f1 f2 f3 f5 e0 e1 e2 e3 e4 e5 e6 e7 e8
        obtain ⟨q, hq⟩ : ∃ q, Kp (q = p ++ [Pl.one t]) := ⟨_, ⟨rfl⟩⟩
        rw [← hq.out] at hA2 hlen2 ⊢
        have hql : q.length = p.length + 1 := by rw [hq.out]; simp
        have hqs : Kp (Small q) := ⟨by
          intro c hc
          rw [hq.out] at hc
          rcases List.mem_append.1 hc with h | h
          · exact hsm.out c h
          · obtain rfl : c = Pl.one t := by simpa using h
            exact hone⟩
        have hAp2 := (hAp.below hb2).more hb2.size
        have hfs : Kp ((x.take (k + 1)).foldl Pl.madeStep [] = if Pl.valid q then q else p) := ⟨by
          rw [List.take_add_one, hck]
          simp only [Option.toList_some, List.foldl_append, List.foldl_cons, List.foldl_nil]
          rw [← hfold.out, hq.out]
          unfold Pl.madeStep
          rw [if_pos g3]⟩
        have hq8 : q.length ≤ 8 := by omega
        have hbw2 := bCall hb hb2
        clear hfold hql hq hb1 hm2 hck hb2 hAp hb t1 t2 t3 hone
        simp only [Act.put, List.setIfInBounds_toArray, List.set_cons_succ, List.set_cons_zero]
        generalize vs 0 = z0, vs 1 = z1, vs 2 = z2, vs 3 = z3, vs 4 = z4, vs 5 = z5, vs 6 = z6, vs 7 = z7, vs 8 = z8
        have hc := fun w0 (h0 : At 3 codeC w0 w0.heap.size A2 q) => refValid_any q A2 cap' w0 h0 hlen2 hqs.out
        cases hv : Pl.valid q
        · rw [hv] at hfs hc
          simp only [Bool.false_eq_true, if_false] at hfs
          clear hv
          go_wp2_with (go_at_call 19; refine (hc _ (by assumption)).mono ?_; rintro e w8 ⟨rfl, hb8⟩)
          go_roundw
          case rel => exact ⟨k + 1, p, by omega, by omega, by go_num, ⟨Ap, capp, rfl, (hAp2.below hb8).more hb8.size, hpc, hcm⟩, by omega, ⟨hfs.out.symm⟩, ‹_›, bCall hbw2 hb8⟩
          case measure => simp [intOf]; omega
        · rw [hv] at hfs hc
          simp only [if_true] at hfs
          clear hv
          go_wp2_with (go_at_call 19; refine (hc _ (by assumption)).mono ?_; rintro e w8 ⟨rfl, hb8⟩)
          go_roundw
          case rel => exact ⟨k + 1, q, by omega, by omega, by go_num, ⟨A2, cap', rfl, (hA2.below hb8).more hb8.size, hlen2, f4⟩, hq8, ⟨hfs.out.symm⟩, hqs, bCall hbw2 hb8⟩
          case measure => simp [intOf]; omega
end Go.Proofs.YtpifllonlchhhaaGreatDoor
namespace Go.Proofs.YtpifllonlchhhaaGreatDoor
set_option linter.unusedVariables false
set_option linter.unusedSimpArgs false
open Go.RowKit
def intC (c : Int) : List Value := [.int .i64 c]
set_option maxRecDepth 100000 in
set_option maxHeartbeats 1000000 in
theorem text_any (x : List Int) (A : Option Addr) (cap : Nat) (w : World) (hA : At 1 intC w w.heap.size A x) (hn : x.length ≤ cap) (hlen : x.length ≤ maxLen) (hx : ∀ t ∈ x, I64 t) :
    Calls Tryz.prog 8 #[.slice A x.length cap] w fun e w' => e = .returned (.string ⟨(Pl.text x).toArray⟩) ∧ Below w.heap.size w w' := by
  go_enter Tryz.func8, Tryz.ntmps8
  go_wp2
  go_loopw [3, 4] (fun out i wr => ∃ k : Nat, ∃ l : List UInt8, k ≤ x.length ∧ k ≤ 17 ∧ i = .int .i64 k ∧ out = .string ⟨l.toArray⟩ ∧ Kp (l = Pl.text (x.take k)) ∧ l.length ≤ k ∧ Below w.heap.size w wr) (fun _ i _ => x.length - (intOf i).toNat)
  case atStart => exact ⟨0, [], Nat.zero_le _, Nat.zero_le _, rfl, rfl, ⟨by simp [Pl.text]⟩, by simp, Below.refl _ _⟩
  case round =>
    obtain ⟨k, l, hk, hk17, rfl, rfl, hl, hll, hb⟩ := hrel
    rcases (show (¬ k < x.length ∨ (k < x.length ∧ ¬ k < 17)) ∨ (k < x.length ∧ k < 17) by omega) with hd | ⟨g1, g2⟩
    · have hfin : Kp (l = Pl.text x) := by
        constructor
        rw [hl.out]
        unfold Pl.text
        rcases hd with h | ⟨_, h⟩
        · rw [List.take_of_length_le (show x.length ≤ k by omega)]
        · rw [show k = 17 by omega, List.take_take]; rfl
      rcases hd with h | ⟨h', h⟩
      · have t1 : decide ((k : Int) < (x.length : Int)) = false := by simp; omega
        go_wp2
        go_ret
        exact ⟨ret_str hfin.out, hb⟩
      · have t1 : decide ((k : Int) < (x.length : Int)) = true := by simp; omega
        have t2 : decide ((k : Int) < 17) = false := by simp; omega
        go_wp2
        go_ret
        exact ⟨ret_str hfin.out, hb⟩
    · have t1 : decide ((k : Int) < (x.length : Int)) = true := by simp; omega
      have t2 : decide ((k : Int) < 17) = true := by simp; omega
      obtain ⟨b, off, rfl, hbB, hcell⟩ := hA (by omega)
      have hck : x[k]? = some x[k] := List.getElem?_eq_getElem g1
      have c0 : wr.cell? ⟨b, off + k, none⟩ = some (.int .i64 x[k]) := by
        have := (hb.cell (p := ⟨b, _, none⟩) hbB).trans (hcell k _ hck 0 _ rfl)
        simpa using this
      obtain ⟨x1, x2⟩ := hx x[k] (List.getElem_mem g1)
      have hnext : Kp (l ++ [48 + UInt8.ofNat (Pl.pick x[k] 10).toNat] = Pl.text (x.take (k + 1))) := by
        constructor
        rw [hl.out]
        unfold Pl.text
        rw [List.take_take, List.take_take, Nat.min_eq_right (by omega), Nat.min_eq_right (by omega), List.take_add_one, hck, List.map_append]
        rfl
      clear hck hcell hA hx
      generalize x[k] = t at *
      have p1 := pick_lt t 10 (by decide)
      generalize hd : Pl.pick t 10 = d at *
      obtain ⟨d, rfl⟩ := Int.eq_ofNat_of_zero_le p1.1
      have hc := fun w0 => pickLaw_any t 10 (by decide) x1 x2 w0
      rw [hd] at hc
      clear hd
      go_wp2_with (go_at_call 9; refine (hc _).mono ?_; rintro e w8 ⟨rfl, rfl⟩)
      go_roundw
      case rel => exact ⟨k + 1, l ++ [48 + UInt8.ofNat d], by omega, by omega, by go_num, by simp, by simpa using hnext, by simp; omega, hb.alloc hb.size _⟩
      case measure => simp [intOf]; omega
theorem tdiv16_in {a : Int} (h : I64 a) : -9223372036854775808 ≤ a.tdiv 16 ∧ a.tdiv 16 ≤ 9223372036854775807 := by
  obtain ⟨h1, h2⟩ := h
  by_cases h : 0 ≤ a
  · rw [Int.tdiv_eq_ediv_of_nonneg h]; omega
  · obtain ⟨b, rfl⟩ : ∃ b, a = -b := ⟨-a, by omega⟩
    rw [Int.neg_tdiv, Int.tdiv_eq_ediv_of_nonneg (by omega)]; omega
structure PickK (c n z : Int) : Prop where
  pos : 0 < n
  lo : -9223372036854775808 ≤ c
  hi : c ≤ 9223372036854775807
  eq : Pl.pick c n = z
theorem pickRef_k {c n z : Int} {w : World} (h : PickK c n z) : Calls Tryz.prog 24 #[.int .i64 c, .int .i64 n] w fun e w' => e = .returned (.int .i64 z) ∧ w = w' := by
  have := pickRef_any c n h.pos h.lo h.hi w
  rwa [h.eq] at this
theorem pickLaw_k {c n z : Int} {w : World} (h : PickK c n z) : Calls Tryz.prog 9 #[.int .i64 c, .int .i64 n] w fun e w' => e = .returned (.int .i64 z) ∧ w = w' := by
  have := pickLaw_any c n h.pos h.lo h.hi w
  rwa [h.eq] at this
set_option maxRecDepth 100000 in
set_option maxHeartbeats 4000000 in
theorem Number_any (p : List Pl.Cd) (A : Option Addr) (cap : Nat) (which n : Int) (w : World) (hA : At 3 codeC w w.heap.size A p) (hn : p.length ≤ cap) (hs : Small p) (hl : p.length ≤ 1000) (h1 : I64 which) (h2 : I64 n)
    (hr : 0 < p.length → ∀ i ph : Int, 0 ≤ i → i < p.length → 1 ≤ ph → ph ≤ 3 → 0 ≤ (Pl.range p i ph).1 ∧ (Pl.range p i ph).1 < (Pl.range p i ph).2.1 ∧ (Pl.range p i ph).2.1 ≤ 1000000000) :
    Calls Tryz.prog 6 #[.slice A p.length cap, .int .i64 which, .int .i64 n] w fun e w' => e = .returned (.int .i64 (Pl.number p which n)) ∧ Below w.heap.size w w' := by
  have q := tdiv16_in h1
  obtain ⟨a1, a2⟩ := h1
  obtain ⟨b1, b2⟩ := h2
  obtain ⟨c1, c2⟩ := q
  have hp16 : PickK which 16 (Pl.pick which 16) := ⟨by decide, a1, a2, rfl⟩
  have hpn : PickK n 100000000 (Pl.pick n 100000000) := ⟨by decide, b1, b2, rfl⟩
  by_cases h0 : p.length = 0
  · have hfin : Kp (Pl.number p which n = Pl.pick n 100000000) := ⟨by unfold Pl.number; rw [if_pos (.inl h0)]⟩
    have t1 : ((p.length : Int) == 0) = true := by simp [h0]
    clear hr hp16 hs
    go_enter Tryz.func6, Tryz.ntmps6
    go_wp2_with (go_at_call 24; refine (pickRef_k (by assumption)).mono ?_; rintro e w8 ⟨rfl, rfl⟩)
    go_ret
    exact ⟨ret_int hfin.out.symm, Below.refl _ _⟩
  · have t1 : ((p.length : Int) == 0) = false := by simp [h0]
    by_cases h15 : Pl.pick which 16 = 15
    · have hfin : Kp (Pl.number p which n = Pl.pick n 100000000) := ⟨by unfold Pl.number; rw [if_pos (.inr h15)]⟩
      rw [h15] at hp16
      clear hr h15
      go_enter Tryz.func6, Tryz.ntmps6
      go_wp2_with (go_at_call 24; refine (pickRef_k (by assumption)).mono ?_; rintro e w8 ⟨rfl, rfl⟩)
      go_ret
      exact ⟨ret_int hfin.out.symm, Below.refl _ _⟩
    · have t2 : (Pl.pick which 16 == 15) = false := by simp [h15]
      have hpos : 0 < p.length := by omega
      have k1 := pick_lt (which.tdiv 16) p.length (by omega)
      have k2 := pick_lt which 3 (by decide)
      have k3 := hr hpos (Pl.pick (which.tdiv 16) p.length) (1 + Pl.pick which 3) k1.1 k1.2 (by omega) (by omega)
      have hfin : Kp (Pl.number p which n = (Pl.range p (Pl.pick (which.tdiv 16) p.length) (1 + Pl.pick which 3)).1 + Pl.pick n ((Pl.range p (Pl.pick (which.tdiv 16) p.length) (1 + Pl.pick which 3)).2.1 - (Pl.range p (Pl.pick (which.tdiv 16) p.length) (1 + Pl.pick which 3)).1)) := ⟨by unfold Pl.number; rw [if_neg (by omega)]⟩
      have hpl : PickK (which.tdiv 16) p.length (Pl.pick (which.tdiv 16) p.length) := ⟨by omega, c1, c2, rfl⟩
      have hp3 : PickK which 3 (Pl.pick which 3) := ⟨by decide, a1, a2, rfl⟩
      generalize Pl.pick (which.tdiv 16) p.length = i at *
      generalize Pl.pick which 3 = j at *
      generalize Pl.pick which 16 = m16 at *
      have hrg := fun w0 (h : At 3 codeC w0 w0.heap.size A p) => refRange_any p A cap i (1 + j) w0 h hn hs hl
      generalize Pl.range p i (1 + j) = r at *
      obtain ⟨ra, rb, re⟩ := r
      simp only at k3 hfin
      simp only [rangeV] at hrg
      have k4 := pick_lt n (rb - ra) (by omega)
      have hpr : PickK n (rb - ra) (Pl.pick n (rb - ra)) := ⟨by omega, b1, b2, rfl⟩
      generalize Pl.pick n (rb - ra) = z at *
      clear h15 hr hpn h0 hpos hs
      go_enter Tryz.func6, Tryz.ntmps6
      go_wp2_with (first
        | (go_at_call 24; refine (pickRef_k (by assumption)).mono ?_; rintro e w8 ⟨rfl, rfl⟩)
        | (go_at_call 13; refine (hrg _ (by assumption)).mono ?_; rintro e w8 ⟨rfl, hb8⟩))
      have B1 := (Bx.mk w8 40 #[.int .i64 ra, .int .i64 rb])
      have b1 := bNew hb8 (.cells #[.int .i64 ra, .int .i64 rb] 40)
      have g0 := fun d os => (B1.again d os).cell 0 rfl
      have g1 := fun d os => (B1.again d os).cell 1 rfl
      have hs : Kp (Pl.number p which n = ra + z) := ⟨hfin.out⟩
      clear hfin hb8 hA hrg hp16 hpl hp3
      refine wp_region_quiet_below (by kernel_rfl) (by kernel_rfl) ?_
      repeat (go_big_quiet_step (first | (go_at_call 24; exact Calls.regrown_of (calls_below (pickRef_k hpr)))))
      refine wpQuiet_nil ?_
      rintro _ ⟨q, rfl⟩
      go_wp2
      go_ret
      exact ⟨ret_int hs.out.symm, bAgain b1 q.d q.os⟩
end Go.Proofs.YtpifllonlchhhaaGreatDoor

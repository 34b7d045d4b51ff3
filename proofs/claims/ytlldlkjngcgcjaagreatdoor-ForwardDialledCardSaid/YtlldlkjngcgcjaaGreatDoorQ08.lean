/- sane of the law package: the law's own examples. pick of the reference and of the law; Part and One of the reference. formed and Settings of the reference, at formed settings. Part of the reference. One of the reference. One store of two cells into memory that a drawn region makes: what is used. Appending to a slice that a drawn region has made: what stays, whatever the order. Appending to an empty slice that a drawn region has made. Made of the reference. -/
import Derived.Test.YtlldlkjngcgcjaaGreatDoorQ06
import Derived.Test.YtlldlkjngcgcjaaGreatDoorQ07
import Derived.Test.YtlldlkjngcgcjaaGreatDoorQ03
namespace Go.Proofs.YtlldlkjngcgcjaaGreatDoor
set_option linter.unusedVariables false
set_option linter.unusedSimpArgs false
open Go.RowKit Go.Shelf
attribute [local go_sem] Oper.semAt_some
theorem wpList_want {P : Program} {ops : Array Oper} {rest : List Oper} {o : Oper} {a : Act} {w : World} {Q : Exit → Act → World → Prop} (hw : Region.wanted o (yielded ops a.tmps) = true) (h : wpList P ops Q ({ o with guard := none } :: rest) a w) : wpList P ops Q (o :: rest) a w := by
  simp only [wpList] at h ⊢
  rw [if_pos hw]
  rw [if_pos (by simp [Region.wanted])] at h
  exact h
theorem conI : ∃ i z, Tryz.prog.info? 54 = some i ∧ i.zero = some z ∧ i.size = 2 ∧ z.cells.size = 2 ∧ i.bytes = 16 := by
  have h : (Tryz.prog.info? 54).map (fun i => (i.size, i.bytes, i.zero.map (·.cells.size))) = some (2, 16, some 2) := by kernel_rfl
  cases hi : Tryz.prog.info? 54 with
  | none => rw [hi] at h; cases h
  | some i =>
    rw [hi] at h
    simp only [Option.map_some, Option.some.injEq, Prod.mk.injEq] at h
    obtain ⟨h1, h2, h3⟩ := h
    cases hz : i.zero with
    | none => rw [hz] at h3; cases h3
    | some z =>
      rw [hz] at h3
      simp only [Option.map_some, Option.some.injEq] at h3
      exact ⟨i, z, rfl, hz, h1, h3, h2⟩
theorem cdC_one (c : Int × Int) : ∀ u ∈ cdC c, u.oneCell' = true := fun u hu => by
  simp only [cdC, List.mem_cons, List.not_mem_nil, or_false] at hu
  rcases hu with rfl | rfl <;> rfl
theorem rs_bad : resR seL [] (-1) 0 = ⟨0, [], []⟩ ∧ resE seL [] (-1) 0 = 220 := res_f fun h => by have := h.2.2.2.1.1; omega
theorem dial_1 : dialR (Pl.read plP [49, 50, 53, 54, 55] 2) ([49, 50, 53, 54, 55] : List UInt8).length 10 2 0 9 = (⟨10, 2, 34000567, 0, 9⟩, 0) := by
  rw [read_1]; exact dialR_t ⟨rfl, rfl, rfl, Tw.fm_of (by decide)⟩
theorem dial_2 : dialR (Pl.read plP [51, 52, 48, 48, 48, 53, 54, 55] 2) ([51, 52, 48, 48, 48, 53, 54, 55] : List UInt8).length 10 2 0 9 = (⟨10, 2, 34000567, 0, 9⟩, 0) := by
  rw [read_2]; exact dialR_t ⟨rfl, rfl, rfl, Tw.fm_of (by decide)⟩
theorem dial_3 : dialR (Pl.read plP [49, 50, 53, 54, 55, 56] 2) ([49, 50, 53, 54, 55, 56] : List UInt8).length 10 2 0 9 = (⟨0, 0, 0, 0, 0⟩, 220) := by
  rw [read_3]; exact dialR_f fun h => by have := h.2.2.1; simp at this
def adR : Tw.St := ⟨10, 1, 20, 0, 1000⟩
theorem val_2 : valB seL [(20, 2), (30, 2)] = true := valB_iff.2 ⟨va_seP, by decide, vc_2⟩
theorem val_3 : valB (seL ++ [adR]) [] = false := by
  cases h : valB (seL ++ [adR]) [] with
  | false => rfl
  | true => exact absurd (valB_iff.1 h).1 not_va2
theorem ck_0 : ckB seL [] 10 100 ⟨0, [], []⟩ = false := ckB_f fun h => by
  have h2 := h.2
  rw [show Tw.route seL [] 10 100 = _ from route_1] at h2
  have := congrArg Rq.kind h2
  simp [toQ] at this
theorem ls_se : lsR seL 600 = [] ∧ lsE seL 600 = 0 := by
  obtain ⟨h1, h2⟩ := ls_t (l := seL) (t := 600) ⟨va_seP, by decide, by decide⟩
  exact ⟨h1.trans loops_se, h2⟩
theorem ls_ad : lsR (seL ++ [adP]) 600 = [[10, 20, 30]] ∧ lsE (seL ++ [adP]) 600 = 0 := by
  obtain ⟨h1, h2⟩ := ls_t (l := seL ++ [adP]) (t := 600) ⟨va_adP, by decide, by decide⟩
  exact ⟨h1.trans loops_ad, h2⟩
theorem tm_ad : tmL (seP ++ [adP]) adP = [100, 500] := by
  unfold tmL; rw [times_ad]; simp [List.mergeSort, List.MergeSort.Internal.splitInTwo, List.merge]
theorem tm_aq : tmL (seP ++ [adQ]) adQ = [100] := by
  unfold tmL; rw [times_aq]; simp
theorem cr_ad : crR seL adP = some (500, [10, 20, 30]) := by
  refine (cr_t ⟨va_adP, rfl⟩).trans ?_
  rw [tm_ad]
  show (Tw.firstL (seP ++ [adP]) 20 [100, 500]).map _ = _
  rw [first_ad]
  rfl
theorem cr_aq : crR seL adQ = none := by
  refine (cr_t ⟨va_adQ, rfl⟩).trans ?_
  rw [tm_aq]
  show (Tw.firstL (seP ++ [adQ]) 20 [100]).map _ = _
  rw [first_aq]
  rfl
set_option maxRecDepth 100000 in
set_option maxHeartbeats 8000000 in
theorem sane_any (w : World) : Calls Tryz.prog 4 #[] w fun e w' => e = .returned (.bool true) ∧ Below w.heap.size w w' := by
  obtain ⟨ti, tz, hti, hzz, hs1, hz1, hby⟩ := conI
  obtain ⟨si, sz, hsi, hsz, hss1, hsz1, hsby⟩ := setI
  have hb := bNx w (.cells #[.int .i64 20, .int .i64 2] 54)
  have B1 := Bx.mk w 54 #[.int .i64 20, .int .i64 2]
  have hs1w : (w.alloc (.cells #[.int .i64 20, .int .i64 2] 54)).heap.size = w.heap.size + 1 := by simp only [World.size_alloc]
  go_enter Tryz.func4, Tryz.ntmps4
  have B12 := B1.call (bNx (w.alloc (.cells #[.int .i64 20, .int .i64 2] 54)) (.cells #[.int .i64 30, .int .i64 2] 54))
  have B2 := Bx.mk (w.alloc (.cells #[.int .i64 20, .int .i64 2] 54)) 54 #[.int .i64 30, .int .i64 2]
  have hb2 := bNew hb (.cells #[.int .i64 30, .int .i64 2] 54)
  rw [hs1w] at B2
  have hw2 : w.heap.size ≤ ((w.alloc (.cells #[.int .i64 20, .int .i64 2] 54)).alloc (.cells #[.int .i64 30, .int .i64 2] 54)).heap.size := hb2.size
  have hsrc : Src Tryz.prog 2 55 (.slice (some ⟨w.heap.size + 1, 0, none⟩) 1 1) 1 (cdC (30, 2)) ((w.alloc (.cells #[.int .i64 20, .int .i64 2] 54)).alloc (.cells #[.int .i64 30, .int .i64 2] 54)) := RowC.src (P := Tryz.prog) (B := w.heap.size) (cap := 1) (e := 54) (t := 55) (cdC_one (30, 2)) Tryz.underlying55 ⟨w.heap.size + 1, _, rfl, Nat.le_succ _, Nat.le_refl _, B2, rfl, rfl⟩
  have hrow : RowC 54 2 w.heap.size 1 1 (cdC (20, 2)) (.slice (some ⟨w.heap.size, 0, none⟩) 1 1) ((w.alloc (.cells #[.int .i64 20, .int .i64 2] 54)).alloc (.cells #[.int .i64 30, .int .i64 2] 54)) := ⟨w.heap.size, _, rfl, Nat.le_refl _, Nat.le_refl _, B12, rfl, rfl⟩
  clear hs1w
  go_wp2_with (at_builtin; refine wpList_append_row rfl (.tmp 27) (.tmp 29) 55 54 rfl ti tz 2 w.heap.size 1 1 1 (cdC (20, 2)) (cdC (30, 2)) _ _ Tryz.underlying55 hti hzz hs1 hz1 rfl rfl hrow hw2 hsrc (by decide) (by decide) (by rw [hby]; decide) ?_; intro v2 w2 k2 q1 q2 q3 q4; replace q1 := Kp.mk q1; replace q2 := Kp.mk q2; replace q3 := Kp.mk q3)
  have hk2 := q2.out trivial
  have hC1 : At 2 cdC w2 w2.heap.size (some ⟨w.heap.size, 0, none⟩) [(20, 2)] := by
    obtain ⟨A, e, k1, -⟩ := RowC.at (p := [((20 : Int), (2 : Int))]) (f := cdC) (fun _ => rfl) (show RowC 54 2 w.heap.size 1 1 ([((20 : Int), (2 : Int))].flatMap cdC) (.slice (some ⟨w.heap.size, 0, none⟩) 1 1) w2 from ⟨w.heap.size, _, rfl, Nat.le_refl _, Nat.le_refl _, B12.call hk2, rfl, rfl⟩)
    simp only [List.length_cons, List.length_nil, Nat.zero_add, Value.slice.injEq] at e
    obtain ⟨rfl, -⟩ := e
    exact k1
  obtain ⟨C2, rfl, hC2, hC2c⟩ := RowC.at (p := [((20 : Int), (2 : Int)), (30, 2)]) (f := cdC) (fun _ => rfl) (show RowC 54 2 w.heap.size k2 [((20 : Int), (2 : Int)), (30, 2)].length ([((20 : Int), (2 : Int)), (30, 2)].flatMap cdC) v2 w2 from q3.out)
  replace hb := hb2.trans q1.out
  clear hk2 q1 q2 q3 hrow hsrc hw2 hb2 B12 B1 B2 hti hzz hs1 hz1 hby
  refine (settings_any _).mono ?_
  rintro _ w3 ⟨A3, rfl, hb1, hA3, -⟩
  replace hC1 := hC1.callx hb1
  replace hC2 := hC2.callx hb1
  replace hb := bCall hb hb1
  clear hb1
  go_wp2_with fail
  refine (loops_any seL A3 3 600 _ hA3 (Nat.le_refl _) (by decide)).mono ?_
  rintro _ w4 ⟨v3, rfl, hb1, hL3⟩
  replace hC1 := hC1.callx hb1
  replace hC2 := hC2.callx hb1
  replace hA3 := hA3.callx hb1
  replace hb := bCall hb hb1
  clear hb1 hA3
  rw [ls_se.1] at hL3
  rw [ls_se.2]
  go_wp2_with fail
  refine (settings_any _).mono ?_
  rintro _ w5 ⟨A5, rfl, hb1, -, hR5⟩
  replace hC1 := hC1.callx hb1
  replace hC2 := hC2.callx hb1
  replace hL3 := hL3.call hb1
  replace hb := bCall hb hb1
  have hbA : Below w5.heap.size w5 (w5.alloc (.cells #[.int .i64 20, .int .i64 1, .int .i64 30, .int .i64 100, .int .i64 2000] 33)) := bNew (Below.refl _ _) _
  have B5 := Bx.mk w5 33 #[.int .i64 20, .int .i64 1, .int .i64 30, .int .i64 100, .int .i64 2000]
  have hsrc : Src Tryz.prog 5 41 (.slice (some ⟨w5.heap.size, 0, none⟩) 1 1) 1 (stC adP) (w5.alloc (.cells #[.int .i64 20, .int .i64 1, .int .i64 30, .int .i64 100, .int .i64 2000] 33)) := RowC.src (P := Tryz.prog) (B := 0) (cap := 1) (e := 33) (t := 41) (stC_one adP) Tryz.underlying41 ⟨w5.heap.size, _, rfl, Nat.zero_le _, Nat.le_refl _, B5, rfl, rfl⟩
  obtain ⟨g5, cells5, e5, r1, r2, r3, r4, r5⟩ := hR5
  simp only [Value.slice.injEq] at e5
  obtain ⟨rfl, -⟩ := e5
  have hrow : RowC 33 5 0 3 3 (seL.flatMap stC) (.slice (some ⟨g5, 0, none⟩) 3 3) (w5.alloc (.cells #[.int .i64 20, .int .i64 1, .int .i64 30, .int .i64 100, .int .i64 2000] 33)) := ⟨g5, cells5, rfl, Nat.zero_le _, Nat.le_refl _, r3.call hbA, r4, r5⟩
  replace hC1 := hC1.callx hbA
  replace hC2 := hC2.callx hbA
  replace hL3 := hL3.call hbA
  replace hb := bCall hb hbA
  clear hbA r1 r2 r3 r4 r5 B5 hb1
  go_wp2_with (at_builtin; refine wpList_append_row rfl (.tmp 36) (.tmp 39) 41 33 rfl si sz 5 0 3 3 1 (seL.flatMap stC) (stC adP) _ _ Tryz.underlying41 hsi hsz hss1 hsz1 rfl rfl hrow (Nat.zero_le _) hsrc (by decide) (by decide) (by rw [hsby]; decide) ?_; intro v5 w6 k5 q1 q2 q3 q4; replace q1 := Kp.mk q1; replace q2 := Kp.mk q2; replace q3 := Kp.mk q3)
  have hk2 := q2.out trivial
  obtain ⟨A5, rfl, hA5, hA5c⟩ := RowC.at (p := seL ++ [adP]) (f := stC) (fun _ => rfl) (show RowC 33 5 0 k5 (seL ++ [adP]).length ((seL ++ [adP]).flatMap stC) v5 w6 from q3.out)
  replace hC1 := hC1.callx hk2
  replace hC2 := hC2.callx hk2
  replace hL3 := hL3.call hk2
  replace hb := bCall hb hk2
  clear hk2 q1 q2 q3 hrow hsrc
  obtain ⟨S3, c3, rfl⟩ : ∃ S c, v3 = .slice S 0 c := by
    obtain ⟨es, he, -, S, c, e, -⟩ := hL3
    rw [List.map_eq_nil_iff] at he
    subst he
    exact ⟨S, c, e⟩
  clear hL3
  refine (loops_any (seL ++ [adP]) A5 k5 600 _ hA5 hA5c (by decide)).mono ?_
  rintro _ w7 ⟨v7, rfl, hb1, hL7⟩
  replace hC1 := hC1.callx hb1
  replace hC2 := hC2.callx hb1
  replace hA5 := hA5.callx hb1
  replace hb := bCall hb hb1
  clear hb1
  rw [ls_ad.1] at hL7
  rw [ls_ad.2]
  go_wp2_with fail
  obtain ⟨b5, o5, rfl, hb5, hc5⟩ := hA5.run (Nat.le_refl _) (i := 3) (by decide)
  refine wp_region_rgl [(fun v W => ∃ A, v = .slice A seL.length 3 ∧ At 5 stC W W.heap.size A seL), Eqv (.slice (some ⟨b5, o5, none⟩) (seL ++ [adP]).length k5), Eqv (.pointer (some ⟨b5, o5 + 15, none⟩)), Eqv (.agg #[.int .i64 20, .int .i64 1, .int .i64 30, .int .i64 100, .int .i64 2000]), (fun v W => ∃ x, v = .tuple #[.int .i64 500, x, .bool true] ∧ LoA (some [10, 20, 30]) x W), (fun v W => ∃ x, v = .tuple #[.int .i64 500, x, .bool true] ∧ LoA (some [10, 20, 30]) x W), Eqv (.int .i64 500), (fun v W => LoA (some [10, 20, 30]) v W), Eqv (.bool true), Eqv (.int .i64 500), (fun v W => LoA (some [10, 20, 30]) v W), Eqv (.bool true)] 12 203 (by kernel_rfl) rfl rfl (by kernel_rfl) ?_ ?_ ?_
  · simp only [AllS]
    exact ⟨fun v w w' ⟨A, h1, h2⟩ hb => ⟨A, h1, h2.callx hb⟩, stab_eqv _, stab_eqv _, stab_eqv _, fun v w w' ⟨x, h1, h2⟩ hb => ⟨x, h1, h2.call hb⟩, fun v w w' ⟨x, h1, h2⟩ hb => ⟨x, h1, h2.call hb⟩, stab_eqv _, fun v w w' h hb => h.call hb, stab_eqv _, stab_eqv _, fun v w w' h hb => h.call hb, stab_eqv _, trivial⟩
  · simp only [Users, List.take, List.length]
    refine ⟨?_, ?_, ?_, ?_, ?_, ?_, ?_, ?_, ?_, ?_, ?_, ?_, trivial⟩
    all_goals (intro vs w0 hb2 hd; simp only [putD, Act.put, List.nil_append, List.cons_append, List.setIfInBounds_toArray, List.set_cons_succ, List.set_cons_zero, Nat.reduceAdd])
    · clear hd hc5 hA5 hC1 hC2 hL7
      go_wp2_with fail
      refine (settings_any _).mono ?_
      rintro _ w9 ⟨A, rfl, hb9, hA, -⟩
      go_wp2
      first | exact ⟨hb9, A, rfl, hA⟩ | exact ⟨A, rfl, hA⟩
    · clear hd hc5 hA5 hC1 hC2 hL7
      go_wp2
      first | exact ⟨Below.refl _ _, rfl⟩ | exact rfl | exact ⟨rfl, rfl⟩
    · have ea : vs 1 = _ := hd 1 rfl
      clear hd hc5 hA5 hC1 hC2 hL7
      rw [ea]
      go_wp2
      first | exact ⟨Below.refl _ _, rfl⟩ | exact rfl | exact ⟨rfl, rfl⟩
    · have ea : vs 2 = _ := hd 2 rfl
      have x0 := hc5 w0 hb2 0 _ rfl
      have x1 := hc5 w0 hb2 1 _ rfl
      have x2 := hc5 w0 hb2 2 _ rfl
      have x3 := hc5 w0 hb2 3 _ rfl
      have x4 := hc5 w0 hb2 4 _ rfl
      clear hd hc5 hA5 hC1 hC2 hL7
      rw [ea]
      go_wp2
      first | exact ⟨Below.refl _ _, rfl⟩ | exact rfl | exact ⟨rfl, rfl⟩
    · obtain ⟨A, ea, hA⟩ : ∃ A, vs 0 = .slice A seL.length 3 ∧ At 5 stC w0 w0.heap.size A seL := hd 0 rfl
      have eb : vs 3 = _ := hd 3 rfl
      have hC := creates_any seL A 3 adP w0 hA (Nat.le_refl _) (by decide)
      rw [cr_ad] at hC
      clear hd hc5 hA5 hC1 hC2 hL7
      rw [ea, eb]
      go_wp2_with fail
      refine hC.mono ?_
      rintro _ w9 ⟨x, rfl, hb9, hx⟩
      go_wp2
      first | exact ⟨hb9, x, rfl, hx⟩ | exact ⟨x, rfl, hx⟩
    · obtain ⟨x, ea, hx⟩ : ∃ x, vs 4 = .tuple #[.int .i64 500, x, .bool true] ∧ LoA (some [10, 20, 30]) x w0 := hd 4 rfl
      clear hd hc5 hA5 hC1 hC2 hL7
      rw [ea]
      go_wp2
      first | exact ⟨Below.refl _ _, x, rfl, hx⟩ | exact ⟨x, rfl, hx⟩
    · obtain ⟨x, ea, hx⟩ : ∃ x, vs 5 = .tuple #[.int .i64 500, x, .bool true] ∧ LoA (some [10, 20, 30]) x w0 := hd 5 rfl
      clear hd hc5 hA5 hC1 hC2 hL7
      rw [ea]
      go_wp2
      first | exact ⟨Below.refl _ _, rfl⟩ | exact rfl | exact ⟨rfl, rfl⟩
    · obtain ⟨x, ea, hx⟩ : ∃ x, vs 5 = .tuple #[.int .i64 500, x, .bool true] ∧ LoA (some [10, 20, 30]) x w0 := hd 5 rfl
      clear hd hc5 hA5 hC1 hC2 hL7
      rw [ea]
      go_wp2
      first | exact ⟨Below.refl _ _, hx⟩ | exact hx
    · obtain ⟨x, ea, hx⟩ : ∃ x, vs 5 = .tuple #[.int .i64 500, x, .bool true] ∧ LoA (some [10, 20, 30]) x w0 := hd 5 rfl
      clear hd hc5 hA5 hC1 hC2 hL7
      rw [ea]
      go_wp2
      first | exact ⟨Below.refl _ _, rfl⟩ | exact rfl | exact ⟨rfl, rfl⟩
    · have ea : vs 6 = _ := hd 6 rfl
      clear hd hc5 hA5 hC1 hC2 hL7
      rw [ea]
      go_wp2
      first | exact ⟨Below.refl _ _, rfl⟩ | exact rfl | exact ⟨rfl, rfl⟩
    · have hx : LoA (some [10, 20, 30]) (vs 7) w0 := hd 7 rfl
      clear hd hc5 hA5 hC1 hC2 hL7
      go_wp2
      first | exact ⟨Below.refl _ _, hx⟩ | exact hx
    · have ea : vs 8 = _ := hd 8 rfl
      clear hd hc5 hA5 hC1 hC2 hL7
      rw [ea]
      go_wp2
      first | exact ⟨Below.refl _ _, rfl⟩ | exact rfl | exact ⟨rfl, rfl⟩
  intro vs w8 hb1 hR2
  simp only [AllR, Eqv] at hR2
  obtain ⟨-, -, -, -, -, -, -, -, -, e9, hx8, e11, -⟩ := hR2
  simp only [List.drop, List.take, List.map, putD, Act.put, List.setIfInBounds_toArray, List.set_cons_succ, List.set_cons_zero, Nat.reduceAdd]
  rw [e9, e11]
  clear e9 e11 hc5 hA5 hb5
  replace hx8 : LoA (some [10, 20, 30]) (vs 10) w8 := hx8
  generalize vs 10 = x8 at *
  replace hC1 := hC1.callx hb1
  replace hC2 := hC2.callx hb1
  replace hL7 := hL7.call hb1
  replace hb := bCall hb hb1
  clear hb1
  go_wp2_with fail
  refine (settings_any _).mono ?_
  rintro _ w9 ⟨A9, rfl, hb1, hA9, -⟩
  replace hC1 := hC1.callx hb1
  replace hC2 := hC2.callx hb1
  replace hL7 := hL7.call hb1
  replace hx8 := hx8.call hb1
  replace hb := bCall hb hb1
  clear hb1
  have hCr := creates_any seL A9 3 adQ _ hA9 (Nat.le_refl _) (by decide)
  rw [cr_aq] at hCr
  go_wp2_with fail
  refine (hCr).mono ?_
  rintro _ w10 ⟨x10, rfl, hb1, -⟩
  replace hC1 := hC1.callx hb1
  replace hC2 := hC2.callx hb1
  replace hL7 := hL7.call hb1
  replace hx8 := hx8.call hb1
  replace hb := bCall hb hb1
  clear hb1 hA9 hCr
  go_wp2_with fail
  refine (settings_any _).mono ?_
  rintro _ w11 ⟨A11, rfl, hb1, hA11, -⟩
  replace hC1 := hC1.callx hb1
  replace hC2 := hC2.callx hb1
  replace hL7 := hL7.call hb1
  replace hx8 := hx8.call hb1
  replace hb := bCall hb hb1
  clear hb1
  have hRe := resolve_any seL A11 3 [] none 0 (-1) 0 _ hA11 (Nat.le_refl _) (by decide) At.nil (Nat.le_refl _) (by decide)
  rw [rs_bad.1, rs_bad.2] at hRe
  go_wp2_with fail
  refine (hRe).mono ?_
  rintro _ w12 ⟨x12, rfl, hb1, P12, c12, U12, d12, rfl, -⟩
  replace hC1 := hC1.callx hb1
  replace hC2 := hC2.callx hb1
  replace hL7 := hL7.call hb1
  replace hx8 := hx8.call hb1
  replace hb := bCall hb hb1
  clear hb1 hA11 hRe
  have hbn := bNew (bNx w12 (.cells #[.int .i64 0, .slice P12 0 c12, .slice U12 0 d12] 45)) (.cells #[.string ⟨#[49, 50]⟩, .string ⟨#[51, 52]⟩, .int .i64 5] 63)
  have BK := Bx.mk (w12.alloc (.cells #[.int .i64 0, .slice P12 0 c12, .slice U12 0 d12] 45)) 63 #[.string ⟨#[49, 50]⟩, .string ⟨#[51, 52]⟩, .int .i64 5]
  simp only [World.size_alloc] at BK
  obtain ⟨AK, eK, hK, -⟩ := RowC.at (p := plP) (f := codeC) (fun _ => rfl) (show RowC 63 3 0 1 plP.length (plP.flatMap codeC) (.slice (some ⟨w12.heap.size + 1, 0, none⟩) 1 1) ((w12.alloc (.cells #[.int .i64 0, .slice P12 0 c12, .slice U12 0 d12] 45)).alloc (.cells #[.string ⟨#[49, 50]⟩, .string ⟨#[51, 52]⟩, .int .i64 5] 63)) from ⟨w12.heap.size + 1, _, rfl, Nat.zero_le _, Nat.le_refl _, BK, rfl, rfl⟩)
  simp only [Value.slice.injEq] at eK
  obtain ⟨rfl, -⟩ := eK
  replace hC1 := hC1.callx hbn
  replace hC2 := hC2.callx hbn
  replace hL7 := hL7.call hbn
  replace hx8 := hx8.call hbn
  replace hb := bCall hb hbn
  clear hbn BK
  simp only [List.length_nil]
  go_wp2_with fail
  have hD := dial_any plP _ 1 [49, 50, 53, 54, 55] 2 10 2 0 9 _ hK (Nat.le_refl _) (by decide) (by decide) pl_va (by decide) (by decide) (by decide)
  rw [dial_1] at hD
  refine (hD).mono ?_
  rintro _ w13 ⟨rfl, hb1⟩
  replace hC1 := hC1.callx hb1
  replace hC2 := hC2.callx hb1
  replace hL7 := hL7.call hb1
  replace hx8 := hx8.call hb1
  replace hK := hK.callx hb1
  replace hb := bCall hb hb1
  clear hb1 hD
  have D17 := Bx.mk w13 33 #[.int .i64 10, .int .i64 2, .int .i64 34000567, .int .i64 0, .int .i64 9]
  have hbn := bNx w13 (.cells #[.int .i64 10, .int .i64 2, .int .i64 34000567, .int .i64 0, .int .i64 9] 33)
  replace hC1 := hC1.callx hbn
  replace hC2 := hC2.callx hbn
  replace hL7 := hL7.call hbn
  replace hx8 := hx8.call hbn
  replace hK := hK.callx hbn
  replace hb := bCall hb hbn
  clear hbn
  simp only [stC]
  go_wp2_with fail
  have hD := dial_any plP _ 1 [51, 52, 48, 48, 48, 53, 54, 55] 2 10 2 0 9 _ hK (Nat.le_refl _) (by decide) (by decide) pl_va (by decide) (by decide) (by decide)
  rw [dial_2] at hD
  refine (hD).mono ?_
  rintro _ w14 ⟨rfl, hb1⟩
  replace hC1 := hC1.callx hb1
  replace hC2 := hC2.callx hb1
  replace hL7 := hL7.call hb1
  replace hx8 := hx8.call hb1
  replace hK := hK.callx hb1
  replace D17 := D17.call hb1
  replace hb := bCall hb hb1
  clear hb1 hD
  have D19 := Bx.mk w14 33 #[.int .i64 10, .int .i64 2, .int .i64 34000567, .int .i64 0, .int .i64 9]
  have hbn := bNx w14 (.cells #[.int .i64 10, .int .i64 2, .int .i64 34000567, .int .i64 0, .int .i64 9] 33)
  replace hC1 := hC1.callx hbn
  replace hC2 := hC2.callx hbn
  replace hL7 := hL7.call hbn
  replace hx8 := hx8.call hbn
  replace hK := hK.callx hbn
  replace D17 := D17.call hbn
  replace hb := bCall hb hbn
  clear hbn
  simp only [stC]
  go_wp2_with fail
  have hD := dial_any plP _ 1 [49, 50, 53, 54, 55, 56] 2 10 2 0 9 _ hK (Nat.le_refl _) (by decide) (by decide) pl_va (by decide) (by decide) (by decide)
  rw [dial_3] at hD
  refine (hD).mono ?_
  rintro _ w15 ⟨rfl, hb1⟩
  replace hC1 := hC1.callx hb1
  replace hC2 := hC2.callx hb1
  replace hL7 := hL7.call hb1
  replace hx8 := hx8.call hb1
  replace hK := hK.callx hb1
  replace D17 := D17.call hb1
  replace D19 := D19.call hb1
  replace hb := bCall hb hb1
  clear hb1 hD hK
  simp only [stC]
  have hbn := bNx w15 (.cells #[.int .i64 0, .int .i64 0, .int .i64 0, .int .i64 0, .int .i64 0] 33)
  replace hC1 := hC1.callx hbn
  replace hC2 := hC2.callx hbn
  replace hL7 := hL7.call hbn
  replace hx8 := hx8.call hbn
  replace D17 := D17.call hbn
  replace D19 := D19.call hbn
  replace hb := bCall hb hbn
  clear hbn
  go_upto_region 13 with fail
  generalize w15.alloc (.cells #[.int .i64 0, .int .i64 0, .int .i64 0, .int .i64 0, .int .i64 0] 33) = w16 at *
  go_wp2_with fail
  refine (ends_at [] none 0 _ _ _ At.nil (Nat.le_refl _) (by decide) rs_1 route_1 (by decide) (by decide)).mono ?_
  rintro _ w17 ⟨rfl, hb1⟩
  replace hC1 := hC1.callx hb1
  replace hC2 := hC2.callx hb1
  replace hL7 := hL7.call hb1
  replace hx8 := hx8.call hb1
  replace D17 := D17.call hb1
  replace D19 := D19.call hb1
  replace hb := bCall hb hb1
  clear hb1
  go_wp2_with fail
  refine (ends_at [(20, 2)] _ 1 _ _ _ hC1 (Nat.le_refl _) (by decide) rs_2 route_2 (by decide) (by decide)).mono ?_
  rintro _ w18 ⟨rfl, hb1⟩
  replace hC1 := hC1.callx hb1
  replace hC2 := hC2.callx hb1
  replace hL7 := hL7.call hb1
  replace hx8 := hx8.call hb1
  replace D17 := D17.call hb1
  replace D19 := D19.call hb1
  replace hb := bCall hb hb1
  clear hb1
  go_wp2_with fail
  refine (ends_at [(20, 2), (30, 2)] _ k2 _ _ _ hC2 hC2c (by decide) rs_3 route_3 (by decide) (by decide)).mono ?_
  rintro _ w19 ⟨rfl, hb1⟩
  replace hC1 := hC1.callx hb1
  replace hC2 := hC2.callx hb1
  replace hL7 := hL7.call hb1
  replace hx8 := hx8.call hb1
  replace D17 := D17.call hb1
  replace D19 := D19.call hb1
  replace hb := bCall hb hb1
  clear hb1
  go_wp2_with fail
  refine (ends_at [(20, 2)] _ 1 _ _ _ hC1 (Nat.le_refl _) (by decide) rs_4 route_4 (by decide) (by decide)).mono ?_
  rintro _ w20 ⟨rfl, hb1⟩
  replace hC1 := hC1.callx hb1
  replace hC2 := hC2.callx hb1
  replace hL7 := hL7.call hb1
  replace hx8 := hx8.call hb1
  replace D17 := D17.call hb1
  replace D19 := D19.call hb1
  replace hb := bCall hb hb1
  clear hb1
  go_wp2_with fail
  refine (ends_at0 [] none 0 _ _ _ At.nil (Nat.le_refl _) (by decide) rs_5 route_5 (by decide) rfl).mono ?_
  rintro _ w21 ⟨rfl, hb1⟩
  replace hC1 := hC1.callx hb1
  replace hC2 := hC2.callx hb1
  replace hL7 := hL7.call hb1
  replace hx8 := hx8.call hb1
  replace D17 := D17.call hb1
  replace D19 := D19.call hb1
  replace hb := bCall hb hb1
  clear hb1
  go_wp2_with fail
  have hbn := bNew (bNx w21 (.cells (List.flatMap inC [10, 20, 30]).toArray 3)) (.cells #[.slice (some ⟨w21.heap.size, 0, none⟩) [(10 : Int), 20, 30].length [(10 : Int), 20, 30].length] 43)
  replace hC1 := hC1.callx hbn
  replace hC2 := hC2.callx hbn
  replace hL7 := hL7.call hbn
  replace hx8 := hx8.call hbn
  replace D17 := D17.call hbn
  replace D19 := D19.call hbn
  replace hb := bCall hb hbn
  clear hbn
  have hS := sameLoops_any [[10, 20, 30]] [[10, 20, 30]] v7 _ _ hL7 (rr_new [10, 20, 30] (by decide) w21 (by decide))
  simp only [decide_true] at hS
  refine (hS).mono ?_
  rintro _ w22 ⟨rfl, hb1⟩
  replace hC1 := hC1.callx hb1
  replace hC2 := hC2.callx hb1
  replace hL7 := hL7.call hb1
  replace hx8 := hx8.call hb1
  replace D17 := D17.call hb1
  replace D19 := D19.call hb1
  replace hb := bCall hb hb1
  clear hb1 hS hL7
  obtain ⟨b8, o8, c8, rfl, hx8, hx8c, hx8m⟩ := hx8
  have hbn := bNx w22 (.cells (List.flatMap inC [10, 20, 30]).toArray 3)
  have hN := at_new1 (f := inC) (fun _ => rfl) [10, 20, 30] w22 3 (by decide)
  replace hC1 := hC1.callx hbn
  replace hC2 := hC2.callx hbn
  replace D17 := D17.call hbn
  replace D19 := D19.call hbn
  replace hx8 := hx8.callx hbn
  replace hb := bCall hb hbn
  clear hbn
  have hE := ints_any [10, 20, 30] [10, 20, 30] _ _ c8 3 _ hx8 hx8c (by decide) hN (Nat.le_refl _) (by decide)
  simp only [decide_true] at hE
  go_wp2_with fail
  refine (hE).mono ?_
  rintro _ w23 ⟨rfl, hb1⟩
  replace hC1 := hC1.callx hb1
  replace hC2 := hC2.callx hb1
  replace D17 := D17.call hb1
  replace D19 := D19.call hb1
  replace hx8 := hx8.callx hb1
  replace hb := bCall hb hb1
  clear hb1 hE hN hx8
  have hbn := bNx w23 (.cells (List.flatMap inC [10, 20, 30]).toArray 3)
  have hN := at_new1 (f := inC) (fun _ => rfl) [10, 20, 30] w23 3 (by decide)
  replace hC1 := hC1.callx hbn
  replace hC2 := hC2.callx hbn
  replace D17 := D17.call hbn
  replace D19 := D19.call hbn
  replace hb := bCall hb hbn
  clear hbn
  have hP := payers_any ⟨0, [10, 20, 30], []⟩ _ _ ⟨_, 3, none, 0, rfl, hN, At.nil, Nat.le_refl _, Nat.le_refl _, by decide, Nat.zero_le _⟩ (by decide)
  rw [show payL [10, 20, 30] = [-1, 10, 20] from rfl] at hP
  go_wp2_with fail
  refine (hP).mono ?_
  rintro _ w24 ⟨AP, cP, rfl, hb1, hPA, hPc, hPm⟩
  replace hC1 := hC1.callx hb1
  replace hC2 := hC2.callx hb1
  replace D17 := D17.call hb1
  replace D19 := D19.call hb1
  replace hb := bCall hb hb1
  clear hb1 hP hN
  have hbn := bNx w24 (.cells (List.flatMap inC [-1, 10, 20]).toArray 3)
  have hN := at_new1 (f := inC) (fun _ => rfl) [-1, 10, 20] w24 3 (by decide)
  replace hC1 := hC1.callx hbn
  replace hC2 := hC2.callx hbn
  replace D17 := D17.call hbn
  replace D19 := D19.call hbn
  replace hPA := hPA.callx hbn
  replace hb := bCall hb hbn
  clear hbn
  have hE := ints_any [-1, 10, 20] [-1, 10, 20] _ _ cP 3 _ hPA hPc (by decide) hN (Nat.le_refl _) (by decide)
  simp only [decide_true] at hE
  go_wp2_with fail
  refine (hE).mono ?_
  rintro _ w25 ⟨rfl, hb1⟩
  replace hC1 := hC1.callx hb1
  replace hC2 := hC2.callx hb1
  replace D17 := D17.call hb1
  replace D19 := D19.call hb1
  replace hPA := hPA.callx hb1
  replace hb := bCall hb hb1
  clear hb1 hE hN hPA
  have c170 := D17.cell 0 rfl
  have c171 := D17.cell 1 rfl
  have c172 := D17.cell 2 rfl
  have c173 := D17.cell 3 rfl
  have c174 := D17.cell 4 rfl
  have c190 := D19.cell 0 rfl
  have c191 := D19.cell 1 rfl
  have c192 := D19.cell 2 rfl
  have c193 := D19.cell 3 rfl
  have c194 := D19.cell 4 rfl
  go_wp2_with fail
  refine (settings_any _).mono ?_
  rintro _ w26 ⟨A26, rfl, hb1, hA26, -⟩
  replace hC1 := hC1.callx hb1
  replace hC2 := hC2.callx hb1
  replace D17 := D17.call hb1
  replace D19 := D19.call hb1
  replace hb := bCall hb hb1
  clear hb1 c170 c171 c172 c173 c174 c190 c191 c192 c193 c194 D17 D19
  have hV := wValid_any seL _ 3 [(20, 2), (30, 2)] C2 k2 _ hA26 (Nat.le_refl _) (by decide) hC2 hC2c (by decide)
  rw [val_2] at hV
  go_wp2_with fail
  refine (hV).mono ?_
  rintro _ w27 ⟨rfl, hb1⟩
  replace hC1 := hC1.callx hb1
  replace hC2 := hC2.callx hb1
  replace hb := bCall hb hb1
  clear hb1 hV hA26 hC1 hC2
  go_wp2_with fail
  refine (settings_any _).mono ?_
  rintro _ w28 ⟨A28, rfl, hb1, -, hR28⟩
  replace hb := bCall hb hb1
  clear hb1
  obtain ⟨g5, cells5, e5, r1, r2, r3, r4, r5⟩ := hR28
  simp only [Value.slice.injEq] at e5
  obtain ⟨rfl, -⟩ := e5
  go_wp2_with fail
  refine (settings_any _).mono ?_
  rintro _ w29 ⟨A29, rfl, hb1, hA29, -⟩
  replace r3 := r3.call hb1
  replace hb := bCall hb hb1
  clear hb1
  obtain ⟨b9, o9, rfl, hb9, hc9⟩ := hA29.run (Nat.le_refl _) (i := 0) (by decide)
  have x0 := hc9 _ (Below.refl _ _) 0 _ rfl
  have x1 := hc9 _ (Below.refl _ _) 1 _ rfl
  have x2 := hc9 _ (Below.refl _ _) 2 _ rfl
  have x3 := hc9 _ (Below.refl _ _) 3 _ rfl
  have x4 := hc9 _ (Below.refl _ _) 4 _ rfl
  simp only [Nat.zero_mul, Nat.add_zero] at x0 x1 x2 x3 x4
  have hbA : Below w29.heap.size w29 (w29.alloc (.cells #[.int .i64 10, .int .i64 1, .int .i64 20, .int .i64 0, .int .i64 1000] 33)) := bNew (Below.refl _ _) _
  have B5 := Bx.mk w29 33 #[.int .i64 10, .int .i64 1, .int .i64 20, .int .i64 0, .int .i64 1000]
  have hsrc : Src Tryz.prog 5 41 (.slice (some ⟨w29.heap.size, 0, none⟩) 1 1) 1 (stC adR) (w29.alloc (.cells #[.int .i64 10, .int .i64 1, .int .i64 20, .int .i64 0, .int .i64 1000] 33)) := RowC.src (P := Tryz.prog) (B := 0) (cap := 1) (e := 33) (t := 41) (stC_one adR) Tryz.underlying41 ⟨w29.heap.size, _, rfl, Nat.zero_le _, Nat.le_refl _, B5, rfl, rfl⟩
  have hrow : RowC 33 5 0 3 3 (seL.flatMap stC) (.slice (some ⟨g5, 0, none⟩) 3 3) (w29.alloc (.cells #[.int .i64 10, .int .i64 1, .int .i64 20, .int .i64 0, .int .i64 1000] 33)) := ⟨g5, cells5, rfl, Nat.zero_le _, Nat.le_refl _, r3.call hbA, r4, r5⟩
  replace r3 := r3.call hbA
  replace hb := bCall hb hbA
  clear hbA r1 r2 r3 r4 r5 B5 hA29 hc9
  go_wp2_with (at_builtin; refine wpList_want rfl ?_; refine wpList_append_row rfl (.tmp 188) (.tmp 192) 41 33 rfl si sz 5 0 3 3 1 (seL.flatMap stC) (stC adR) _ _ Tryz.underlying41 hsi hsz hss1 hsz1 rfl rfl hrow (Nat.zero_le _) hsrc (by decide) (by decide) (by rw [hsby]; decide) ?_; intro v30 w30 k30 q1 q2 q3 q4; replace q1 := Kp.mk q1; replace q2 := Kp.mk q2; replace q3 := Kp.mk q3)
  have hk2 := q2.out trivial
  obtain ⟨A30, rfl, hA30, hA30c⟩ := RowC.at (p := seL ++ [adR]) (f := stC) (fun _ => rfl) (show RowC 33 5 0 k30 (seL ++ [adR]).length ((seL ++ [adR]).flatMap stC) v30 w30 from q3.out)
  replace hb := bCall hb hk2
  clear hk2 q1 q2 q3 hrow hsrc x0 x1 x2 x3 x4
  have hV := wValid_any (seL ++ [adR]) _ k30 [] none 0 _ hA30 hA30c (by decide) At.nil (Nat.le_refl _) (by decide)
  rw [val_3] at hV
  refine (hV).mono ?_
  rintro _ w31 ⟨rfl, hb1⟩
  replace hb := bCall hb hb1
  clear hb1 hV hA30
  go_wp2_with fail
  refine (settings_any _).mono ?_
  rintro _ w32 ⟨A32, rfl, hb1, hA32, -⟩
  replace hb := bCall hb hb1
  clear hb1
  have hK := check_any seL _ 3 [] none 0 10 100 ⟨0, [], []⟩ _ _ hA32 (Nat.le_refl _) (by decide) At.nil (Nat.le_refl _) (by decide) ⟨none, 0, none, 0, rfl, At.nil, At.nil, Nat.zero_le _, Nat.zero_le _, Nat.zero_le _, Nat.zero_le _⟩
  rw [ck_0] at hK
  go_wp2_with fail
  refine (hK).mono ?_
  rintro _ w33 ⟨rfl, hb1⟩
  replace hb := bCall hb hb1
  clear hb1 hK hA32
  go_wp2
  go_ret
  exact ⟨rfl, hb⟩
end Go.Proofs.YtlldlkjngcgcjaaGreatDoor
namespace Go.Proofs.YtlldlkjngcgcjaaGreatDoor
set_option linter.unusedVariables false
set_option linter.unusedSimpArgs false
open Go.RowKit Go.Shelf
attribute [local go_sem] Oper.semAt_some
theorem pickT_pos {c n : Int} (hc : 0 ≤ c) : Tw.pick c n = c % n := by unfold Tw.pick; rw [if_neg (by omega)]
theorem pickT_neg {c n : Int} (hc : c < 0) : Tw.pick c n = (-(c + 1)) % n := by unfold Tw.pick; rw [if_pos hc]
theorem rpick_any (c n : Int) (h0 : 0 < n) (h : I6 c) (w : World) :
    Calls Tryz.prog 30 #[.int .i64 c, .int .i64 n] w fun e w' => e = .returned (.int .i64 (Tw.pick c n)) ∧ w = w' := by
  obtain ⟨h1, h2⟩ := h
  by_cases hc : c < 0
  · have hm : 0 ≤ -(c+1) := by omega
    go_enter Tryz.func30, Tryz.ntmps30
    go_wp2
    go_ret
    refine ⟨ret_int ?_, rfl⟩
    rw [pickT_neg hc, ← Int.neg_tmod]
    exact Int.tmod_eq_emod_of_nonneg hm
  · have hm : 0 ≤ c := by omega
    go_enter Tryz.func30, Tryz.ntmps30
    go_wp2
    go_ret
    exact ⟨ret_int (pickT_pos hm).symm, rfl⟩
theorem lpick_any (c n : Int) (h0 : 0 < n) (h : I6 c) (w : World) :
    Calls Tryz.prog 13 #[.int .i64 c, .int .i64 n] w fun e w' => e = .returned (.int .i64 (Tw.pick c n)) ∧ w = w' := by
  obtain ⟨h1, h2⟩ := h
  by_cases hc : c < 0
  · have hm : 0 ≤ -(c+1) := by omega
    go_enter Tryz.func13, Tryz.ntmps13
    go_wp2
    go_ret
    refine ⟨ret_int ?_, rfl⟩
    rw [pickT_neg hc, ← Int.neg_tmod]
    exact Int.tmod_eq_emod_of_nonneg hm
  · have hm : 0 ≤ c := by omega
    go_enter Tryz.func13, Tryz.ntmps13
    go_wp2
    go_ret
    exact ⟨ret_int (pickT_pos hm).symm, rfl⟩
end Go.Proofs.YtlldlkjngcgcjaaGreatDoor
namespace Go.Proofs.YtlldlkjngcgcjaaGreatDoor
set_option linter.unusedVariables false
set_option linter.unusedSimpArgs false
open Go.RowKit Go.Shelf
attribute [local go_sem] Oper.semAt_some
set_option maxRecDepth 100000 in
set_option maxHeartbeats 4000000 in
theorem rFormed_ok (s : Tw.St) (h : Tw.Fm s) (w : World) :
    Calls Tryz.prog 92 #[.agg #[.int .i64 s.n, .int .i64 s.k, .int .i64 s.to, .int .i64 s.f, .int .i64 s.e]] w fun e w' => e = .returned (.bool true) ∧ Below w.heap.size w w' := by
  obtain ⟨n, k, tt, f, e⟩ := s
  obtain ⟨h1, h2, h3, h4, h5, h6, h7, h8, h9, h10⟩ := h
  dsimp only at h1 h2 h3 h4 h5 h6 h7 h8 h9 h10 ⊢
  have B := Bx.mk w 33 #[.int .i64 n, .int .i64 k, .int .i64 tt, .int .i64 f, .int .i64 e]
  have hb := bNx w (.cells #[.int .i64 n, .int .i64 k, .int .i64 tt, .int .i64 f, .int .i64 e] 33)
  have c0 := B.cell 0 rfl
  have c1 := B.cell 1 rfl
  have c2 := B.cell 2 rfl
  have c3 := B.cell 3 rfl
  have c4 := B.cell 4 rfl
  clear B
  have g1 := fun w0 => rNumber_any n w0
  have g2 := fun w0 => rNumber_any tt w0
  rw [inB_t ⟨h1, h2⟩] at g1
  rw [inB_t ⟨h3, h4⟩] at g2
  have t3 : (n != tt) = true := bne_iff_ne.2 h5
  clear h5
  go_enter Tryz.func92, Tryz.ntmps92
  go_wp2_with (first | (go_at_call 125; refine (g1 _).mono ?_; rintro _ w1 ⟨rfl, rfl⟩) | (go_at_call 125; refine (g2 _).mono ?_; rintro _ w1 ⟨rfl, rfl⟩))
  go_ret
  exact ⟨ret_bool (by first | rfl | (simp; done) | (simp; omega)), hb⟩
open Classical in
noncomputable def vsB (l : List Tw.St) : Bool := decide (Tw.Vs l)
open Classical in
theorem vsB_t {l : List Tw.St} (h : Tw.Vs l) : vsB l = true := decide_eq_true h
open Classical in
theorem vsB_f {l : List Tw.St} (h : ¬ Tw.Vs l) : vsB l = false := decide_eq_false h
/-- the reference's test -/
theorem cl_test {x y : Tw.St} (hx : Tw.Fm x) (hy : Tw.Fm y) : Tw.Cl y x ↔ x.n = y.n ∧ x.k = y.k ∧ max x.f y.f < min x.e y.e := by
  unfold Tw.Cl
  have h := Tw.cl_meet (a := y) (b := x) hy.fe hx.fe
  rw [h]
  constructor
  · rintro ⟨h1, h2, h3⟩; exact ⟨h1.symm, h2.symm, by omega⟩
  · rintro ⟨h1, h2, h3⟩; exact ⟨h1.symm, h2.symm, by omega⟩
theorem cl_test2 {x y : Tw.St} (hx : Tw.Fm x) (hy : Tw.Fm y) : Tw.Cl y x ↔ x.n = y.n ∧ x.k = y.k ∧ (if x.f < y.f then y.f else x.f) < if y.e < x.e then y.e else x.e := by
  rw [cl_test hx hy]
  have e1 : max x.f y.f = if x.f < y.f then y.f else x.f := by split <;> omega
  have e2 : min x.e y.e = if y.e < x.e then y.e else x.e := by split <;> omega
  rw [e1, e2]
set_option maxRecDepth 100000 in
set_option maxHeartbeats 4000000 in
theorem rSettings_any (l : List Tw.St) (A : Option Addr) (cap : Nat) (w : World) (hA : At 5 stC w w.heap.size A l) (hn : l.length ≤ cap) (hl : l.length ≤ 40) (hf : Kp (∀ s ∈ l, Tw.Fm s)) :
    Calls Tryz.prog 43 #[.slice A l.length cap] w fun e w' => e = .returned (.bool (vsB l)) ∧ Below w.heap.size w w' := by
  go_enter Tryz.func43, Tryz.ntmps43
  go_wp2
  go_loopw [3] (fun s3 wr => ∃ i : Nat, i ≤ l.length ∧ s3 = .int .i64 i ∧ Kp (Tw.Vs (l.take i)) ∧ Below w.heap.size w wr) (fun s3 _ => l.length - (intOf s3).toNat)
  case atStart => exact ⟨0, Nat.zero_le _, rfl, ⟨Tw.vs_nil⟩, bStart _⟩
  case round =>
    obtain ⟨i, hi, rfl, hvs, hb⟩ := hrel
    by_cases hlt : i < l.length
    · obtain ⟨p, off, rfl, hbB, hcell⟩ := hA.run (Nat.le_refl _) hlt
      have c0 := hcell _ hb 0 _ rfl
      have c1 := hcell _ hb 1 _ rfl
      have c2 := hcell _ hb 2 _ rfl
      have c3 := hcell _ hb 3 _ rfl
      have c4 := hcell _ hb 4 _ rfl
      simp only [Nat.add_zero] at c0
      have hfx := Kp.mk (hf.out _ (List.getElem_mem hlt))
      have hFm := fun w0 => rFormed_ok l[i] hfx.out w0
      have hst : Kp ((∀ (j : Nat) (h : j < l.length), j < i → ¬ Tw.Cl l[j] l[i]) → Tw.Vs (l.take (i + 1))) := ⟨fun h => (Tw.vs_take hlt).2 ⟨hvs.out, hfx.out, fun r hr => by
        obtain ⟨j, hj, rfl⟩ := List.getElem_of_mem hr
        rw [List.length_take] at hj
        rw [List.getElem_take]
        exact h j (by omega) (by omega)⟩⟩
      have hno : Kp (∀ (j : Nat) (h : j < l.length), j < i → Tw.Cl l[j] l[i] → vsB l = false) := ⟨fun j h hji hc => vsB_f fun hv => List.pairwise_iff_getElem.1 hv.2 j i h hlt hji hc⟩
      clear hvs
      generalize l[i] = x at *
      obtain ⟨xn, xk, xt, xf, xe⟩ := x
      dsimp only at c0 c1 c2 c3 c4 hFm
      go_wp2_with fail
      refine (hFm _).mono ?_
      rintro _ w1 ⟨rfl, hb1⟩
      replace hb := bCall hb hb1
      clear c0 c1 c2 c3 c4 hb1 hFm
      go_wp2
      go_loopw [4] (fun s4 wr => ∃ k : Nat, k ≤ i ∧ s4 = .int .i64 k ∧ Kp (∀ (j : Nat) (h : j < l.length), j < k → ¬ Tw.Cl l[j] ⟨xn, xk, xt, xf, xe⟩) ∧ Below w.heap.size w wr) (fun s4 _ => i - (intOf s4).toNat)
      case atStart => exact ⟨0, Nat.zero_le _, rfl, ⟨fun j hj h => by omega⟩, hb⟩
      case round =>
        obtain ⟨k, hk, rfl, hnc, hb⟩ := hrel
        by_cases hki : k < i
        · have hkl : k < l.length := by omega
          obtain ⟨p2, off2, e2, -, hcell2⟩ := hA.run (Nat.le_refl _) hkl
          cases e2
          have c0 := fun d os => hcell (Sort.grow (redrawn wr d) os) (bAgain hb d os) 0 _ rfl
          have c1 := fun d os => hcell (Sort.grow (redrawn wr d) os) (bAgain hb d os) 1 _ rfl
          have c3 := fun d os => hcell (Sort.grow (redrawn wr d) os) (bAgain hb d os) 3 _ rfl
          have c4 := fun d os => hcell (Sort.grow (redrawn wr d) os) (bAgain hb d os) 4 _ rfl
          have d0 := fun d os => hcell2 (Sort.grow (redrawn wr d) os) (bAgain hb d os) 0 _ rfl
          have d1 := fun d os => hcell2 (Sort.grow (redrawn wr d) os) (bAgain hb d os) 1 _ rfl
          have d3 := fun d os => hcell2 (Sort.grow (redrawn wr d) os) (bAgain hb d os) 3 _ rfl
          have d4 := fun d os => hcell2 (Sort.grow (redrawn wr d) os) (bAgain hb d os) 4 _ rfl
          simp only [Nat.add_zero] at c0 d0
          have hfy := Kp.mk (hf.out _ (List.getElem_mem hkl))
          have ht := Kp.mk (cl_test2 hfx.out hfy.out)
          have hyes : Kp (Tw.Cl l[k] ⟨xn, xk, xt, xf, xe⟩ → vsB l = false) := ⟨hno.out k hkl hki⟩
          have hnx : Kp (¬ Tw.Cl l[k] ⟨xn, xk, xt, xf, xe⟩ → ∀ (j : Nat) (h : j < l.length), j < k + 1 → ¬ Tw.Cl l[j] ⟨xn, xk, xt, xf, xe⟩) := ⟨fun h j h1 hjk => by
            rcases Nat.lt_or_ge j k with h3 | h3
            · exact hnc.out j h1 h3
            · obtain rfl : j = k := by omega
              exact h⟩
          clear hcell hcell2 hA hnc hno hst hf hfx hfy
          generalize l[k] = y at *
          obtain ⟨yn, yk, yt, yf, ye⟩ := y
          dsimp only at c0 c1 c3 c4 d0 d1 d3 d4 ht
          go_wp2_with fail
          by_cases h1 : xn = yn
          · have t1 : (xn == yn) = true := by simpa using h1
            by_cases h2 : xk = yk
            · have t2 : (xk == yk) = true := by simpa using h2
              by_cases e1 : xf < yf <;> by_cases e2 : ye < xe
              all_goals
                have hm : Kp (((if xf < yf then yf else xf) < if ye < xe then ye else xe) → vsB l = false) := ⟨fun h => hyes.out (ht.out.2 ⟨h1, h2, h⟩)⟩
                have hm2 : Kp (¬ ((if xf < yf then yf else xf) < if ye < xe then ye else xe) → ∀ (j : Nat) (h : j < l.length), j < k + 1 → ¬ Tw.Cl l[j] ⟨xn, xk, xt, xf, xe⟩) := ⟨fun h => hnx.out fun hc => h (ht.out.1 hc).2.2⟩
                first | rw [if_pos e1] at hm hm2 | rw [if_neg e1] at hm hm2
                first | rw [if_pos e2] at hm hm2 | rw [if_neg e2] at hm hm2
                clear hyes hnx ht h1 h2
                refine wp_region_quiet_below (by kernel_rfl) (by kernel_rfl) ?_
                repeat (go_big_quiet_step (fail))
                refine wpQuiet_nil ?_
                rintro _ ⟨q, rfl⟩
                replace hb := bAgain hb q.d q.os
                clear c0 c1 c3 c4 d0 d1 d3 d4
              · by_cases h3 : yf < ye
                · have t3 : decide (yf < ye) = true := decide_eq_true h3
                  have hx := Kp.mk (hm.out h3)
                  clear hm hm2
                  go_wp2
                  go_ret
                  exact ⟨ret_bool (by rw [hx.out]), hb⟩
                · have t3 : decide (yf < ye) = false := decide_eq_false h3
                  have hx := Kp.mk (hm2.out h3)
                  clear hm hm2
                  go_wp2
                  exact ⟨⟨k + 1, by omega, by go_num, hx, hb⟩, by simp [intOf]; omega⟩
              · by_cases h3 : yf < xe
                · have t3 : decide (yf < xe) = true := decide_eq_true h3
                  have hx := Kp.mk (hm.out h3)
                  clear hm hm2
                  go_wp2
                  go_ret
                  exact ⟨ret_bool (by rw [hx.out]), hb⟩
                · have t3 : decide (yf < xe) = false := decide_eq_false h3
                  have hx := Kp.mk (hm2.out h3)
                  clear hm hm2
                  go_wp2
                  exact ⟨⟨k + 1, by omega, by go_num, hx, hb⟩, by simp [intOf]; omega⟩
              · by_cases h3 : xf < ye
                · have t3 : decide (xf < ye) = true := decide_eq_true h3
                  have hx := Kp.mk (hm.out h3)
                  clear hm hm2
                  go_wp2
                  go_ret
                  exact ⟨ret_bool (by rw [hx.out]), hb⟩
                · have t3 : decide (xf < ye) = false := decide_eq_false h3
                  have hx := Kp.mk (hm2.out h3)
                  clear hm hm2
                  go_wp2
                  exact ⟨⟨k + 1, by omega, by go_num, hx, hb⟩, by simp [intOf]; omega⟩
              · by_cases h3 : xf < xe
                · have t3 : decide (xf < xe) = true := decide_eq_true h3
                  have hx := Kp.mk (hm.out h3)
                  clear hm hm2
                  go_wp2
                  go_ret
                  exact ⟨ret_bool (by rw [hx.out]), hb⟩
                · have t3 : decide (xf < xe) = false := decide_eq_false h3
                  have hx := Kp.mk (hm2.out h3)
                  clear hm hm2
                  go_wp2
                  exact ⟨⟨k + 1, by omega, by go_num, hx, hb⟩, by simp [intOf]; omega⟩
            · have t2 : (xk == yk) = false := by simpa using h2
              refine wp_region_quiet_below (by kernel_rfl) (by kernel_rfl) ?_
              repeat (go_big_quiet_step (fail))
              refine wpQuiet_nil ?_
              rintro _ ⟨q, rfl⟩
              replace hb := bAgain hb q.d q.os
              have hx := Kp.mk (hnx.out fun hc => h2 (ht.out.1 hc).2.1)
              clear c0 c1 c3 c4 d0 d1 d3 d4 h1 hnx hyes ht h2
              go_wp2
              exact ⟨⟨k + 1, by omega, by go_num, hx, hb⟩, by simp [intOf]; omega⟩
          · have t1 : (xn == yn) = false := by simpa using h1
            refine wp_region_quiet_below (by kernel_rfl) (by kernel_rfl) ?_
            repeat (go_big_quiet_step (fail))
            refine wpQuiet_nil ?_
            rintro _ ⟨q, rfl⟩
            replace hb := bAgain hb q.d q.os
            have hx := Kp.mk (hnx.out fun hc => h1 (ht.out.1 hc).1)
            clear c0 c1 c3 c4 d0 d1 d3 d4 h1 hnx hyes ht
            go_wp2
            exact ⟨⟨k + 1, by omega, by go_num, hx, hb⟩, by simp [intOf]; omega⟩
        · obtain rfl : k = i := by omega
          have hv2 := Kp.mk (hst.out hnc.out)
          clear hst hno hnc hcell hA
          go_wp2
          exact ⟨⟨k + 1, by omega, by go_num, hv2, hb⟩, by simp [intOf]; omega⟩
    · obtain rfl : i = l.length := by omega
      have hfin : Kp (vsB l = true) := ⟨vsB_t (by have := hvs.out; rwa [List.take_length] at this)⟩
      clear hvs hA
      go_wp2
      go_ret
      exact ⟨ret_bool (by rw [hfin.out]), hb⟩
end Go.Proofs.YtlldlkjngcgcjaaGreatDoor
namespace Go.Proofs.YtlldlkjngcgcjaaGreatDoor
set_option linter.unusedVariables false
set_option linter.unusedSimpArgs false
open Go.RowKit Go.Shelf
attribute [local go_sem] Oper.semAt_some
theorem results_P {fn : Func} {t : Tmp} {g : Nat} {a b : Value} (h : fn.results = #[.cell t 31]) (tmps : Array Value) (w : World) (ht : tmps.getD t undef = .pointer (some ⟨g, 0, none⟩)) (hB : Bx w g 31 #[a, b]) :
    (results fn tmps).run Tryz.prog w = .ok (.agg #[a, b]) w := by
  have h0 := hB.cell 0 rfl
  have h1 := hB.cell 1 rfl
  have ht' : tmps[t]?.getD undef = .pointer (some ⟨g, 0, none⟩) := by simpa using ht
  simp only [results, h]
  simp [go_sem, ht', h0, h1, loadVar]
set_option maxRecDepth 100000 in
set_option maxHeartbeats 4000000 in
theorem part_any (d e : Int) (hd : I6 d) (he : I6 e) (w : World) :
    Calls Tryz.prog 31 #[.int .i64 d, .int .i64 e] w fun e' w' => e' = .returned (.agg #[.int .i64 (Tw.pick d 50), .int .i64 (Tw.pick d 50 + 1 + Tw.pick e 60)]) ∧ Below w.heap.size w w' := by
  have h1 := fun w0 => rpick_any d 50 (by decide) hd w0
  have h2 := fun w0 => rpick_any e 60 (by decide) he w0
  obtain ⟨p0, p1⟩ := Tw.pick_in d (n := 50) (by decide)
  obtain ⟨q0, q1⟩ := Tw.pick_in e (n := 60) (by decide)
  generalize Tw.pick d 50 = x at *
  generalize Tw.pick e 60 = y at *
  have hb := bNx w (.cells #[.int .i64 0, .int .i64 0] 31)
  have B := Bx.mk w 31 #[.int .i64 0, .int .i64 0]
  have c0 := B.cell 0 rfl
  have c1 := B.cell 1 rfl
  have f0 := B.frozen 0
  have f1 := B.frozen 1
  go_enter Tryz.func31, Tryz.ntmps31
  go_wp2_with fail
  refine (h1 _).mono ?_
  rintro _ w1 ⟨rfl, rfl⟩
  clear h1
  go_wp2_with fail
  refine (h2 _).mono ?_
  rintro _ w2 ⟨rfl, rfl⟩
  clear h2
  generalize w.alloc (.cells #[.int .i64 0, .int .i64 0] 31) = w3 at *
  go_wp2_with fail
  exact bodyPost_ret (results_P rfl _ _ rfl ((B.set 0 (.int .i64 x)).set 1 (.int .i64 (x + 1 + y)))) rfl ⟨rfl, bSet (bSet hb (p := ⟨w.heap.size, 0, none⟩) (Nat.le_refl _) _) (p := ⟨w.heap.size, 1, none⟩) (Nat.le_refl _) _⟩
end Go.Proofs.YtlldlkjngcgcjaaGreatDoor
namespace Go.Proofs.YtlldlkjngcgcjaaGreatDoor
set_option linter.unusedVariables false
set_option linter.unusedSimpArgs false
open Go.RowKit Go.Shelf
attribute [local go_sem] Oper.semAt_some
theorem results_S {fn : Func} {t : Tmp} {g : Nat} {a b c d e : Value} (hf : fn.results = #[.cell t 33]) (tmps : Array Value) (w : World) (ht : tmps.getD t undef = .pointer (some ⟨g, 0, none⟩)) (hB : Bx w g 33 #[a, b, c, d, e]) :
    (results fn tmps).run Tryz.prog w = .ok (.agg #[a, b, c, d, e]) w := by
  have h0 := hB.cell 0 rfl
  have h1 := hB.cell 1 rfl
  have h2 := hB.cell 2 rfl
  have h3 := hB.cell 3 rfl
  have h4 := hB.cell 4 rfl
  have ht' : tmps[t]?.getD undef = .pointer (some ⟨g, 0, none⟩) := by simpa using ht
  simp only [results, hf]
  simp [go_sem, ht', h0, h1, h2, h3, h4, loadVar]
set_option maxRecDepth 100000 in
set_option maxHeartbeats 4000000 in
theorem sone_any (a b c d e : Int) (ha : I6 a) (hb' : I6 b) (hc : I6 c) (hd : I6 d) (he : I6 e) (w : World) :
    Calls Tryz.prog 7 #[.agg #[.int .i64 a, .int .i64 b, .int .i64 c, .int .i64 d, .int .i64 e]] w fun e' w' => e' = .returned (.agg (stC (Tw.one ⟨a, b, c, d, e⟩)).toArray) ∧ Below w.heap.size w w' := by
  have hpa := fun w0 => rpick_any a 8 (by decide) ha w0
  have hpb := fun w0 => rpick_any b 8 (by decide) hb' w0
  have hpc := fun w0 => rpick_any c 7 (by decide) hc w0
  have hpt := fun w0 => part_any d e hd he w0
  obtain ⟨a0, a1⟩ := Tw.pick_in a (n := 8) (by decide)
  obtain ⟨b0, b1⟩ := Tw.pick_in b (n := 8) (by decide)
  obtain ⟨c0, c1⟩ := Tw.pick_in c (n := 7) (by decide)
  have hone : Kp (Tw.one ⟨a, b, c, d, e⟩ = ⟨10 + Tw.pick a 8, if Tw.pick b 8 > 4 then Tw.pick b 8 - 3 else 1, 10 + (Tw.pick a 8 + 1 + Tw.pick c 7) % 8, Tw.pick d 50, Tw.pick d 50 + 1 + Tw.pick e 60⟩) := ⟨rfl⟩
  generalize Tw.pick a 8 = pa at *
  generalize Tw.pick b 8 = pb at *
  generalize Tw.pick c 7 = pc at *
  generalize Tw.pick d 50 = x at *
  generalize Tw.pick e 60 = y at *
  have hb := bNew (bNx w (.cells #[.int .i64 a, .int .i64 b, .int .i64 c, .int .i64 d, .int .i64 e] 24)) (.cells #[.int .i64 0, .int .i64 0, .int .i64 0, .int .i64 0, .int .i64 0] 33)
  have B := (Bx.mk w 24 #[.int .i64 a, .int .i64 b, .int .i64 c, .int .i64 d, .int .i64 e]).new (.cells #[.int .i64 0, .int .i64 0, .int .i64 0, .int .i64 0, .int .i64 0] 33)
  have R := Bx.mk (w.alloc (.cells #[.int .i64 a, .int .i64 b, .int .i64 c, .int .i64 d, .int .i64 e] 24)) 33 #[.int .i64 0, .int .i64 0, .int .i64 0, .int .i64 0, .int .i64 0]
  have z0 := B.cell 0 rfl
  go_enter Tryz.func7, Tryz.ntmps7
  go_wp2_with fail
  refine (hpa _).mono ?_
  rintro _ w1 ⟨rfl, rfl⟩
  simp only [World.size_alloc] at R
  clear hpa z0
  generalize (w.alloc (.cells #[.int .i64 a, .int .i64 b, .int .i64 c, .int .i64 d, .int .i64 e] 24)).alloc (.cells #[.int .i64 0, .int .i64 0, .int .i64 0, .int .i64 0, .int .i64 0] 33) = w1 at *
  go_wp2_with fail
  refine wp_region_rgl [Eqv (.int .i64 pa), Eqv (.int .i64 (10 + pa)), Eqv (.int .i64 pa), Eqv (.int .i64 (pa + 1)), Eqv (.pointer (some ⟨w.heap.size, 2, none⟩)), Eqv (.int .i64 c), Eqv (.int .i64 pc), Eqv (.int .i64 (pa + 1 + pc)), Eqv (.int .i64 ((pa + 1 + pc) % 8)), Eqv (.int .i64 (10 + (pa + 1 + pc) % 8)), Eqv (.pointer (some ⟨w.heap.size, 3, none⟩)), Eqv (.int .i64 d), Eqv (.pointer (some ⟨w.heap.size, 4, none⟩)), Eqv (.int .i64 e), Eqv (.agg #[.int .i64 x, .int .i64 (x + 1 + y)]), Eqv (.agg #[.int .i64 (10 + pa), .int .i64 1, .int .i64 (10 + (pa + 1 + pc) % 8), .int .i64 x, .int .i64 (x + 1 + y)]), (fun v W => ∃ g, v = .pointer (some ⟨g, 0, none⟩) ∧ w1.heap.size ≤ g ∧ Bx W g 33 #[.int .i64 0, .int .i64 0, .int .i64 0, .int .i64 0, .int .i64 0])] 17 34 (by kernel_rfl) rfl rfl (by kernel_rfl) ?_ ?_ ?_
  · simp only [AllS]
    exact ⟨stab_eqv _, stab_eqv _, stab_eqv _, stab_eqv _, stab_eqv _, stab_eqv _, stab_eqv _, stab_eqv _, stab_eqv _, stab_eqv _, stab_eqv _, stab_eqv _, stab_eqv _, stab_eqv _, stab_eqv _, stab_eqv _, (fun v w w' ⟨g, h1, h2, h3⟩ hb => ⟨g, h1, h2, h3.call hb⟩), trivial⟩
  · simp only [Users, List.take, List.length]
    refine ⟨?_, ?_, ?_, ?_, ?_, ?_, ?_, ?_, ?_, ?_, ?_, ?_, ?_, ?_, ?_, ?_, ?_, trivial⟩
    all_goals (intro vs w2 hb2 hd; simp only [putD, Act.put, List.nil_append, List.cons_append, List.setIfInBounds_toArray, List.set_cons_succ, List.set_cons_zero, Nat.reduceAdd])
    · clear hd R; go_wp2; first | exact ⟨Below.refl _ _, rfl⟩ | exact ⟨Below.refl _ _, by simp [Eqv]⟩ | (simp [Eqv])
    · have e0 := hd 0 rfl; change vs 0 = _ at e0; clear hd R; rw [e0]; go_wp2; first | exact ⟨Below.refl _ _, rfl⟩ | exact ⟨Below.refl _ _, by simp [Eqv]⟩ | (simp [Eqv])
    · clear hd R; go_wp2; first | exact ⟨Below.refl _ _, rfl⟩ | exact ⟨Below.refl _ _, by simp [Eqv]⟩ | (simp [Eqv])
    · have e0 := hd 2 rfl; change vs 2 = _ at e0; clear hd R; rw [e0]; go_wp2; first | exact ⟨Below.refl _ _, rfl⟩ | exact ⟨Below.refl _ _, by simp [Eqv]⟩ | (simp [Eqv])
    · clear hd R; go_wp2; first | exact ⟨Below.refl _ _, rfl⟩ | exact ⟨Below.refl _ _, by simp [Eqv]⟩ | (simp [Eqv])
    · have e0 := hd 4 rfl; change vs 4 = _ at e0; have x0 := (B.call hb2).cell 2 rfl; clear hd R; rw [e0]; go_wp2; first | exact ⟨Below.refl _ _, rfl⟩ | exact ⟨Below.refl _ _, by simp [Eqv]⟩ | (simp [Eqv])
    · have e0 := hd 5 rfl; change vs 5 = _ at e0; have hC := hpc w2; clear hd R; rw [e0]
      go_wp2_with fail
      refine hC.mono ?_
      rintro _ w9 ⟨rfl, rfl⟩
      clear hC
      go_wp2
      first | exact ⟨hb9, rfl⟩ | exact ⟨Below.refl _ _, rfl⟩ | rfl
    · have e0 := hd 3 rfl; change vs 3 = _ at e0; have e1 := hd 6 rfl; change vs 6 = _ at e1; clear hd R; rw [e0, e1]; go_wp2; first | exact ⟨Below.refl _ _, rfl⟩ | exact ⟨Below.refl _ _, by simp [Eqv]⟩ | (simp [Eqv])
    · have e0 := hd 7 rfl; change vs 7 = _ at e0; clear hd R; rw [e0]; go_wp2; first | exact ⟨Below.refl _ _, rfl⟩ | exact ⟨Below.refl _ _, by simp [Eqv]⟩ | (simp [Eqv])
    · have e0 := hd 8 rfl; change vs 8 = _ at e0; clear hd R; rw [e0]; go_wp2; first | exact ⟨Below.refl _ _, rfl⟩ | exact ⟨Below.refl _ _, by simp [Eqv]⟩ | (simp [Eqv])
    · clear hd R; go_wp2; first | exact ⟨Below.refl _ _, rfl⟩ | exact ⟨Below.refl _ _, by simp [Eqv]⟩ | (simp [Eqv])
    · have e0 := hd 10 rfl; change vs 10 = _ at e0; have x0 := (B.call hb2).cell 3 rfl; clear hd R; rw [e0]; go_wp2; first | exact ⟨Below.refl _ _, rfl⟩ | exact ⟨Below.refl _ _, by simp [Eqv]⟩ | (simp [Eqv])
    · clear hd R; go_wp2; first | exact ⟨Below.refl _ _, rfl⟩ | exact ⟨Below.refl _ _, by simp [Eqv]⟩ | (simp [Eqv])
    · have e0 := hd 12 rfl; change vs 12 = _ at e0; have x0 := (B.call hb2).cell 4 rfl; clear hd R; rw [e0]; go_wp2; first | exact ⟨Below.refl _ _, rfl⟩ | exact ⟨Below.refl _ _, by simp [Eqv]⟩ | (simp [Eqv])
    · have e0 := hd 11 rfl; change vs 11 = _ at e0; have e1 := hd 13 rfl; change vs 13 = _ at e1; have hC := hpt w2; clear hd R; rw [e0, e1]
      go_wp2_with fail
      refine hC.mono ?_
      rintro _ w9 ⟨rfl, hb9⟩
      clear hC
      go_wp2
      first | exact ⟨hb9, rfl⟩ | exact ⟨Below.refl _ _, rfl⟩ | rfl
    · have e0 := hd 1 rfl; change vs 1 = _ at e0; have e1 := hd 9 rfl; change vs 9 = _ at e1; have e2 := hd 14 rfl; change vs 14 = _ at e2; clear hd R; rw [e0, e1, e2]; go_wp2; first | exact ⟨Below.refl _ _, rfl⟩ | exact ⟨Below.refl _ _, by simp [Eqv]⟩ | (simp [Eqv])
    · have hsz := hb2.size
      clear hd B R
      go_wp2
      exact ⟨bNew (Below.refl _ _) _, w2.heap.size, rfl, hsz, Bx.mk w2 _ _⟩
  · intro vs wa hba hR2
    simp only [AllR, Eqv] at hR2
    obtain ⟨e0, -, -, -, -, -, -, -, -, -, -, -, -, -, -, e15, e16, -⟩ := hR2
    simp only [List.drop, List.take, List.map, putD, Act.put, List.setIfInBounds_toArray, List.set_cons_succ, List.set_cons_zero, Nat.reduceAdd]
    obtain ⟨g, eg, hg, hG⟩ := e16
    rw [e0, e15, eg]
    have hbl := B.lt
    have hRl := R.lt
    replace B := B.call hba
    replace R := R.call hba
    replace hb := bCall hb hba
    have g0 := hG.cell 0 rfl
    have g1 := hG.cell 1 rfl
    have g2 := hG.cell 2 rfl
    have g3 := hG.cell 3 rfl
    have g4 := hG.cell 4 rfl
    have f0 := hG.frozen 0
    have f1 := hG.frozen 1
    have f2 := hG.frozen 2
    have f3 := hG.frozen 3
    have f4 := hG.frozen 4
    go_upto_region 3 with fail
    have G2 := (((((hG.set 0 (.int .i64 (10 + pa))).set 1 (.int .i64 1)).set 2 (.int .i64 (10 + (pa + 1 + pc) % 8))).set 3 (.int .i64 x)).set 4 (.int .i64 (x + 1 + y)))
    have B2 := (((((B.far (p := ⟨g, 0, none⟩) (by show w.heap.size ≠ g; omega) (.int .i64 (10 + pa))).far (p := ⟨g, 1, none⟩) (by show w.heap.size ≠ g; omega) (.int .i64 1)).far (p := ⟨g, 2, none⟩) (by show w.heap.size ≠ g; omega) (.int .i64 (10 + (pa + 1 + pc) % 8))).far (p := ⟨g, 3, none⟩) (by show w.heap.size ≠ g; omega) (.int .i64 x)).far (p := ⟨g, 4, none⟩) (by show w.heap.size ≠ g; omega) (.int .i64 (x + 1 + y)))
    have R2 := (((((R.far (p := ⟨g, 0, none⟩) (by show w.heap.size + 1 ≠ g; omega) (.int .i64 (10 + pa))).far (p := ⟨g, 1, none⟩) (by show w.heap.size + 1 ≠ g; omega) (.int .i64 1)).far (p := ⟨g, 2, none⟩) (by show w.heap.size + 1 ≠ g; omega) (.int .i64 (10 + (pa + 1 + pc) % 8))).far (p := ⟨g, 3, none⟩) (by show w.heap.size + 1 ≠ g; omega) (.int .i64 x)).far (p := ⟨g, 4, none⟩) (by show w.heap.size + 1 ≠ g; omega) (.int .i64 (x + 1 + y)))
    have hb2 := (bSet (bSet (bSet (bSet (bSet hb (p := ⟨g, 0, none⟩) (by show _ ≤ g; omega) (.int .i64 (10 + pa))) (p := ⟨g, 1, none⟩) (by show _ ≤ g; omega) (.int .i64 1)) (p := ⟨g, 2, none⟩) (by show _ ≤ g; omega) (.int .i64 (10 + (pa + 1 + pc) % 8))) (p := ⟨g, 3, none⟩) (by show _ ≤ g; omega) (.int .i64 x)) (p := ⟨g, 4, none⟩) (by show _ ≤ g; omega) (.int .i64 (x + 1 + y)))
    clear g0 g1 g2 g3 g4 f0 f1 f2 f3 f4 hG B R hb hba
    generalize (((((wa.setCell ⟨g, 0, none⟩ (.int .i64 (10 + pa))).setCell ⟨g, 1, none⟩ (.int .i64 1)).setCell ⟨g, 2, none⟩ (.int .i64 (10 + (pa + 1 + pc) % 8))).setCell ⟨g, 3, none⟩ (.int .i64 x)).setCell ⟨g, 4, none⟩ (.int .i64 (x + 1 + y))) = w2 at *
    have q1 := B2.cell 1 rfl
    by_cases hgt : pb > 4
    · have tg : decide (pb > 4) = true := decide_eq_true hgt
      rw [if_pos hgt] at hone
      have G3 := G2.set 1 (.int .i64 (pb - 3))
      have B3 := B2.far (p := ⟨g, 1, none⟩) (by show w.heap.size ≠ g; omega) (.int .i64 (pb - 3))
      have R3 := R2.far (p := ⟨g, 1, none⟩) (by show w.heap.size + 1 ≠ g; omega) (.int .i64 (pb - 3))
      have hb3 := bSet hb2 (p := ⟨g, 1, none⟩) (by show _ ≤ g; omega) (.int .i64 (pb - 3))
      have gc := G2.cell 1 rfl
      have gf := G2.frozen 1
      go_upto_region 5 with (go_at_call 30; refine (hpb _).mono ?_; rintro _ w4 ⟨rfl, rfl⟩)
      clear gc gf G2 B2 R2 hb2 q1 hpb
      generalize w2.setCell ⟨g, 1, none⟩ (.int .i64 (pb - 3)) = w3 at *
      have k0 := G3.cell 0 rfl
      have r0 := R3.cell 0 rfl
      have fr0 := R3.frozen 0
      have k1 := G3.cell 1 rfl
      have r1 := R3.cell 1 rfl
      have fr1 := R3.frozen 1
      have k2 := G3.cell 2 rfl
      have r2 := R3.cell 2 rfl
      have fr2 := R3.frozen 2
      have k3 := G3.cell 3 rfl
      have r3 := R3.cell 3 rfl
      have fr3 := R3.frozen 3
      have k4 := G3.cell 4 rfl
      have r4 := R3.cell 4 rfl
      have fr4 := R3.frozen 4
      go_wp2_with fail
      exact bodyPost_ret (results_S rfl _ _ rfl (((((R3.set 0 (.int .i64 (10 + pa))).set 1 (.int .i64 (pb - 3))).set 2 (.int .i64 (10 + (pa + 1 + pc) % 8))).set 3 (.int .i64 x)).set 4 (.int .i64 (x + 1 + y)))) rfl ⟨by rw [hone.out]; rfl, (bSet (bSet (bSet (bSet (bSet hb3 (p := ⟨w.heap.size + 1, 0, none⟩) (by show _ ≤ w.heap.size + 1; omega) (.int .i64 (10 + pa))) (p := ⟨w.heap.size + 1, 1, none⟩) (by show _ ≤ w.heap.size + 1; omega) (.int .i64 (pb - 3))) (p := ⟨w.heap.size + 1, 2, none⟩) (by show _ ≤ w.heap.size + 1; omega) (.int .i64 (10 + (pa + 1 + pc) % 8))) (p := ⟨w.heap.size + 1, 3, none⟩) (by show _ ≤ w.heap.size + 1; omega) (.int .i64 x)) (p := ⟨w.heap.size + 1, 4, none⟩) (by show _ ≤ w.heap.size + 1; omega) (.int .i64 (x + 1 + y)))⟩
    · have tg : decide (pb > 4) = false := decide_eq_false hgt
      rw [if_neg hgt] at hone
      go_upto_region 5 with (go_at_call 30; refine (hpb _).mono ?_; rintro _ w4 ⟨rfl, rfl⟩)
      have k0 := G2.cell 0 rfl
      have r0 := R2.cell 0 rfl
      have fr0 := R2.frozen 0
      have k1 := G2.cell 1 rfl
      have r1 := R2.cell 1 rfl
      have fr1 := R2.frozen 1
      have k2 := G2.cell 2 rfl
      have r2 := R2.cell 2 rfl
      have fr2 := R2.frozen 2
      have k3 := G2.cell 3 rfl
      have r3 := R2.cell 3 rfl
      have fr3 := R2.frozen 3
      have k4 := G2.cell 4 rfl
      have r4 := R2.cell 4 rfl
      have fr4 := R2.frozen 4
      go_wp2_with fail
      exact bodyPost_ret (results_S rfl _ _ rfl (((((R2.set 0 (.int .i64 (10 + pa))).set 1 (.int .i64 1)).set 2 (.int .i64 (10 + (pa + 1 + pc) % 8))).set 3 (.int .i64 x)).set 4 (.int .i64 (x + 1 + y)))) rfl ⟨by rw [hone.out]; rfl, (bSet (bSet (bSet (bSet (bSet hb2 (p := ⟨w.heap.size + 1, 0, none⟩) (by show _ ≤ w.heap.size + 1; omega) (.int .i64 (10 + pa))) (p := ⟨w.heap.size + 1, 1, none⟩) (by show _ ≤ w.heap.size + 1; omega) (.int .i64 1)) (p := ⟨w.heap.size + 1, 2, none⟩) (by show _ ≤ w.heap.size + 1; omega) (.int .i64 (10 + (pa + 1 + pc) % 8))) (p := ⟨w.heap.size + 1, 3, none⟩) (by show _ ≤ w.heap.size + 1; omega) (.int .i64 x)) (p := ⟨w.heap.size + 1, 4, none⟩) (by show _ ≤ w.heap.size + 1; omega) (.int .i64 (x + 1 + y)))⟩
end Go.Proofs.YtlldlkjngcgcjaaGreatDoor
namespace Go.Proofs.YtlldlkjngcgcjaaGreatDoor.RS
set_option linter.unusedVariables false
open Go.RowKit
variable {B : Nat} {t : TypeId} {cs : Array Value} {W w w' : World}
theorem KF.rf (B : Nat) (t : TypeId) (cs : Array Value) (w : World) : KF B t cs w w := (cls_KF B t cs).refl w
theorem KF.call (h : KF B t cs W w) (hB : B ≤ W.heap.size) (hb : Below w.heap.size w w') : KF B t cs w w' := KF.of (Nat.le_trans hB h.2.1) hb
theorem KF.new (h : KF B t cs W w) (hB : B ≤ W.heap.size) (z : Array Value) (hz : z.size = cs.size) (x : Value) : KF B t cs w (w.alloc (.cells z t)) ∧ PtrR B t cs x (.pointer (some ⟨w.heap.size, 0, none⟩)) (w.alloc (.cells z t)) :=
  ⟨h.call hB (bNew (Below.refl w.heap.size w) _), _, z, rfl, Nat.le_trans hB h.2.1, hz, Bx.mk w t z⟩
theorem two_cells {c : Array Value} (h : c.size = 2) : ∃ a b, c = #[a, b] := by
  refine ⟨c[0], c[1], ?_⟩
  apply Array.ext
  · simp [h]
  · intro i h1 h2
    have : i = 0 ∨ i = 1 := by omega
    rcases this with rfl | rfl <;> rfl
theorem KF.store2 {x y a b : Value} {g : Nat} (hg : B ≤ g) (hB : Bx w g t #[a, b]) (u : Value) (hu : u = .pointer (some ⟨g, 0, none⟩)) (z : Value) :
    KF B t #[x, y] w ((w.setCell ⟨g, 0, none⟩ x).setCell ⟨g, 1, none⟩ y) ∧ StoR B t #[x, y] u z ((w.setCell ⟨g, 0, none⟩ x).setCell ⟨g, 1, none⟩ y) := by
  have h2 : Bx ((w.setCell ⟨g, 0, none⟩ x).setCell ⟨g, 1, none⟩ y) g t #[x, y] := by simpa using (hB.set 0 x).set 1 y
  refine ⟨⟨((Below.refl B w).setCell (p := ⟨g, 0, none⟩) hg x).setCell (p := ⟨g, 1, none⟩) hg y, ?_, fun g' c hg' h hc => ?_⟩, g, hu, hg, h2⟩
  · have := ((Below.refl B w).setCell (p := ⟨g, 0, none⟩) hg x).setCell (p := ⟨g, 1, none⟩) hg y
    exact this.size
  · by_cases e : g' = g
    · subst e
      have ht : c.size = 2 ∧ True := ⟨hc, trivial⟩
      right
      exact h2
    · left
      exact (h.far (p := ⟨g, 0, none⟩) e x).far (p := ⟨g, 1, none⟩) e y
end Go.Proofs.YtlldlkjngcgcjaaGreatDoor.RS
namespace Go.Proofs.YtlldlkjngcgcjaaGreatDoor
set_option linter.unusedVariables false
set_option linter.unusedSimpArgs false
open Go.RowKit
/-- below B nothing changes; a block from B on keeps its cells up to pos + news.length, or holds there what is appended -/
def KH (B : Nat) (e : TypeId) (pos : Nat) (news : List Value) (w w' : World) : Prop := Below B w w' ∧ w.heap.size ≤ w'.heap.size ∧ ∀ g c, B ≤ g → Bx w g e c → ∃ c', Bx w' g e c' ∧ c'.size = c.size ∧ ∀ (i : Nat) (v : Value), i < pos + news.length → c[i]? = some v → c'[i]? = some v ∨ (pos ≤ i ∧ ∃ u, news[i - pos]? = some u ∧ c'[i]? = some u)
theorem KH.rf (B : Nat) (e : TypeId) (pos : Nat) (news : List Value) (w : World) : KH B e pos news w w := ⟨Below.refl _ _, Nat.le_refl _, fun g c _ h => ⟨c, h, rfl, fun i v _ hv => .inl hv⟩⟩
theorem cls_KH (B : Nat) (e : TypeId) (pos : Nat) (news : List Value) : RS.Cls (KH B e pos news) :=
  ⟨KH.rf B e pos news, fun h1 h2 => ⟨h1.1.trans h2.1, Nat.le_trans h1.2.1 h2.2.1, fun g c hg h => by
     obtain ⟨c1, a1, a2, a3⟩ := h1.2.2 g c hg h
     obtain ⟨c2, b1, b2, b3⟩ := h2.2.2 g c1 hg a1
     refine ⟨c2, b1, b2.trans a2, fun i v hi hv => ?_⟩
     rcases a3 i v hi hv with h3 | ⟨h3, u, h4, h5⟩
     · exact b3 i v hi h3
     · rcases b3 i u hi h5 with h6 | h6
       · exact .inr ⟨h3, u, h4, h6⟩
       · exact .inr h6⟩,
   fun w n => ⟨⟨rfl, rfl, rfl, Nat.le_refl _, fun _ _ => rfl⟩, Nat.le_refl _, fun g c _ h => ⟨c, h, rfl, fun i v _ hv => .inl hv⟩⟩⟩
theorem KH.of {B : Nat} {e : TypeId} {pos : Nat} {news : List Value} {w w' : World} (hB : B ≤ w.heap.size) (h : Below w.heap.size w w') : KH B e pos news w w' := ⟨h.mono hB, h.size, fun g c _ hb => ⟨c, hb.call h, rfl, fun i v _ hv => .inl hv⟩⟩
theorem KH.call {B : Nat} {e : TypeId} {pos : Nat} {news : List Value} {W w w' : World} (h : KH B e pos news W w) (hB : B ≤ W.heap.size) (hb : Below w.heap.size w w') : KH B e pos news w w' := KH.of (Nat.le_trans hB h.2.1) hb
/-- a slice of one's own, its first n elements known -/
def RoH (e : TypeId) (size B n : Nat) (flat : List Value) : RS.Rl := fun _ v w => RowZ e size B n flat v w
theorem flat_cells {cs : Array Value} {flat : List Value} {k : Nat} (hk : flat.length = k) (h : cs.toList.take k = flat) {i : Nat} (hi : i < k) : cs[i]? = flat[i]? := by
  rw [← h, List.getElem?_take, if_pos hi]; simp
theorem flat_of {cs : Array Value} {flat : List Value} {k : Nat} (hk : flat.length = k) (hs : k ≤ cs.size) (h : ∀ i, i < k → cs[i]? = flat[i]?) : cs.toList.take k = flat := by
  apply List.ext_getElem?
  intro i
  rw [List.getElem?_take]
  by_cases hi : i < k
  · rw [if_pos hi, ← h i hi]; simp
  · rw [if_neg hi, List.getElem?_eq_none (by omega)]
theorem stab_roH {e : TypeId} {size B n : Nat} {flat news : List Value} (hf : flat.length = n * size) : RS.Stab (KH B e (n * size) news) (RoH e size B n flat) := fun x v w w' hr hK => by
  rcases hr with h | ⟨cap, ⟨g, cells, rfl, hg, hnc, hbx, hcs, hfl⟩, hm⟩
  · exact .inl h
  · obtain ⟨c', h1, h2, h3⟩ := hK.2.2 g cells hg hbx
    refine .inr ⟨cap, ⟨g, c', rfl, hg, hnc, h1, by rw [h2, hcs], ?_⟩, hm⟩
    have hle : n * size ≤ cells.size := by rw [hcs]; exact Nat.mul_le_mul_right _ hnc
    refine flat_of hf (by rw [h2]; exact hle) fun i hi => ?_
    have hci : cells[i]? = some (cells[i]'(by omega)) := Array.getElem?_eq_getElem (by omega)
    rw [← flat_cells hf hfl hi, hci]
    rcases h3 i _ (by omega) hci with h4 | ⟨h4, -⟩
    · exact h4
    · omega
theorem stab_roH2 {e : TypeId} {size B n m : Nat} {flat news : List Value} (hf : flat.length = n * size) (hn : news.length = m * size) : RS.Stab (KH B e (n * size) news) (RoH e size B (n + m) (flat ++ news)) := fun x v w w' hr hK => by
  rcases hr with h | ⟨cap, ⟨g, cells, rfl, hg, hnc, hbx, hcs, hfl⟩, hm⟩
  · exact .inl h
  · obtain ⟨c', h1, h2, h3⟩ := hK.2.2 g cells hg hbx
    refine .inr ⟨cap, ⟨g, c', rfl, hg, hnc, h1, by rw [h2, hcs], ?_⟩, hm⟩
    have hl : (flat ++ news).length = (n + m) * size := by rw [List.length_append, hf, hn, Nat.add_mul]
    have hle : (n + m) * size ≤ cells.size := by rw [hcs]; exact Nat.mul_le_mul_right _ hnc
    refine flat_of hl (by rw [h2]; exact hle) fun i hi => ?_
    have hci : cells[i]? = some (cells[i]'(by omega)) := Array.getElem?_eq_getElem (by omega)
    have hfi := flat_cells hl hfl hi
    rw [Nat.add_mul, ← hn] at hi
    rcases h3 i _ hi hci with h4 | ⟨h4, u, h5, h6⟩
    · rw [← hfi, hci, h4]
    · rw [List.getElem?_append_right (by omega), hf, h5, h6]
/-- the slice of what is appended -/
def SlN (B : Nat) (e : TypeId) (m : Nat) (news : List Value) : RS.Rl := fun _ v w => ∃ g, v = .slice (some ⟨g, 0, none⟩) m m ∧ B ≤ g ∧ Bx w g e news.toArray
theorem stab_slN {B : Nat} {e : TypeId} {pos m : Nat} {news : List Value} (h : pos = 0 ∨ news.length ≤ pos) : RS.Stab (KH B e pos news) (SlN B e m news) := fun x v w w' ⟨g, e1, hg, hB⟩ hK => by
  obtain ⟨c', h1, h2, h3⟩ := hK.2.2 g _ hg hB
  refine ⟨g, e1, hg, ?_⟩
  have : c' = news.toArray := by
    apply Array.ext_getElem?
    intro i
    by_cases hi : i < news.length
    · have hci : news.toArray[i]? = some news[i] := by simp [hi]
      rw [hci]
      rcases h3 i _ (by omega) hci with h4 | ⟨h4, u, h5, h6⟩
      · exact h4
      · obtain rfl : pos = 0 := by omega
        rw [Nat.sub_zero, List.getElem?_eq_getElem hi] at h5
        rw [h6, ← h5]
    · rw [Array.getElem?_eq_none (by rw [h2]; simpa using hi), Array.getElem?_eq_none (by simpa using hi)]
  rw [← this]; exact h1
theorem append_KH {P : Program} (w : World) (t ty e : TypeId) (i : TypeInfo) (z : Value) (size B n m : Nat) (flat news : List Value) (v x : Value) (ht : P.underlying t = some (.slice e)) (hi : P.info? e = some i) (hz : i.zero = some z)
    (hsize : i.size = size) (hzs : z.cells.size = size) (hv : RowZ e size B n flat v w) (hB : B ≤ w.heap.size) (hs : Src P size t x m news w) (hm : 0 < m) (h63 : n + m ≤ maxLen) (hb : (n + m) * i.bytes ≤ 140737488355328) :
    ∃ v' w', (Builtin.append_ #[t, t] ty #[v, x]).run P w = .ok v' w' ∧ KH B e (n * size) news w w' ∧ RowZ e size B (n + m) (flat ++ news) v' w' := by
  rcases hv with ⟨rfl, rfl, rfl⟩ | ⟨cap, hv, hcm⟩
  · subst hsize
    have hnl := hs.newsLen
    have hold : (Builtin.firstCells i.size 0 (.slice none 0 0)).run P w.drew = .ok ([] : List Value).toArray w.drew := by simp [Builtin.firstCells, loadCells, loadCellsFrom]
    have hrun := run_append_grow_src (P := P) w t t ty e i z ht hi hz none 0 0 [] hold x m news hs (by omega) (by simp only [maxLen] at h63; omega) (growslice_fits (by omega) hb)
    have hge := grownCap_ge w (0 + m) 0 e
    refine ⟨_, _, hrun, KH.of hB (((Below.refl w.heap.size w).drew).alloc (Nat.le_refl _) _), .inr ⟨_, ⟨w.heap.size, _, rfl, hB, hge, Bx.mk w.drew e _, ?_, ?_⟩, grownCap_le_maxLen w (0 + m) 0 e h63⟩⟩
    · rw [Array.size_append, List.size_toArray, List.length_append, List.length_nil, hnl, size_zeroCells, hzs, Nat.zero_add, ← Nat.add_mul]
      congr 1; omega
    · rw [Array.toList_append, List.take_append_of_le_length (by simp [hnl, Nat.add_mul])]
      rw [List.take_of_length_le (by simp [hnl, Nat.add_mul])]
  · obtain ⟨g, cells, rfl, hg, hnc, hbx, hcs, hfl⟩ := hv
    subst hsize
    have hnl := hs.newsLen
    by_cases hroom : n + m ≤ cap
    · have hle : n * i.size + news.length ≤ cells.size := by rw [hnl, hcs, ← Nat.add_mul]; exact Nat.mul_le_mul_right _ hroom
      have hrun := run_append_room_src (P := P) w t t ty e i ht hi g 0 n cap x m news hs hroom (fun j hj => by
        rw [hbx.cell (0 + n * i.size + j) (v := cells[0 + n * i.size + j]'(by omega)) (by simp)]; rfl) (fun j _ => hbx.frozen _)
      obtain ⟨cs', h1, h2, h3⟩ := hbx.setCells news (0 + n * i.size) w cells (by omega)
      have h3' : cs'.toList.take (n * i.size + news.length) = flat ++ news := by rw [Nat.zero_add] at h3; rw [h3, hfl]
      have hbl : Below B w (w.setCells g (0 + n * i.size) news) := by
        clear hrun h1 h2 h3 hs
        generalize 0 + n * i.size = o
        have : ∀ (vs : List Value) (o : Nat) (w' : World), Below B w w' → Below B w (w'.setCells g o vs) := by
          intro vs
          induction vs with
          | nil => intro o w' h; exact h
          | cons a l ih => intro o w' h; exact ih _ _ (h.setCell hg _)
        exact this news o w (Below.refl _ _)
      refine ⟨_, _, hrun, ⟨hbl, size_setCells _ _ _, fun b c hb' hc => ?_⟩, .inr ⟨cap, ⟨g, cs', rfl, hg, hroom, h1, by rw [h2, hcs], ?_⟩, hcm⟩⟩
      · by_cases hbg : b = g
        · subst hbg
          have hcc : c = cells := by
            have := (show w.heap[b]? = _ from hc).symm.trans hbx
            simpa using this
          subst hcc
          refine ⟨cs', h1, h2, fun j u hj hu => ?_⟩
          have hflen : flat.length = n * i.size := by rw [← hfl, List.length_take, Array.length_toList]; omega
          have hc' : cs'[j]? = (flat ++ news)[j]? := flat_cells (by rw [List.length_append, hflen]) h3' hj
          by_cases hjp : j < n * i.size
          · left
            rw [hc', List.getElem?_append_left (by omega), ← flat_cells hflen hfl hjp, hu]
          · right
            refine ⟨by omega, ?_⟩
            rw [hc', List.getElem?_append_right (by omega), hflen]
            exact ⟨_, List.getElem?_eq_getElem (by omega), List.getElem?_eq_getElem (by omega)⟩
        · exact ⟨c, (heap_setCells hbg _ _ _).trans hc, rfl, fun j u _ hu => .inl hu⟩
      · rw [Nat.add_mul, ← hnl]; exact h3'
    · have hfl' : flat.length = n * i.size := by
        rw [← hfl, List.length_take, Array.length_toList, hcs]
        exact Nat.min_eq_left (Nat.mul_le_mul_right _ hnc)
      have hold : (Builtin.firstCells i.size n (.slice (some ⟨g, 0, none⟩) n cap)).run P w.drew = .ok flat.toArray w.drew :=
        run_firstCells_some w.drew i.size n ⟨g, 0, none⟩ n cap flat hfl' fun j u hu => by
          have hj : cells[j]? = some u := by
            rw [← hfl, List.getElem?_take] at hu
            split at hu
            · simpa using hu
            · cases hu
          rw [Addr.add_lit, Nat.zero_add]
          exact (show Bx w.drew g e cells from hbx).cell j hj
      have hrun := run_append_grow_src (P := P) w t t ty e i z ht hi hz (some ⟨g, 0, none⟩) n cap flat hold x m news hs (by omega) (by simp only [maxLen] at h63; omega) (growslice_fits (by omega) hb)
      have hge := grownCap_ge w (n + m) cap e
      refine ⟨_, _, hrun, KH.of hB (((Below.refl w.heap.size w).drew).alloc (Nat.le_refl _) _), .inr ⟨_, ⟨w.heap.size, _, rfl, hB, hge, Bx.mk w.drew e _, ?_, ?_⟩, grownCap_le_maxLen w (n + m) cap e h63⟩⟩
      · rw [Array.size_append, List.size_toArray, List.length_append, hfl', hnl, size_zeroCells, hzs, ← Nat.add_mul, ← Nat.add_mul]
        congr 1; omega
      · rw [Array.toList_append, List.take_append_of_le_length (by simp [hfl', hnl, Nat.add_mul])]
        rw [List.take_of_length_le (by simp [hfl', hnl, Nat.add_mul])]
/-- at the list of a region's operations -/
theorem wpList_append_KH {P : Program} {w : World} {ops : Array Oper} {rest : List Oper} {o : Oper} {a : Act} {Q : Exit → Act → World → Prop} (hgd : o.guard = none) (s y : Operand) (t e : TypeId) (ho : o.op = .call { callee := .builtin .append, args := #[s, y], argTypes := #[t, t] })
    (i : TypeInfo) (z : Value) (size B n m : Nat) (flat news : List Value) (v x : Value) (ht : P.underlying t = some (.slice e)) (hi : P.info? e = some i) (hz : i.zero = some z)
    (hsize : i.size = size) (hzs : z.cells.size = size) (hes : a.eval s = v) (hey : a.eval y = x) (hv : RowZ e size B n flat v w) (hB : B ≤ w.heap.size) (hs : Src P size t x m news w) (hm : 0 < m) (h63 : n + m ≤ maxLen) (hb : (n + m) * i.bytes ≤ 140737488355328)
    (h : ∀ v' w', KH B e (n * size) news w w' → RowZ e size B (n + m) (flat ++ news) v' w' → wpList P ops Q rest (a.put o.dst v') w') : wpList P ops Q (o :: rest) a w := by
  obtain ⟨v', w', hr, h1, h2⟩ := append_KH (P := P) w t o.type e i z size B n m flat news v x ht hi hz hsize hzs hv hB hs hm h63 hb
  refine wpList_plain hgd fun _ hK => ?_
  unfold Oper.wp execOp
  simp only [ho, resolve, invoke, builtin, Sem.run_bind, Sem.run_pure, Result.andThen_ok, List.map_toArray, List.map_cons, List.map_nil, hes, hey, hr]
  exact hK _ _ (h v' w' h1 h2)
end Go.Proofs.YtlldlkjngcgcjaaGreatDoor
namespace Go.Proofs.YtlldlkjngcgcjaaGreatDoor
set_option linter.unusedVariables false
set_option linter.unusedSimpArgs false
open Go.RowKit
/-- an empty slice with a block of its own -/
def RoE (B : Nat) (e : TypeId) : RS.Rl := fun _ v w => ∃ g, v = .slice (some ⟨g, 0, none⟩) 0 0 ∧ B ≤ g ∧ Bx w g e #[]
theorem stab_roE {B : Nat} {e : TypeId} {pos : Nat} {news : List Value} : RS.Stab (KH B e pos news) (RoE B e) := fun x v w w' ⟨g, e1, hg, hB⟩ hK => by
  obtain ⟨c', h1, h2, -⟩ := hK.2.2 g _ hg hB
  have : c' = #[] := Array.eq_empty_of_size_eq_zero h2
  rw [this] at h1
  exact ⟨g, e1, hg, h1⟩
theorem roE_new {B : Nat} {e : TypeId} (w : World) (hB : B ≤ w.heap.size) (x : Value) : RoE B e x (.slice (some ⟨w.heap.size, 0, none⟩) 0 0) (w.alloc (.cells #[] e)) := ⟨_, rfl, hB, Bx.mk w e #[]⟩
theorem wpList_append_E {P : Program} {w : World} {ops : Array Oper} {rest : List Oper} {o : Oper} {a : Act} {Q : Exit → Act → World → Prop} (hgd : o.guard = none) (s y : Operand) (t e : TypeId) (ho : o.op = .call { callee := .builtin .append, args := #[s, y], argTypes := #[t, t] })
    (i : TypeInfo) (z : Value) (size B m : Nat) (news : List Value) (v x q : Value) (ht : P.underlying t = some (.slice e)) (hi : P.info? e = some i) (hz : i.zero = some z)
    (hsize : i.size = size) (hzs : z.cells.size = size) (hes : a.eval s = v) (hey : a.eval y = x) (hv : RoE B e q v w) (hB : B ≤ w.heap.size) (hs : Src P size t x m news w) (h63 : m ≤ maxLen) (hb : m * i.bytes ≤ 140737488355328)
    (h : ∀ v' w', Below w.heap.size w w' → RowZ e size B m news v' w' → wpList P ops Q rest (a.put o.dst v') w') : wpList P ops Q (o :: rest) a w := by
  obtain ⟨g, rfl, hg, hbx⟩ := hv
  obtain ⟨v', w', cap', hr, h1, h2, h3, h4⟩ := append_row (P := P) w t o.type e i z size B 0 0 m [] news (.slice (some ⟨g, 0, none⟩) 0 0) x ht hi hz hsize hzs ⟨g, #[], rfl, hg, Nat.le_refl _, hbx, by simp, by simp⟩ hB hs (Nat.zero_le _) (by omega) (by rw [Nat.zero_add]; exact hb)
  rw [Nat.zero_add, List.nil_append] at h3
  refine wpList_plain hgd fun _ hK => ?_
  unfold Oper.wp execOp
  simp only [ho, resolve, invoke, builtin, Sem.run_bind, Sem.run_pure, Result.andThen_ok, List.map_toArray, List.map_cons, List.map_nil, hes, hey, hr]
  exact hK _ _ (h v' w' (h2 rfl) (.inr ⟨cap', h3, h4⟩))
end Go.Proofs.YtlldlkjngcgcjaaGreatDoor
namespace Go.Proofs.YtlldlkjngcgcjaaGreatDoor
set_option linter.unusedVariables false
set_option linter.unusedSimpArgs false
open Go.RowKit Go.Shelf
attribute [local go_sem] Oper.semAt_some
def x5C (y : Tw.X5) : List Value := [.int .i64 y.a, .int .i64 y.b, .int .i64 y.c, .int .i64 y.d, .int .i64 y.e]
theorem stab_roEb (B : Nat) (e : TypeId) : Stab (RoE B e undef) := fun v w w' ⟨g, h1, h2, h3⟩ h => ⟨g, h1, h2, h3.call h⟩
open Classical in
theorem madeG_t {xs : List Tw.X5} {k : Nat} (hk : k < xs.length) (h : Tw.Vs (Tw.madeG (xs.take k) ++ [Tw.one xs[k]])) : Tw.madeG (xs.take (k + 1)) = Tw.madeG (xs.take k) ++ [Tw.one xs[k]] := by
  rw [List.take_succ_eq_append_getElem hk, Tw.madeG_snoc]; exact if_pos h
open Classical in
theorem madeG_f {xs : List Tw.X5} {k : Nat} (hk : k < xs.length) (h : ¬ Tw.Vs (Tw.madeG (xs.take k) ++ [Tw.one xs[k]])) : Tw.madeG (xs.take (k + 1)) = Tw.madeG (xs.take k) := by
  rw [List.take_succ_eq_append_getElem hk, Tw.madeG_snoc]; exact if_neg h
set_option maxRecDepth 100000 in
set_option maxHeartbeats 4000000 in
theorem rMade_any (xs : List Tw.X5) (A : Option Addr) (cap : Nat) (w : World) (hA : At 5 x5C w w.heap.size A xs) (hn : xs.length ≤ cap) (hlen : xs.length ≤ maxLen) (hx : ∀ c ∈ xs, I6 c.a ∧ I6 c.b ∧ I6 c.c ∧ I6 c.d ∧ I6 c.e) :
    Calls Tryz.prog 11 #[.slice A xs.length cap] w fun e w' => (∃ v, e = .returned v ∧ RowZ 33 5 w.heap.size (Tw.made xs).length ((Tw.made xs).flatMap stC) v w') ∧ Below w.heap.size w w' := by
  obtain ⟨ti, tz, hti, hzz, hs1, hz1, hby⟩ := setI
  go_enter Tryz.func11, Tryz.ntmps11
  go_wp2
  go_loopw [3, 4] (fun s3 s4 wr => ∃ (k : Nat) (sv : Value), k ≤ xs.length ∧ k ≤ 16 ∧ s4 = .int .i64 k ∧ s3 = sv ∧ RowZ 33 5 w.heap.size (Tw.madeG (xs.take k)).length ((Tw.madeG (xs.take k)).flatMap stC) sv wr ∧ Below w.heap.size w wr) (fun _ s4 _ => 16 - (intOf s4).toNat)
  case atStart => exact ⟨0, _, Nat.zero_le _, Nat.zero_le _, rfl, rfl, .inl ⟨rfl, rfl, rfl⟩, bStart w⟩
  case round =>
    obtain ⟨k, sv, hk, hk6, rfl, rfl, hrow, hb⟩ := hrel
    by_cases hlt : k < xs.length
    · by_cases hl6 : k < 16
      · have t6 : decide ((k : Int) < 16) = true := by simp; omega
        obtain ⟨b9, off, rfl, hb9, hcell⟩ := hA.run (Nat.le_refl _) hlt
        have hy := hx _ (List.getElem_mem hlt)
        have hyes := Kp.mk (madeG_t hlt)
        have hnay := Kp.mk (madeG_f hlt)
        obtain ⟨-, hsm, hll⟩ := Tw.madeG_ok (xs.take k)
        rw [List.length_take] at hll
        have hfs := Tw.one_sm xs[k]
        have hOne := fun w0 => sone_any xs[k].a xs[k].b xs[k].c xs[k].d xs[k].e hy.1 hy.2.1 hy.2.2.1 hy.2.2.2.1 hy.2.2.2.2 w0
        generalize Tw.madeG (xs.take k) = L at *
        have hlL : L.length ≤ 16 := by omega
        have hcl := fun W (hW : Below w.heap.size w W) => hcell W hW
        clear hcell hA hx hll
        generalize xs[k] = x at *
        obtain ⟨xa, xb, xc, xd, xe⟩ := x
        dsimp only at hOne hyes hnay hfs
        obtain ⟨s, hs⟩ : ∃ s, s = Tw.one ⟨xa, xb, xc, xd, xe⟩ := ⟨_, rfl⟩
        rw [← hs] at hOne hyes hnay hfs
        have hOne' : ∀ w0, Calls Tryz.prog 7 #[.agg #[.int .i64 xa, .int .i64 xb, .int .i64 xc, .int .i64 xd, .int .i64 xe]] w0 fun e' w' => e' = .returned (.agg #[.int .i64 s.n, .int .i64 s.k, .int .i64 s.to, .int .i64 s.f, .int .i64 s.e]) ∧ Below w0.heap.size w0 w' := fun w0 => hOne w0
        have hfm : Kp (∀ r ∈ L ++ [s], Tw.Fm r) := ⟨fun r hr => by
          rcases List.mem_append.1 hr with h | h
          · exact (hsm r h).fm
          · rw [List.mem_singleton.1 h]; exact hfs.fm⟩
        clear hOne hs hsm hfs hy
        obtain ⟨A3, c3, rfl, hAt3, hc3, hcm3⟩ := RowZ.at (p := L) (f := stC) (fun _ => rfl) hrow
        go_wp2_with fail
        refine wp_region_rgl [RoE wr.heap.size 33 undef, Eqv (.slice A3 L.length c3), (fun v W => RowZ 33 5 wr.heap.size L.length (L.flatMap stC) v W), Eqv (.slice (some ⟨b9, off, none⟩) xs.length cap), Eqv (.int .i64 k), Eqv (.pointer (some ⟨b9, off + k * 5, none⟩)), Eqv (.agg #[.int .i64 xa, .int .i64 xb, .int .i64 xc, .int .i64 xd, .int .i64 xe]), Eqv (.agg #[.int .i64 s.n, .int .i64 s.k, .int .i64 s.to, .int .i64 s.f, .int .i64 s.e]), Sl1 wr.heap.size (stC s)] 9 30 (by kernel_rfl) rfl rfl (by kernel_rfl) ?_ ?_ ?_
        · simp only [AllS]
          exact ⟨stab_roEb _ _, stab_eqv _, fun v w w' h hb => stab_rowZ _ _ _ _ _ _ _ _ h hb, stab_eqv _, stab_eqv _, stab_eqv _, stab_eqv _, stab_eqv _, stab_Sl1 _ _, trivial⟩
        · simp only [Users, List.take, List.length]
          refine ⟨?_, ?_, ?_, ?_, ?_, ?_, ?_, ?_, ?_, trivial⟩
          all_goals (intro vs w3 hb2 hd; simp only [putD, Act.put, List.nil_append, List.cons_append, List.setIfInBounds_toArray, List.set_cons_succ, List.set_cons_zero, Nat.reduceAdd])
          · have hsz := hb2.size
            have hR9 := roE_new (B := wr.heap.size) (e := 33) w3 hsz undef
            clear hd hcl hAt3 hrow
            go_wp2
            exact ⟨bNew (Below.refl _ _) _, hR9⟩
          · clear hd hcl hAt3 hrow
            go_wp2
            first | exact ⟨Below.refl _ _, rfl⟩ | exact rfl
          · have hrow1 : RoE wr.heap.size 33 undef (vs 0) w3 := hd 0 rfl
            have e1 : vs 1 = _ := hd 1 rfl
            have hsrc := At.src (P := Tryz.prog) (e := 33) (t := 41) (f := stC) (fun _ => rfl) stC_one Tryz.underlying41 (hAt3.callx hb2) c3
            have hsz := hb2.size
            clear hd hcl hAt3 hrow
            rw [e1]
            go_wp2_with (at_builtin; refine wpList_append_E rfl (.tmp 16) (.tmp 17) 41 33 rfl ti tz 5 wr.heap.size L.length (L.flatMap stC) (vs 0) (.slice A3 L.length c3) undef Tryz.underlying41 hti hzz hs1 hz1 rfl rfl hrow1 hsz hsrc (by unfold maxLen; omega) (by rw [hby]; omega) ?_; intro v' w4 q1 q2)
            first | exact q2 | exact ⟨q1, q2⟩
          · clear hd hcl hAt3 hrow
            go_wp2
            first | exact ⟨Below.refl _ _, rfl⟩ | exact rfl
          · clear hd hcl hAt3 hrow
            go_wp2
            first | exact ⟨Below.refl _ _, rfl⟩ | exact rfl
          · have e3 : vs 3 = _ := hd 3 rfl
            have e4 : vs 4 = _ := hd 4 rfl
            clear hd hcl hAt3 hrow
            rw [e3, e4]
            go_wp2
            first | exact ⟨Below.refl _ _, rfl⟩ | exact rfl
          · have e5 : vs 5 = _ := hd 5 rfl
            have hcl' := hcl w3 (hb.trans (hb2.mono hb.size))
            have c0 := hcl' 0 _ rfl
            have c1 := hcl' 1 _ rfl
            have c2 := hcl' 2 _ rfl
            have c3' := hcl' 3 _ rfl
            have c4 := hcl' 4 _ rfl
            simp only [Nat.add_zero] at c0
            clear hd hcl hAt3 hrow hcl'
            rw [e5]
            go_wp2
            first | exact ⟨Below.refl _ _, rfl⟩ | exact rfl
          · have e6 : vs 6 = _ := hd 6 rfl
            have hC := hOne' w3
            clear hd hcl hAt3 hrow hOne'
            rw [e6]
            go_wp2_with fail
            refine hC.mono ?_
            rintro _ w9 ⟨rfl, hb9⟩
            clear hC
            go_wp2
            first | exact ⟨hb9, rfl⟩ | exact rfl
          · have e7 : vs 7 = _ := hd 7 rfl
            have hsz := hb2.size
            clear hd hcl hAt3 hrow
            rw [e7]
            go_wp2
            exact ⟨bNew (Below.refl _ _) _, _, rfl, hsz, Bx.mk w3 _ _⟩
        · intro vs wa hba hR2
          simp only [AllR, Eqv] at hR2
          obtain ⟨-, -, hrow2, -, -, -, -, -, ⟨g3, e3, hg3, hB3⟩, -⟩ := hR2
          simp only [List.drop, List.take, List.map, putD, Act.put, List.setIfInBounds_toArray, List.set_cons_succ, List.set_cons_zero, Nat.reduceAdd]
          have hsrc : Src Tryz.prog 5 41 (.slice (some ⟨g3, 0, none⟩) 1 1) 1 (stC s) wa := RowC.src (P := Tryz.prog) (B := wr.heap.size) (cap := 1) (e := 33) (t := 41) (stC_one s) Tryz.underlying41 (show RowC 33 5 wr.heap.size 1 1 (stC s) (.slice (some ⟨g3, 0, none⟩) 1 1) wa from ⟨g3, _, rfl, hg3, Nat.le_refl _, hB3, rfl, rfl⟩)
          rw [e3]
          have hwa := hba.size
          clear e3 hB3 hg3 hcl hOne' hAt3
          go_wp2_with (at_builtin; refine wpList_append_rowF rfl (.tmp 18) (.tmp 24) 41 33 rfl ti tz 5 wr.heap.size L.length 1 (L.flatMap stC) (stC s) _ (.slice (some ⟨g3, 0, none⟩) 1 1) Tryz.underlying41 hti hzz hs1 hz1 rfl rfl hrow2 hwa hsrc (by decide) (by unfold maxLen; omega) (by rw [hby]; omega) ?_; intro v' w2 q1 q2 q3; replace q1 := Kp.mk q1; replace q2 := Kp.mk q2; replace q3 := Kp.mk q3)
          have hb3 := hba.trans q1.out
          have hrowL : RowZ 33 5 wr.heap.size (L ++ [s]).length ((L ++ [s]).flatMap stC) v' w2 := by
            rw [List.length_append, List.length_singleton, List.flatMap_append]
            exact q3.out
          replace hrow := stab_rowZ _ _ _ _ _ _ _ _ hrow hb3
          have hbw : Below w.heap.size w w2 := hb.trans (hb3.mono hb.size)
          have hlow := hrowL.low hb.size
          obtain ⟨A5, c5, rfl, hAt5, hc5, hcm5⟩ := RowZ.at (p := L ++ [s]) (f := stC) (fun _ => rfl) hrowL
          clear q1 q2 q3 hsrc hrow2 hba hb hb3 hrowL hwa
          have hlen2 : (L ++ [s]).length ≤ 40 := by simp; omega
          have hSt := rSettings_any (L ++ [s]) A5 c5 w2 hAt5 hc5 hlen2 hfm
          generalize L ++ [s] = M at *
          by_cases hv : Tw.Vs M
          · have hM := Kp.mk (hyes.out hv)
            rw [vsB_t hv] at hSt
            clear hv hyes hnay hAt5
            go_wp2_with fail
            refine hSt.mono ?_
            rintro _ w4 ⟨rfl, hb4⟩
            replace hlow := stab_rowZ _ _ _ _ _ _ _ _ hlow hb4
            replace hbw := bCall hbw hb4
            clear hSt hb4 hrow
            go_wp2
            exact ⟨⟨k + 1, _, by omega, by omega, by go_num, rfl, by rw [hM.out]; exact hlow, hbw⟩, by simp [intOf]; omega⟩
          · have hM := Kp.mk (hnay.out hv)
            rw [vsB_f hv] at hSt
            clear hv hyes hnay hAt5
            go_wp2_with fail
            refine hSt.mono ?_
            rintro _ w4 ⟨rfl, hb4⟩
            replace hrow := stab_rowZ _ _ _ _ _ _ _ _ hrow hb4
            replace hbw := bCall hbw hb4
            clear hSt hb4 hlow
            go_wp2
            exact ⟨⟨k + 1, _, by omega, by omega, by go_num, rfl, by rw [hM.out]; exact hrow, hbw⟩, by simp [intOf]; omega⟩
      · obtain rfl : k = 16 := by omega
        have t6 : decide (((16 : Nat) : Int) < 16) = false := by decide
        clear hA
        go_wp2
        go_ret
        exact ⟨⟨_, rfl, hrow⟩, hb⟩
    · obtain rfl : k = xs.length := by omega
      have hM : Kp (Tw.made xs = Tw.madeG (xs.take xs.length)) := ⟨by unfold Tw.made; rw [List.take_length, List.take_of_length_le hk6]⟩
      rw [← hM.out] at hrow
      clear hA hM
      go_wp2
      go_ret
      exact ⟨⟨_, rfl, hrow⟩, hb⟩
end Go.Proofs.YtlldlkjngcgcjaaGreatDoor

/- sane of dialtonelaw36: the chapter's examples. -/
import Derived.Test.YtelljijajgiabaaGreatDoorQ12
import Derived.Test.YtelljijajgiabaaGreatDoorQ25
import Derived.Test.YtelljijajgiabaaGreatDoorQ26
set_option linter.unusedVariables false
set_option linter.unusedSimpArgs false
set_option maxRecDepth 100000
set_option maxHeartbeats 8000000
namespace Go.Proofs.YtelljijajgiabaaGreatDoor
open Go.RowKit Go.Shelf
theorem fsane_any  (w : World)  (hE : Env w) :
    Calls Tryz.prog 11 #[] w fun e w' => e = .returned (.bool true) ∧ Below w.heap.size w w' := by
  suffices hgen : ∀ w1 : World, SE w w1 → Calls Tryz.prog 11 #[] w1 fun e w' => e = .returned (.bool true) ∧ Below w.heap.size w w' from hgen w ⟨bStart w, hE⟩
  clear hE
  intro w1 st
  go_enter Tryz.func11, Tryz.ntmps11
  go_wp2_with fail
  refine (rules_any _).mono ?_
  rintro _ w2 ⟨rfl, hb1⟩
  replace st := st.call hb1
  clear hb1
  go_upto_region 2 with fail
  have BR := Bx.mk w2 31 #[.int .i64 1, .int .i64 100, .int .i64 100, .int .i64 50, .int .i64 3]
  replace st := st.call (bNewW w2 (.cells #[.int .i64 1, .int .i64 100, .int .i64 100, .int .i64 50, .int .i64 3] 31))
  have lR := BR.lt
  generalize w2.alloc (.cells #[.int .i64 1, .int .i64 100, .int .i64 100, .int .i64 50, .int .i64 3] 31) = w3 at *
  generalize w2.heap.size = gR at *
  go_upto_region 3 with fail
  have dRP := BR.lt
  replace BR := BR.new (.cells #[.int .i64 3, .int .i64 7, .int .i64 0, .int .i64 0, .int .i64 2, .int .i64 2, .slice none 0 0, .int .i64 0, .int .i64 5, .int .i64 2] 39)
  have BP := Bx.mk w3 39 #[.int .i64 3, .int .i64 7, .int .i64 0, .int .i64 0, .int .i64 2, .int .i64 2, .slice none 0 0, .int .i64 0, .int .i64 5, .int .i64 2]
  replace st := st.call (bNewW w3 (.cells #[.int .i64 3, .int .i64 7, .int .i64 0, .int .i64 0, .int .i64 2, .int .i64 2, .slice none 0 0, .int .i64 0, .int .i64 5, .int .i64 2] 39))
  have lP := BP.lt
  generalize w3.alloc (.cells #[.int .i64 3, .int .i64 7, .int .i64 0, .int .i64 0, .int .i64 2, .int .i64 2, .slice none 0 0, .int .i64 0, .int .i64 5, .int .i64 2] 39) = w4 at *
  generalize w3.heap.size = gP at *
  go_wp2_with fail
  refine (share_any 1 _).mono ?_
  rintro _ w5 ⟨rfl, hb1⟩
  replace st := st.call hb1
  replace BR := BR.call hb1
  replace BP := BP.call hb1
  clear hb1
  go_wp2_with fail
  refine (ex_a _ st.env).mono ?_
  rintro _ w6 ⟨rfl, hb1⟩
  replace st := st.call hb1
  replace BR := BR.call hb1
  replace BP := BP.call hb1
  clear hb1
  go_upto_region 4 with fail
  have dRA := BR.lt
  have dPA := BP.lt
  replace BR := BR.new (.cells #[.string ⟨#[49]⟩, .string ⟨#[49, 48, 48, 48]⟩] 51)
  replace BP := BP.new (.cells #[.string ⟨#[49]⟩, .string ⟨#[49, 48, 48, 48]⟩] 51)
  have BA := Bx.mk w6 51 #[.string ⟨#[49]⟩, .string ⟨#[49, 48, 48, 48]⟩]
  replace st := st.call (bNewW w6 (.cells #[.string ⟨#[49]⟩, .string ⟨#[49, 48, 48, 48]⟩] 51))
  have lA := BA.lt
  generalize w6.alloc (.cells #[.string ⟨#[49]⟩, .string ⟨#[49, 48, 48, 48]⟩] 51) = w7 at *
  generalize w6.heap.size = gA at *
  have cP0 := BP.cell 0 rfl
  have cP1 := BP.cell 1 rfl
  have cP2 := BP.cell 2 rfl
  have cP3 := BP.cell 3 rfl
  have cP4 := BP.cell 4 rfl
  have cP5 := BP.cell 5 rfl
  have cP6 := BP.cell 6 rfl
  have cP7 := BP.cell 7 rfl
  have cP8 := BP.cell 8 rfl
  have cP9 := BP.cell 9 rfl
  go_wp2_with fail
  refine (ex_b _ st.env).mono ?_
  rintro _ w8 ⟨rfl, hb1⟩
  replace st := st.call hb1
  replace BR := BR.call hb1
  replace BP := BP.call hb1
  replace BA := BA.call hb1
  clear hb1
  clear cP0 cP1 cP2 cP3 cP4 cP5 cP6 cP7 cP8 cP9
  go_upto_region 5 with fail
  have dRD := BR.lt
  have dPD := BP.lt
  have dAD := BA.lt
  replace BR := BR.new (.cells #[.string ⟨#[49]⟩, .string ⟨#[49, 48]⟩] 51)
  replace BP := BP.new (.cells #[.string ⟨#[49]⟩, .string ⟨#[49, 48]⟩] 51)
  replace BA := BA.new (.cells #[.string ⟨#[49]⟩, .string ⟨#[49, 48]⟩] 51)
  have BD := Bx.mk w8 51 #[.string ⟨#[49]⟩, .string ⟨#[49, 48]⟩]
  replace st := st.call (bNewW w8 (.cells #[.string ⟨#[49]⟩, .string ⟨#[49, 48]⟩] 51))
  have lD := BD.lt
  generalize w8.alloc (.cells #[.string ⟨#[49]⟩, .string ⟨#[49, 48]⟩] 51) = w9 at *
  generalize w8.heap.size = gD at *
  go_upto_region 5 with fail
  refine RS.wp_region_rgl (RS.cls_KZ (w9.heap.size) 51 #[.string ⟨#[]⟩, .string ⟨#[]⟩] #[.string ⟨#[49]⟩, .string ⟨#[53, 48, 48]⟩]) [(8, 7)] [RS.Eqv (.agg #[.int .i64 2, .int .i64 7, .int .i64 1, .int .i64 10, .int .i64 3, .int .i64 3, .slice none 0 0, .int .i64 0, .int .i64 0, .int .i64 0]), RS.Eqv (.agg #[.int .i64 3, .int .i64 7, .int .i64 0, .int .i64 0, .int .i64 2, .int .i64 2, .slice none 0 0, .int .i64 0, .int .i64 5, .int .i64 2]), RS.SlZ (w9.heap.size) 39 2 #[.int .i64 2, .int .i64 7, .int .i64 1, .int .i64 10, .int .i64 3, .int .i64 3, .slice none 0 0, .int .i64 0, .int .i64 0, .int .i64 0, .int .i64 3, .int .i64 7, .int .i64 0, .int .i64 0, .int .i64 2, .int .i64 2, .slice none 0 0, .int .i64 0, .int .i64 5, .int .i64 2], RS.Eqv (.tuple #[.agg #[.string ⟨#[49]⟩, .string ⟨#[53, 48, 48]⟩], .int .i64 0]), RS.Eqv (.tuple #[.agg #[.string ⟨#[49]⟩, .string ⟨#[53, 48, 48]⟩], .int .i64 0]), RS.Eqv (.agg #[.string ⟨#[49]⟩, .string ⟨#[53, 48, 48]⟩]), RS.Eqv (.int .i64 0), RS.PtrZ (w9.heap.size) 51 #[.string ⟨#[]⟩, .string ⟨#[]⟩] #[.string ⟨#[49]⟩, .string ⟨#[53, 48, 48]⟩], RS.StoZ (w9.heap.size) 51 #[.string ⟨#[49]⟩, .string ⟨#[53, 48, 48]⟩], RS.Eqv (.int .i64 0)] 10 247 (by kernel_rfl) rfl rfl (by kernel_rfl) (by kernel_rfl) ?_ ?_ ?_
  · simp only [RS.AllS]
    exact ⟨RS.stab_eqv _, RS.stab_eqv _, RS.stab_slZ (by first | (left; decide) | (right; decide) | (right; simp)), RS.stab_eqv _, RS.stab_eqv _, RS.stab_eqv _, RS.stab_eqv _, RS.stab_ptrZ, RS.stab_stoZ, RS.stab_eqv _, trivial⟩
  · simp only [RS.UsersG, List.take, List.length]
    refine ⟨?_, ?_, ?_, ?_, ?_, ?_, ?_, ?_, ?_, ?_, trivial⟩
    all_goals (intro vs w2 hb2 hd; simp only [RS.putD, Act.put, List.nil_append, List.cons_append, List.setIfInBounds_toArray, List.set_cons_succ, List.set_cons_zero, Nat.reduceAdd])
    · have hC := share_any 1 w2; clear hd 
      skip
      go_wp2_with fail
      refine hC.mono ?_
      rintro _ w9 ⟨rfl, hb9⟩
      clear hC
      have hK9 := hb2.call (Nat.le_refl _) hb9
      go_wp2
      first | exact ⟨hK9, rfl⟩ | exact hK9 | rfl
    · have q0 := (BP.below hb2.bl BP.lt).cell 0 rfl; have q1 := (BP.below hb2.bl BP.lt).cell 1 rfl; have q2 := (BP.below hb2.bl BP.lt).cell 2 rfl; have q3 := (BP.below hb2.bl BP.lt).cell 3 rfl; have q4 := (BP.below hb2.bl BP.lt).cell 4 rfl; have q5 := (BP.below hb2.bl BP.lt).cell 5 rfl; have q6 := (BP.below hb2.bl BP.lt).cell 6 rfl; have q7 := (BP.below hb2.bl BP.lt).cell 7 rfl; have q8 := (BP.below hb2.bl BP.lt).cell 8 rfl; have q9 := (BP.below hb2.bl BP.lt).cell 9 rfl; clear hd 
      skip
      go_wp2
      first | exact ⟨RS.KZ.rf _ _ _ _ _, rfl⟩ | exact ⟨RS.KZ.rf _ _ _ _ _, by simp [RS.Eqv]⟩ | exact RS.KZ.rf _ _ _ _ _ | (simp [RS.Eqv])
    · have e0 := hd 0 rfl; change vs 0 = _ at e0; have e1 := hd 1 rfl; change vs 1 = _ at e1; have hK := hb2.slice (Nat.le_refl _) 39 2 #[.int .i64 2, .int .i64 7, .int .i64 1, .int .i64 10, .int .i64 3, .int .i64 3, .slice none 0 0, .int .i64 0, .int .i64 0, .int .i64 0, .int .i64 3, .int .i64 7, .int .i64 0, .int .i64 0, .int .i64 2, .int .i64 2, .slice none 0 0, .int .i64 0, .int .i64 5, .int .i64 2] undef; clear hd  hb2
      rw [e0, e1]
      go_wp2
      first | exact hK | exact hK.2 | exact ⟨hK.1, hK.2⟩
    · obtain ⟨gs2, es2, hgs2, hBs2⟩ := hd 2 rfl; change vs 2 = _ at es2; have hC := ex_c w2 hBs2 (st.env.below hb2.bl); clear hd 
      rw [es2]
      go_wp2_with fail
      refine hC.mono ?_
      rintro _ w9 ⟨rfl, hb9⟩
      clear hC
      have hK9 := hb2.call (Nat.le_refl _) hb9
      go_wp2
      first | exact ⟨hK9, rfl⟩ | exact hK9 | rfl
    · have e0 := hd 3 rfl; change vs 3 = _ at e0; clear hd 
      rw [e0]
      go_wp2
      first | exact ⟨RS.KZ.rf _ _ _ _ _, rfl⟩ | exact ⟨RS.KZ.rf _ _ _ _ _, by simp [RS.Eqv]⟩ | exact RS.KZ.rf _ _ _ _ _ | (simp [RS.Eqv])
    · have e0 := hd 4 rfl; change vs 4 = _ at e0; clear hd 
      rw [e0]
      go_wp2
      first | exact ⟨RS.KZ.rf _ _ _ _ _, rfl⟩ | exact ⟨RS.KZ.rf _ _ _ _ _, by simp [RS.Eqv]⟩ | exact RS.KZ.rf _ _ _ _ _ | (simp [RS.Eqv])
    · have e0 := hd 4 rfl; change vs 4 = _ at e0; clear hd 
      rw [e0]
      go_wp2
      first | exact ⟨RS.KZ.rf _ _ _ _ _, rfl⟩ | exact ⟨RS.KZ.rf _ _ _ _ _, by simp [RS.Eqv]⟩ | exact RS.KZ.rf _ _ _ _ _ | (simp [RS.Eqv])
    · have hK := RS.KZ.new hb2 (Nat.le_refl _) undef; clear hd  hb2
      skip
      go_wp2
      first | exact hK | exact hK.2 | exact ⟨hK.1, hK.2⟩
    · have e0 := hd 5 rfl; change vs 5 = _ at e0; obtain ⟨g, eg, hg, hBg⟩ := hd 7 rfl; change vs 7 = _ at eg; clear hd  hb2
      rcases hBg with hBg | hBg
      · have hK := RS.KZ.stores (B := w9.heap.size) (t := 51) (z := #[.string ⟨#[]⟩, .string ⟨#[]⟩]) (cs := #[.string ⟨#[49]⟩, .string ⟨#[53, 48, 48]⟩]) (w := w2) (L := [.string ⟨#[49]⟩, .string ⟨#[53, 48, 48]⟩]) rfl rfl hg (.inl hBg) (vs 7) undef eg
        have q0 := hBg.cell 0 rfl
        have f0 := hBg.frozen 0
        have q1 := hBg.cell 1 rfl
        have f1 := hBg.frozen 1
        rw [eg, e0]
        clear hBg
        go_wp2
        first | exact hK | exact hK.2 | exact ⟨hK.1, g, eg, hK.2.2⟩
      · have hK := RS.KZ.stores (B := w9.heap.size) (t := 51) (z := #[.string ⟨#[]⟩, .string ⟨#[]⟩]) (cs := #[.string ⟨#[49]⟩, .string ⟨#[53, 48, 48]⟩]) (w := w2) (L := [.string ⟨#[49]⟩, .string ⟨#[53, 48, 48]⟩]) rfl rfl hg (.inr hBg) (vs 7) undef eg
        have q0 := hBg.cell 0 rfl
        have f0 := hBg.frozen 0
        have q1 := hBg.cell 1 rfl
        have f1 := hBg.frozen 1
        rw [eg, e0]
        clear hBg
        go_wp2
        first | exact hK | exact hK.2 | exact ⟨hK.1, g, eg, hK.2.2⟩
    · have e0 := hd 6 rfl; change vs 6 = _ at e0; clear hd 
      rw [e0]
      go_wp2
      first | exact ⟨RS.KZ.rf _ _ _ _ _, rfl⟩ | exact ⟨RS.KZ.rf _ _ _ _ _, by simp [RS.Eqv]⟩ | exact RS.KZ.rf _ _ _ _ _ | (simp [RS.Eqv])
  · intro vs w10 hba hR2
    simp only [RS.AllR, RS.Eqv] at hR2
    obtain ⟨e0, e1, e2, e3, e4, e5, e6, e7, e8, e9, -⟩ := hR2
    obtain ⟨gC, egS, hgS, BC⟩ := e8
    change vs 7 = _ at egS
    clear e7
    obtain ⟨gL2, egL2, hgL2, BL2⟩ := e2
    simp only [List.drop, List.take, List.map, RS.putD, Act.put, List.setIfInBounds_toArray, List.set_cons_succ, List.set_cons_zero, Nat.reduceAdd]
    rw [e0, e1, egL2, e3, e4, e5, e6, egS, e9]
    clear e0 e1 e3 e4 e5 e6 e9 egL2 BL2 hgL2 egS hgS
    have hb1 := hba.bl
    replace st := st.call hb1
    replace BR := BR.call hb1
    replace BP := BP.call hb1
    replace BA := BA.call hb1
    replace BD := BD.call hb1
    have lC := BC.lt
    clear hb1 hba
    go_wp2_with fail
    refine (share_any 1 _).mono ?_
    rintro _ w11 ⟨rfl, hb1⟩
    replace st := st.call hb1
    replace BR := BR.call hb1
    replace BP := BP.call hb1
    replace BA := BA.call hb1
    replace BD := BD.call hb1
    replace BC := BC.call hb1
    clear hb1
    go_wp2_with fail
    refine (share_any 2 _).mono ?_
    rintro _ w12 ⟨rfl, hb1⟩
    replace st := st.call hb1
    replace BR := BR.call hb1
    replace BP := BP.call hb1
    replace BA := BA.call hb1
    replace BD := BD.call hb1
    replace BC := BC.call hb1
    clear hb1
    have st0 := st.call (bNewW w12 (.cells #[.int .i64 2, .int .i64 7, .int .i64 1, .int .i64 10, .int .i64 3, .int .i64 3, .slice none 0 0, .int .i64 0, .int .i64 0, .int .i64 0, .int .i64 2, .int .i64 7, .int .i64 2, .int .i64 10, .int .i64 3, .int .i64 3, .slice none 0 0, .int .i64 0, .int .i64 0, .int .i64 0] 39))
    go_wp2_with fail
    refine (ex_d _ (Bx.mk _ _ _) st0.env).mono ?_
    rintro _ w13 ⟨rfl, hb1⟩
    replace st := st0.call hb1
    clear st0
    replace BR := (BR.new (.cells #[.int .i64 2, .int .i64 7, .int .i64 1, .int .i64 10, .int .i64 3, .int .i64 3, .slice none 0 0, .int .i64 0, .int .i64 0, .int .i64 0, .int .i64 2, .int .i64 7, .int .i64 2, .int .i64 10, .int .i64 3, .int .i64 3, .slice none 0 0, .int .i64 0, .int .i64 0, .int .i64 0] 39)).call hb1
    replace BP := (BP.new (.cells #[.int .i64 2, .int .i64 7, .int .i64 1, .int .i64 10, .int .i64 3, .int .i64 3, .slice none 0 0, .int .i64 0, .int .i64 0, .int .i64 0, .int .i64 2, .int .i64 7, .int .i64 2, .int .i64 10, .int .i64 3, .int .i64 3, .slice none 0 0, .int .i64 0, .int .i64 0, .int .i64 0] 39)).call hb1
    replace BA := (BA.new (.cells #[.int .i64 2, .int .i64 7, .int .i64 1, .int .i64 10, .int .i64 3, .int .i64 3, .slice none 0 0, .int .i64 0, .int .i64 0, .int .i64 0, .int .i64 2, .int .i64 7, .int .i64 2, .int .i64 10, .int .i64 3, .int .i64 3, .slice none 0 0, .int .i64 0, .int .i64 0, .int .i64 0] 39)).call hb1
    replace BD := (BD.new (.cells #[.int .i64 2, .int .i64 7, .int .i64 1, .int .i64 10, .int .i64 3, .int .i64 3, .slice none 0 0, .int .i64 0, .int .i64 0, .int .i64 0, .int .i64 2, .int .i64 7, .int .i64 2, .int .i64 10, .int .i64 3, .int .i64 3, .slice none 0 0, .int .i64 0, .int .i64 0, .int .i64 0] 39)).call hb1
    replace BC := (BC.new (.cells #[.int .i64 2, .int .i64 7, .int .i64 1, .int .i64 10, .int .i64 3, .int .i64 3, .slice none 0 0, .int .i64 0, .int .i64 0, .int .i64 0, .int .i64 2, .int .i64 7, .int .i64 2, .int .i64 10, .int .i64 3, .int .i64 3, .slice none 0 0, .int .i64 0, .int .i64 0, .int .i64 0] 39)).call hb1
    clear hb1
    go_upto_region 7 with fail
    have dRF := BR.lt
    have dPF := BP.lt
    have dAF := BA.lt
    have dDF := BD.lt
    have dCF := BC.lt
    replace BR := BR.new (.cells #[.string ⟨#[49]⟩, .string ⟨#[53, 48, 48]⟩] 51)
    replace BP := BP.new (.cells #[.string ⟨#[49]⟩, .string ⟨#[53, 48, 48]⟩] 51)
    replace BA := BA.new (.cells #[.string ⟨#[49]⟩, .string ⟨#[53, 48, 48]⟩] 51)
    replace BD := BD.new (.cells #[.string ⟨#[49]⟩, .string ⟨#[53, 48, 48]⟩] 51)
    replace BC := BC.new (.cells #[.string ⟨#[49]⟩, .string ⟨#[53, 48, 48]⟩] 51)
    have BF := Bx.mk w13 51 #[.string ⟨#[49]⟩, .string ⟨#[53, 48, 48]⟩]
    replace st := st.call (bNewW w13 (.cells #[.string ⟨#[49]⟩, .string ⟨#[53, 48, 48]⟩] 51))
    have lF := BF.lt
    generalize w13.alloc (.cells #[.string ⟨#[49]⟩, .string ⟨#[53, 48, 48]⟩] 51) = w14 at *
    generalize w13.heap.size = gF at *
    go_upto_region 7 with fail
    refine RS.wp_region_rgl (RS.cls_KZ (w14.heap.size) 53 #[.int .i64 0, .int .i64 0, .string ⟨#[]⟩, .string ⟨#[]⟩, .int .i64 0, .int .i64 0] #[.int .i64 7, .int .i64 1000, .string ⟨#[49]⟩, .string ⟨#[49, 48, 48, 48]⟩, .int .i64 0, .int .i64 0]) [(9, 8)] [RS.Eqv (.agg #[.int .i64 1, .int .i64 100, .int .i64 100, .int .i64 50, .int .i64 3]), RS.Eqv (.agg #[.int .i64 2, .int .i64 7, .int .i64 1, .int .i64 10, .int .i64 3, .int .i64 3, .slice none 0 0, .int .i64 0, .int .i64 0, .int .i64 0]), RS.SlZ (w14.heap.size) 39 1 #[.int .i64 2, .int .i64 7, .int .i64 1, .int .i64 10, .int .i64 3, .int .i64 3, .slice none 0 0, .int .i64 0, .int .i64 0, .int .i64 0], RS.Eqv (.tuple #[.agg #[.int .i64 7, .int .i64 1000, .string ⟨#[49]⟩, .string ⟨#[49, 48, 48, 48]⟩, .int .i64 0, .int .i64 0], .bool true, .int .i64 0]), RS.Eqv (.tuple #[.agg #[.int .i64 7, .int .i64 1000, .string ⟨#[49]⟩, .string ⟨#[49, 48, 48, 48]⟩, .int .i64 0, .int .i64 0], .bool true, .int .i64 0]), RS.Eqv (.agg #[.int .i64 7, .int .i64 1000, .string ⟨#[49]⟩, .string ⟨#[49, 48, 48, 48]⟩, .int .i64 0, .int .i64 0]), RS.Eqv (.bool true), RS.Eqv (.int .i64 0), RS.PtrZ (w14.heap.size) 53 #[.int .i64 0, .int .i64 0, .string ⟨#[]⟩, .string ⟨#[]⟩, .int .i64 0, .int .i64 0] #[.int .i64 7, .int .i64 1000, .string ⟨#[49]⟩, .string ⟨#[49, 48, 48, 48]⟩, .int .i64 0, .int .i64 0], RS.StoZ (w14.heap.size) 53 #[.int .i64 7, .int .i64 1000, .string ⟨#[49]⟩, .string ⟨#[49, 48, 48, 48]⟩, .int .i64 0, .int .i64 0], RS.Eqv (.bool true), RS.Eqv (.int .i64 0)] 12 247 (by kernel_rfl) rfl rfl (by kernel_rfl) (by kernel_rfl) ?_ ?_ ?_
    · simp only [RS.AllS]
      exact ⟨RS.stab_eqv _, RS.stab_eqv _, RS.stab_slZ (by first | (left; decide) | (right; decide) | (right; simp)), RS.stab_eqv _, RS.stab_eqv _, RS.stab_eqv _, RS.stab_eqv _, RS.stab_eqv _, RS.stab_ptrZ, RS.stab_stoZ, RS.stab_eqv _, RS.stab_eqv _, trivial⟩
    · simp only [RS.UsersG, List.take, List.length]
      refine ⟨?_, ?_, ?_, ?_, ?_, ?_, ?_, ?_, ?_, ?_, ?_, ?_, trivial⟩
      all_goals (intro vs w2 hb2 hd; simp only [RS.putD, Act.put, List.nil_append, List.cons_append, List.setIfInBounds_toArray, List.set_cons_succ, List.set_cons_zero, Nat.reduceAdd])
      · have q0 := (BR.below hb2.bl BR.lt).cell 0 rfl; have q1 := (BR.below hb2.bl BR.lt).cell 1 rfl; have q2 := (BR.below hb2.bl BR.lt).cell 2 rfl; have q3 := (BR.below hb2.bl BR.lt).cell 3 rfl; have q4 := (BR.below hb2.bl BR.lt).cell 4 rfl; clear hd 
        skip
        go_wp2
        first | exact ⟨RS.KZ.rf _ _ _ _ _, rfl⟩ | exact ⟨RS.KZ.rf _ _ _ _ _, by simp [RS.Eqv]⟩ | exact RS.KZ.rf _ _ _ _ _ | (simp [RS.Eqv])
      · have hC := share_any 1 w2; clear hd 
        skip
        go_wp2_with fail
        refine hC.mono ?_
        rintro _ w9 ⟨rfl, hb9⟩
        clear hC
        have hK9 := hb2.call (Nat.le_refl _) hb9
        go_wp2
        first | exact ⟨hK9, rfl⟩ | exact hK9 | rfl
      · have e0 := hd 1 rfl; change vs 1 = _ at e0; have hK := hb2.slice (Nat.le_refl _) 39 1 #[.int .i64 2, .int .i64 7, .int .i64 1, .int .i64 10, .int .i64 3, .int .i64 3, .slice none 0 0, .int .i64 0, .int .i64 0, .int .i64 0] undef; clear hd  hb2
        rw [e0]
        go_wp2
        first | exact hK | exact hK.2 | exact ⟨hK.1, hK.2⟩
      · have e0 := hd 0 rfl; change vs 0 = _ at e0; obtain ⟨gs2, es2, hgs2, hBs2⟩ := hd 2 rfl; change vs 2 = _ at es2; have hC := ex_one w2 hBs2 (st.env.below hb2.bl); clear hd 
        rw [e0, es2]
        go_wp2_with fail
        refine hC.mono ?_
        rintro _ w9 ⟨rfl, hb9⟩
        clear hC
        have hK9 := hb2.call (Nat.le_refl _) hb9
        go_wp2
        first | exact ⟨hK9, rfl⟩ | exact hK9 | rfl
      · have e0 := hd 3 rfl; change vs 3 = _ at e0; clear hd 
        rw [e0]
        go_wp2
        first | exact ⟨RS.KZ.rf _ _ _ _ _, rfl⟩ | exact ⟨RS.KZ.rf _ _ _ _ _, by simp [RS.Eqv]⟩ | exact RS.KZ.rf _ _ _ _ _ | (simp [RS.Eqv])
      · have e0 := hd 4 rfl; change vs 4 = _ at e0; clear hd 
        rw [e0]
        go_wp2
        first | exact ⟨RS.KZ.rf _ _ _ _ _, rfl⟩ | exact ⟨RS.KZ.rf _ _ _ _ _, by simp [RS.Eqv]⟩ | exact RS.KZ.rf _ _ _ _ _ | (simp [RS.Eqv])
      · have e0 := hd 4 rfl; change vs 4 = _ at e0; clear hd 
        rw [e0]
        go_wp2
        first | exact ⟨RS.KZ.rf _ _ _ _ _, rfl⟩ | exact ⟨RS.KZ.rf _ _ _ _ _, by simp [RS.Eqv]⟩ | exact RS.KZ.rf _ _ _ _ _ | (simp [RS.Eqv])
      · have e0 := hd 4 rfl; change vs 4 = _ at e0; clear hd 
        rw [e0]
        go_wp2
        first | exact ⟨RS.KZ.rf _ _ _ _ _, rfl⟩ | exact ⟨RS.KZ.rf _ _ _ _ _, by simp [RS.Eqv]⟩ | exact RS.KZ.rf _ _ _ _ _ | (simp [RS.Eqv])
      · have hK := RS.KZ.new hb2 (Nat.le_refl _) undef; clear hd  hb2
        skip
        go_wp2
        first | exact hK | exact hK.2 | exact ⟨hK.1, hK.2⟩
      · have e0 := hd 5 rfl; change vs 5 = _ at e0; obtain ⟨g, eg, hg, hBg⟩ := hd 8 rfl; change vs 8 = _ at eg; clear hd  hb2
        rcases hBg with hBg | hBg
        · have hK := RS.KZ.stores (B := w14.heap.size) (t := 53) (z := #[.int .i64 0, .int .i64 0, .string ⟨#[]⟩, .string ⟨#[]⟩, .int .i64 0, .int .i64 0]) (cs := #[.int .i64 7, .int .i64 1000, .string ⟨#[49]⟩, .string ⟨#[49, 48, 48, 48]⟩, .int .i64 0, .int .i64 0]) (w := w2) (L := [.int .i64 7, .int .i64 1000, .string ⟨#[49]⟩, .string ⟨#[49, 48, 48, 48]⟩, .int .i64 0, .int .i64 0]) rfl rfl hg (.inl hBg) (vs 8) undef eg
          have q0 := hBg.cell 0 rfl
          have f0 := hBg.frozen 0
          have q1 := hBg.cell 1 rfl
          have f1 := hBg.frozen 1
          have q2 := hBg.cell 2 rfl
          have f2 := hBg.frozen 2
          have q3 := hBg.cell 3 rfl
          have f3 := hBg.frozen 3
          have q4 := hBg.cell 4 rfl
          have f4 := hBg.frozen 4
          have q5 := hBg.cell 5 rfl
          have f5 := hBg.frozen 5
          rw [eg, e0]
          clear hBg
          go_wp2
          first | exact hK | exact hK.2 | exact ⟨hK.1, g, eg, hK.2.2⟩
        · have hK := RS.KZ.stores (B := w14.heap.size) (t := 53) (z := #[.int .i64 0, .int .i64 0, .string ⟨#[]⟩, .string ⟨#[]⟩, .int .i64 0, .int .i64 0]) (cs := #[.int .i64 7, .int .i64 1000, .string ⟨#[49]⟩, .string ⟨#[49, 48, 48, 48]⟩, .int .i64 0, .int .i64 0]) (w := w2) (L := [.int .i64 7, .int .i64 1000, .string ⟨#[49]⟩, .string ⟨#[49, 48, 48, 48]⟩, .int .i64 0, .int .i64 0]) rfl rfl hg (.inr hBg) (vs 8) undef eg
          have q0 := hBg.cell 0 rfl
          have f0 := hBg.frozen 0
          have q1 := hBg.cell 1 rfl
          have f1 := hBg.frozen 1
          have q2 := hBg.cell 2 rfl
          have f2 := hBg.frozen 2
          have q3 := hBg.cell 3 rfl
          have f3 := hBg.frozen 3
          have q4 := hBg.cell 4 rfl
          have f4 := hBg.frozen 4
          have q5 := hBg.cell 5 rfl
          have f5 := hBg.frozen 5
          rw [eg, e0]
          clear hBg
          go_wp2
          first | exact hK | exact hK.2 | exact ⟨hK.1, g, eg, hK.2.2⟩
      · have e0 := hd 6 rfl; change vs 6 = _ at e0; clear hd 
        rw [e0]
        go_wp2
        first | exact ⟨RS.KZ.rf _ _ _ _ _, rfl⟩ | exact ⟨RS.KZ.rf _ _ _ _ _, by simp [RS.Eqv]⟩ | exact RS.KZ.rf _ _ _ _ _ | (simp [RS.Eqv])
      · have e0 := hd 7 rfl; change vs 7 = _ at e0; clear hd 
        rw [e0]
        go_wp2
        first | exact ⟨RS.KZ.rf _ _ _ _ _, rfl⟩ | exact ⟨RS.KZ.rf _ _ _ _ _, by simp [RS.Eqv]⟩ | exact RS.KZ.rf _ _ _ _ _ | (simp [RS.Eqv])
    · intro vs w15 hba hR2
      simp only [RS.AllR, RS.Eqv] at hR2
      obtain ⟨e0, e1, e2, e3, e4, e5, e6, e7, e8, e9, e10, e11, -⟩ := hR2
      obtain ⟨gO, egS, hgS, BO⟩ := e9
      change vs 8 = _ at egS
      clear e8
      obtain ⟨gL2, egL2, hgL2, BL2⟩ := e2
      simp only [List.drop, List.take, List.map, RS.putD, Act.put, List.setIfInBounds_toArray, List.set_cons_succ, List.set_cons_zero, Nat.reduceAdd]
      rw [e0, e1, egL2, e3, e4, e5, e6, e7, egS, e10, e11]
      clear e0 e1 e3 e4 e5 e6 e7 e10 e11 egL2 BL2 hgL2 egS hgS
      have hb1 := hba.bl
      replace st := st.call hb1
      replace BR := BR.call hb1
      replace BP := BP.call hb1
      replace BA := BA.call hb1
      replace BD := BD.call hb1
      replace BC := BC.call hb1
      replace BF := BF.call hb1
      have lO := BO.lt
      clear hb1 hba
      go_upto_region 8 with fail
      refine RS.wp_region_rgl (RS.cls_KZ (w15.heap.size) 53 #[.int .i64 0, .int .i64 0, .string ⟨#[]⟩, .string ⟨#[]⟩, .int .i64 0, .int .i64 0] #[.int .i64 0, .int .i64 0, .string ⟨#[]⟩, .string ⟨#[]⟩, .int .i64 0, .int .i64 0]) [(11, 10)] [RS.Eqv (.agg #[.int .i64 1, .int .i64 100, .int .i64 100, .int .i64 50, .int .i64 3]), RS.Eqv (.agg #[.int .i64 7, .int .i64 1000, .string ⟨#[49]⟩, .string ⟨#[49, 48, 48, 48]⟩, .int .i64 0, .int .i64 0]), RS.SlZ (w15.heap.size) 53 1 #[.int .i64 7, .int .i64 1000, .string ⟨#[49]⟩, .string ⟨#[49, 48, 48, 48]⟩, .int .i64 0, .int .i64 0], RS.Eqv (.agg #[.int .i64 2, .int .i64 7, .int .i64 1, .int .i64 10, .int .i64 3, .int .i64 3, .slice none 0 0, .int .i64 0, .int .i64 0, .int .i64 0]), RS.SlZ (w15.heap.size) 39 1 #[.int .i64 2, .int .i64 7, .int .i64 1, .int .i64 10, .int .i64 3, .int .i64 3, .slice none 0 0, .int .i64 0, .int .i64 0, .int .i64 0], RS.Eqv (.tuple #[.agg #[.int .i64 0, .int .i64 0, .string ⟨#[]⟩, .string ⟨#[]⟩, .int .i64 0, .int .i64 0], .bool false, .int .i64 0]), RS.Eqv (.tuple #[.agg #[.int .i64 0, .int .i64 0, .string ⟨#[]⟩, .string ⟨#[]⟩, .int .i64 0, .int .i64 0], .bool false, .int .i64 0]), RS.Eqv (.agg #[.int .i64 0, .int .i64 0, .string ⟨#[]⟩, .string ⟨#[]⟩, .int .i64 0, .int .i64 0]), RS.Eqv (.bool false), RS.Eqv (.int .i64 0), RS.PtrZ (w15.heap.size) 53 #[.int .i64 0, .int .i64 0, .string ⟨#[]⟩, .string ⟨#[]⟩, .int .i64 0, .int .i64 0] #[.int .i64 0, .int .i64 0, .string ⟨#[]⟩, .string ⟨#[]⟩, .int .i64 0, .int .i64 0], RS.StoZ (w15.heap.size) 53 #[.int .i64 0, .int .i64 0, .string ⟨#[]⟩, .string ⟨#[]⟩, .int .i64 0, .int .i64 0], RS.Eqv (.bool false), RS.Eqv (.int .i64 0)] 14 247 (by kernel_rfl) rfl rfl (by kernel_rfl) (by kernel_rfl) ?_ ?_ ?_
      · simp only [RS.AllS]
        exact ⟨RS.stab_eqv _, RS.stab_eqv _, RS.stab_slZ (by first | (left; decide) | (right; decide) | (right; simp)), RS.stab_eqv _, RS.stab_slZ (by first | (left; decide) | (right; decide) | (right; simp)), RS.stab_eqv _, RS.stab_eqv _, RS.stab_eqv _, RS.stab_eqv _, RS.stab_eqv _, RS.stab_ptrZ, RS.stab_stoZ, RS.stab_eqv _, RS.stab_eqv _, trivial⟩
      · simp only [RS.UsersG, List.take, List.length]
        refine ⟨?_, ?_, ?_, ?_, ?_, ?_, ?_, ?_, ?_, ?_, ?_, ?_, ?_, ?_, trivial⟩
        all_goals (intro vs w2 hb2 hd; simp only [RS.putD, Act.put, List.nil_append, List.cons_append, List.setIfInBounds_toArray, List.set_cons_succ, List.set_cons_zero, Nat.reduceAdd])
        · have q0 := (BR.below hb2.bl BR.lt).cell 0 rfl; have q1 := (BR.below hb2.bl BR.lt).cell 1 rfl; have q2 := (BR.below hb2.bl BR.lt).cell 2 rfl; have q3 := (BR.below hb2.bl BR.lt).cell 3 rfl; have q4 := (BR.below hb2.bl BR.lt).cell 4 rfl; clear hd 
          skip
          go_wp2
          first | exact ⟨RS.KZ.rf _ _ _ _ _, rfl⟩ | exact ⟨RS.KZ.rf _ _ _ _ _, by simp [RS.Eqv]⟩ | exact RS.KZ.rf _ _ _ _ _ | (simp [RS.Eqv])
        · have q0 := (BO.below hb2.bl BO.lt).cell 0 rfl; have q1 := (BO.below hb2.bl BO.lt).cell 1 rfl; have q2 := (BO.below hb2.bl BO.lt).cell 2 rfl; have q3 := (BO.below hb2.bl BO.lt).cell 3 rfl; have q4 := (BO.below hb2.bl BO.lt).cell 4 rfl; have q5 := (BO.below hb2.bl BO.lt).cell 5 rfl; clear hd 
          skip
          go_wp2
          first | exact ⟨RS.KZ.rf _ _ _ _ _, rfl⟩ | exact ⟨RS.KZ.rf _ _ _ _ _, by simp [RS.Eqv]⟩ | exact RS.KZ.rf _ _ _ _ _ | (simp [RS.Eqv])
        · have e0 := hd 1 rfl; change vs 1 = _ at e0; have hK := hb2.slice (Nat.le_refl _) 53 1 #[.int .i64 7, .int .i64 1000, .string ⟨#[49]⟩, .string ⟨#[49, 48, 48, 48]⟩, .int .i64 0, .int .i64 0] undef; clear hd  hb2
          rw [e0]
          go_wp2
          first | exact hK | exact hK.2 | exact ⟨hK.1, hK.2⟩
        · have hC := share_any 1 w2; clear hd 
          skip
          go_wp2_with fail
          refine hC.mono ?_
          rintro _ w9 ⟨rfl, hb9⟩
          clear hC
          have hK9 := hb2.call (Nat.le_refl _) hb9
          go_wp2
          first | exact ⟨hK9, rfl⟩ | exact hK9 | rfl
        · have e0 := hd 3 rfl; change vs 3 = _ at e0; have hK := hb2.slice (Nat.le_refl _) 39 1 #[.int .i64 2, .int .i64 7, .int .i64 1, .int .i64 10, .int .i64 3, .int .i64 3, .slice none 0 0, .int .i64 0, .int .i64 0, .int .i64 0] undef; clear hd  hb2
          rw [e0]
          go_wp2
          first | exact hK | exact hK.2 | exact ⟨hK.1, hK.2⟩
        · have e0 := hd 0 rfl; change vs 0 = _ at e0; obtain ⟨gs2, es2, hgs2, hBs2⟩ := hd 2 rfl; change vs 2 = _ at es2; obtain ⟨gs4, es4, hgs4, hBs4⟩ := hd 4 rfl; change vs 4 = _ at es4; have hC := ex_early w2 hBs4 hBs2 (st.env.below hb2.bl); clear hd 
          rw [e0, es2, es4]
          go_wp2_with fail
          refine hC.mono ?_
          rintro _ w9 ⟨rfl, hb9⟩
          clear hC
          have hK9 := hb2.call (Nat.le_refl _) hb9
          go_wp2
          first | exact ⟨hK9, rfl⟩ | exact hK9 | rfl
        · have e0 := hd 5 rfl; change vs 5 = _ at e0; clear hd 
          rw [e0]
          go_wp2
          first | exact ⟨RS.KZ.rf _ _ _ _ _, rfl⟩ | exact ⟨RS.KZ.rf _ _ _ _ _, by simp [RS.Eqv]⟩ | exact RS.KZ.rf _ _ _ _ _ | (simp [RS.Eqv])
        · have e0 := hd 6 rfl; change vs 6 = _ at e0; clear hd 
          rw [e0]
          go_wp2
          first | exact ⟨RS.KZ.rf _ _ _ _ _, rfl⟩ | exact ⟨RS.KZ.rf _ _ _ _ _, by simp [RS.Eqv]⟩ | exact RS.KZ.rf _ _ _ _ _ | (simp [RS.Eqv])
        · have e0 := hd 6 rfl; change vs 6 = _ at e0; clear hd 
          rw [e0]
          go_wp2
          first | exact ⟨RS.KZ.rf _ _ _ _ _, rfl⟩ | exact ⟨RS.KZ.rf _ _ _ _ _, by simp [RS.Eqv]⟩ | exact RS.KZ.rf _ _ _ _ _ | (simp [RS.Eqv])
        · have e0 := hd 6 rfl; change vs 6 = _ at e0; clear hd 
          rw [e0]
          go_wp2
          first | exact ⟨RS.KZ.rf _ _ _ _ _, rfl⟩ | exact ⟨RS.KZ.rf _ _ _ _ _, by simp [RS.Eqv]⟩ | exact RS.KZ.rf _ _ _ _ _ | (simp [RS.Eqv])
        · have hK := RS.KZ.new hb2 (Nat.le_refl _) undef; clear hd  hb2
          skip
          go_wp2
          first | exact hK | exact hK.2 | exact ⟨hK.1, hK.2⟩
        · have e0 := hd 7 rfl; change vs 7 = _ at e0; obtain ⟨g, eg, hg, hBg⟩ := hd 10 rfl; change vs 10 = _ at eg; clear hd  hb2
          rcases hBg with hBg | hBg
          · have hK := RS.KZ.stores (B := w15.heap.size) (t := 53) (z := #[.int .i64 0, .int .i64 0, .string ⟨#[]⟩, .string ⟨#[]⟩, .int .i64 0, .int .i64 0]) (cs := #[.int .i64 0, .int .i64 0, .string ⟨#[]⟩, .string ⟨#[]⟩, .int .i64 0, .int .i64 0]) (w := w2) (L := [.int .i64 0, .int .i64 0, .string ⟨#[]⟩, .string ⟨#[]⟩, .int .i64 0, .int .i64 0]) rfl rfl hg (.inl hBg) (vs 10) undef eg
            have q0 := hBg.cell 0 rfl
            have f0 := hBg.frozen 0
            have q1 := hBg.cell 1 rfl
            have f1 := hBg.frozen 1
            have q2 := hBg.cell 2 rfl
            have f2 := hBg.frozen 2
            have q3 := hBg.cell 3 rfl
            have f3 := hBg.frozen 3
            have q4 := hBg.cell 4 rfl
            have f4 := hBg.frozen 4
            have q5 := hBg.cell 5 rfl
            have f5 := hBg.frozen 5
            rw [eg, e0]
            clear hBg
            go_wp2
            first | exact hK | exact hK.2 | exact ⟨hK.1, g, eg, hK.2.2⟩
          · have hK := RS.KZ.stores (B := w15.heap.size) (t := 53) (z := #[.int .i64 0, .int .i64 0, .string ⟨#[]⟩, .string ⟨#[]⟩, .int .i64 0, .int .i64 0]) (cs := #[.int .i64 0, .int .i64 0, .string ⟨#[]⟩, .string ⟨#[]⟩, .int .i64 0, .int .i64 0]) (w := w2) (L := [.int .i64 0, .int .i64 0, .string ⟨#[]⟩, .string ⟨#[]⟩, .int .i64 0, .int .i64 0]) rfl rfl hg (.inr hBg) (vs 10) undef eg
            have q0 := hBg.cell 0 rfl
            have f0 := hBg.frozen 0
            have q1 := hBg.cell 1 rfl
            have f1 := hBg.frozen 1
            have q2 := hBg.cell 2 rfl
            have f2 := hBg.frozen 2
            have q3 := hBg.cell 3 rfl
            have f3 := hBg.frozen 3
            have q4 := hBg.cell 4 rfl
            have f4 := hBg.frozen 4
            have q5 := hBg.cell 5 rfl
            have f5 := hBg.frozen 5
            rw [eg, e0]
            clear hBg
            go_wp2
            first | exact hK | exact hK.2 | exact ⟨hK.1, g, eg, hK.2.2⟩
        · have e0 := hd 8 rfl; change vs 8 = _ at e0; clear hd 
          rw [e0]
          go_wp2
          first | exact ⟨RS.KZ.rf _ _ _ _ _, rfl⟩ | exact ⟨RS.KZ.rf _ _ _ _ _, by simp [RS.Eqv]⟩ | exact RS.KZ.rf _ _ _ _ _ | (simp [RS.Eqv])
        · have e0 := hd 9 rfl; change vs 9 = _ at e0; clear hd 
          rw [e0]
          go_wp2
          first | exact ⟨RS.KZ.rf _ _ _ _ _, rfl⟩ | exact ⟨RS.KZ.rf _ _ _ _ _, by simp [RS.Eqv]⟩ | exact RS.KZ.rf _ _ _ _ _ | (simp [RS.Eqv])
      · intro vs w16 hba hR2
        simp only [RS.AllR, RS.Eqv] at hR2
        obtain ⟨e0, e1, e2, e3, e4, e5, e6, e7, e8, e9, e10, e11, e12, e13, -⟩ := hR2
        obtain ⟨gE, egS, hgS, BE⟩ := e11
        change vs 10 = _ at egS
        clear e10
        obtain ⟨gL2, egL2, hgL2, BL2⟩ := e2
        obtain ⟨gL4, egL4, hgL4, BL4⟩ := e4
        simp only [List.drop, List.take, List.map, RS.putD, Act.put, List.setIfInBounds_toArray, List.set_cons_succ, List.set_cons_zero, Nat.reduceAdd]
        rw [e0, e1, egL2, e3, egL4, e5, e6, e7, e8, e9, egS, e12, e13]
        clear e0 e1 e3 e5 e6 e7 e8 e9 e12 e13 egL2 BL2 hgL2 egL4 BL4 hgL4 egS hgS
        have hb1 := hba.bl
        replace st := st.call hb1
        replace BR := BR.call hb1
        replace BP := BP.call hb1
        replace BA := BA.call hb1
        replace BD := BD.call hb1
        replace BC := BC.call hb1
        replace BF := BF.call hb1
        replace BO := BO.call hb1
        have lE := BE.lt
        clear hb1 hba
        go_upto_region 9 with fail
        refine RS.wp_region_rgl (RS.cls_KZ (w16.heap.size) 53 #[.int .i64 0, .int .i64 0, .string ⟨#[]⟩, .string ⟨#[]⟩, .int .i64 0, .int .i64 0] #[.int .i64 7, .int .i64 1150, .string ⟨#[49]⟩, .string ⟨#[49, 48, 48, 48]⟩, .int .i64 0, .int .i64 0]) [(11, 10)] [RS.Eqv (.agg #[.int .i64 1, .int .i64 100, .int .i64 100, .int .i64 50, .int .i64 3]), RS.Eqv (.agg #[.int .i64 7, .int .i64 1000, .string ⟨#[49]⟩, .string ⟨#[49, 48, 48, 48]⟩, .int .i64 0, .int .i64 0]), RS.SlZ (w16.heap.size) 53 1 #[.int .i64 7, .int .i64 1000, .string ⟨#[49]⟩, .string ⟨#[49, 48, 48, 48]⟩, .int .i64 0, .int .i64 0], RS.Eqv (.agg #[.int .i64 2, .int .i64 7, .int .i64 1, .int .i64 10, .int .i64 3, .int .i64 3, .slice none 0 0, .int .i64 0, .int .i64 0, .int .i64 0]), RS.SlZ (w16.heap.size) 39 1 #[.int .i64 2, .int .i64 7, .int .i64 1, .int .i64 10, .int .i64 3, .int .i64 3, .slice none 0 0, .int .i64 0, .int .i64 0, .int .i64 0], RS.Eqv (.tuple #[.agg #[.int .i64 7, .int .i64 1150, .string ⟨#[49]⟩, .string ⟨#[49, 48, 48, 48]⟩, .int .i64 0, .int .i64 0], .bool true, .int .i64 0]), RS.Eqv (.tuple #[.agg #[.int .i64 7, .int .i64 1150, .string ⟨#[49]⟩, .string ⟨#[49, 48, 48, 48]⟩, .int .i64 0, .int .i64 0], .bool true, .int .i64 0]), RS.Eqv (.agg #[.int .i64 7, .int .i64 1150, .string ⟨#[49]⟩, .string ⟨#[49, 48, 48, 48]⟩, .int .i64 0, .int .i64 0]), RS.Eqv (.bool true), RS.Eqv (.int .i64 0), RS.PtrZ (w16.heap.size) 53 #[.int .i64 0, .int .i64 0, .string ⟨#[]⟩, .string ⟨#[]⟩, .int .i64 0, .int .i64 0] #[.int .i64 7, .int .i64 1150, .string ⟨#[49]⟩, .string ⟨#[49, 48, 48, 48]⟩, .int .i64 0, .int .i64 0], RS.StoZ (w16.heap.size) 53 #[.int .i64 7, .int .i64 1150, .string ⟨#[49]⟩, .string ⟨#[49, 48, 48, 48]⟩, .int .i64 0, .int .i64 0], RS.Eqv (.bool true), RS.Eqv (.int .i64 0)] 14 247 (by kernel_rfl) rfl rfl (by kernel_rfl) (by kernel_rfl) ?_ ?_ ?_
        · simp only [RS.AllS]
          exact ⟨RS.stab_eqv _, RS.stab_eqv _, RS.stab_slZ (by first | (left; decide) | (right; decide) | (right; simp)), RS.stab_eqv _, RS.stab_slZ (by first | (left; decide) | (right; decide) | (right; simp)), RS.stab_eqv _, RS.stab_eqv _, RS.stab_eqv _, RS.stab_eqv _, RS.stab_eqv _, RS.stab_ptrZ, RS.stab_stoZ, RS.stab_eqv _, RS.stab_eqv _, trivial⟩
        · simp only [RS.UsersG, List.take, List.length]
          refine ⟨?_, ?_, ?_, ?_, ?_, ?_, ?_, ?_, ?_, ?_, ?_, ?_, ?_, ?_, trivial⟩
          all_goals (intro vs w2 hb2 hd; simp only [RS.putD, Act.put, List.nil_append, List.cons_append, List.setIfInBounds_toArray, List.set_cons_succ, List.set_cons_zero, Nat.reduceAdd])
          · have q0 := (BR.below hb2.bl BR.lt).cell 0 rfl; have q1 := (BR.below hb2.bl BR.lt).cell 1 rfl; have q2 := (BR.below hb2.bl BR.lt).cell 2 rfl; have q3 := (BR.below hb2.bl BR.lt).cell 3 rfl; have q4 := (BR.below hb2.bl BR.lt).cell 4 rfl; clear hd 
            skip
            go_wp2
            first | exact ⟨RS.KZ.rf _ _ _ _ _, rfl⟩ | exact ⟨RS.KZ.rf _ _ _ _ _, by simp [RS.Eqv]⟩ | exact RS.KZ.rf _ _ _ _ _ | (simp [RS.Eqv])
          · have q0 := (BO.below hb2.bl BO.lt).cell 0 rfl; have q1 := (BO.below hb2.bl BO.lt).cell 1 rfl; have q2 := (BO.below hb2.bl BO.lt).cell 2 rfl; have q3 := (BO.below hb2.bl BO.lt).cell 3 rfl; have q4 := (BO.below hb2.bl BO.lt).cell 4 rfl; have q5 := (BO.below hb2.bl BO.lt).cell 5 rfl; clear hd 
            skip
            go_wp2
            first | exact ⟨RS.KZ.rf _ _ _ _ _, rfl⟩ | exact ⟨RS.KZ.rf _ _ _ _ _, by simp [RS.Eqv]⟩ | exact RS.KZ.rf _ _ _ _ _ | (simp [RS.Eqv])
          · have e0 := hd 1 rfl; change vs 1 = _ at e0; have hK := hb2.slice (Nat.le_refl _) 53 1 #[.int .i64 7, .int .i64 1000, .string ⟨#[49]⟩, .string ⟨#[49, 48, 48, 48]⟩, .int .i64 0, .int .i64 0] undef; clear hd  hb2
            rw [e0]
            go_wp2
            first | exact hK | exact hK.2 | exact ⟨hK.1, hK.2⟩
          · have hC := share_any 1 w2; clear hd 
            skip
            go_wp2_with fail
            refine hC.mono ?_
            rintro _ w9 ⟨rfl, hb9⟩
            clear hC
            have hK9 := hb2.call (Nat.le_refl _) hb9
            go_wp2
            first | exact ⟨hK9, rfl⟩ | exact hK9 | rfl
          · have e0 := hd 3 rfl; change vs 3 = _ at e0; have hK := hb2.slice (Nat.le_refl _) 39 1 #[.int .i64 2, .int .i64 7, .int .i64 1, .int .i64 10, .int .i64 3, .int .i64 3, .slice none 0 0, .int .i64 0, .int .i64 0, .int .i64 0] undef; clear hd  hb2
            rw [e0]
            go_wp2
            first | exact hK | exact hK.2 | exact ⟨hK.1, hK.2⟩
          · have e0 := hd 0 rfl; change vs 0 = _ at e0; obtain ⟨gs2, es2, hgs2, hBs2⟩ := hd 2 rfl; change vs 2 = _ at es2; obtain ⟨gs4, es4, hgs4, hBs4⟩ := hd 4 rfl; change vs 4 = _ at es4; have hC := ex_two w2 hBs4 hBs2 (st.env.below hb2.bl); clear hd 
            rw [e0, es2, es4]
            go_wp2_with fail
            refine hC.mono ?_
            rintro _ w9 ⟨rfl, hb9⟩
            clear hC
            have hK9 := hb2.call (Nat.le_refl _) hb9
            go_wp2
            first | exact ⟨hK9, rfl⟩ | exact hK9 | rfl
          · have e0 := hd 5 rfl; change vs 5 = _ at e0; clear hd 
            rw [e0]
            go_wp2
            first | exact ⟨RS.KZ.rf _ _ _ _ _, rfl⟩ | exact ⟨RS.KZ.rf _ _ _ _ _, by simp [RS.Eqv]⟩ | exact RS.KZ.rf _ _ _ _ _ | (simp [RS.Eqv])
          · have e0 := hd 6 rfl; change vs 6 = _ at e0; clear hd 
            rw [e0]
            go_wp2
            first | exact ⟨RS.KZ.rf _ _ _ _ _, rfl⟩ | exact ⟨RS.KZ.rf _ _ _ _ _, by simp [RS.Eqv]⟩ | exact RS.KZ.rf _ _ _ _ _ | (simp [RS.Eqv])
          · have e0 := hd 6 rfl; change vs 6 = _ at e0; clear hd 
            rw [e0]
            go_wp2
            first | exact ⟨RS.KZ.rf _ _ _ _ _, rfl⟩ | exact ⟨RS.KZ.rf _ _ _ _ _, by simp [RS.Eqv]⟩ | exact RS.KZ.rf _ _ _ _ _ | (simp [RS.Eqv])
          · have e0 := hd 6 rfl; change vs 6 = _ at e0; clear hd 
            rw [e0]
            go_wp2
            first | exact ⟨RS.KZ.rf _ _ _ _ _, rfl⟩ | exact ⟨RS.KZ.rf _ _ _ _ _, by simp [RS.Eqv]⟩ | exact RS.KZ.rf _ _ _ _ _ | (simp [RS.Eqv])
          · have hK := RS.KZ.new hb2 (Nat.le_refl _) undef; clear hd  hb2
            skip
            go_wp2
            first | exact hK | exact hK.2 | exact ⟨hK.1, hK.2⟩
          · have e0 := hd 7 rfl; change vs 7 = _ at e0; obtain ⟨g, eg, hg, hBg⟩ := hd 10 rfl; change vs 10 = _ at eg; clear hd  hb2
            rcases hBg with hBg | hBg
            · have hK := RS.KZ.stores (B := w16.heap.size) (t := 53) (z := #[.int .i64 0, .int .i64 0, .string ⟨#[]⟩, .string ⟨#[]⟩, .int .i64 0, .int .i64 0]) (cs := #[.int .i64 7, .int .i64 1150, .string ⟨#[49]⟩, .string ⟨#[49, 48, 48, 48]⟩, .int .i64 0, .int .i64 0]) (w := w2) (L := [.int .i64 7, .int .i64 1150, .string ⟨#[49]⟩, .string ⟨#[49, 48, 48, 48]⟩, .int .i64 0, .int .i64 0]) rfl rfl hg (.inl hBg) (vs 10) undef eg
              have q0 := hBg.cell 0 rfl
              have f0 := hBg.frozen 0
              have q1 := hBg.cell 1 rfl
              have f1 := hBg.frozen 1
              have q2 := hBg.cell 2 rfl
              have f2 := hBg.frozen 2
              have q3 := hBg.cell 3 rfl
              have f3 := hBg.frozen 3
              have q4 := hBg.cell 4 rfl
              have f4 := hBg.frozen 4
              have q5 := hBg.cell 5 rfl
              have f5 := hBg.frozen 5
              rw [eg, e0]
              clear hBg
              go_wp2
              first | exact hK | exact hK.2 | exact ⟨hK.1, g, eg, hK.2.2⟩
            · have hK := RS.KZ.stores (B := w16.heap.size) (t := 53) (z := #[.int .i64 0, .int .i64 0, .string ⟨#[]⟩, .string ⟨#[]⟩, .int .i64 0, .int .i64 0]) (cs := #[.int .i64 7, .int .i64 1150, .string ⟨#[49]⟩, .string ⟨#[49, 48, 48, 48]⟩, .int .i64 0, .int .i64 0]) (w := w2) (L := [.int .i64 7, .int .i64 1150, .string ⟨#[49]⟩, .string ⟨#[49, 48, 48, 48]⟩, .int .i64 0, .int .i64 0]) rfl rfl hg (.inr hBg) (vs 10) undef eg
              have q0 := hBg.cell 0 rfl
              have f0 := hBg.frozen 0
              have q1 := hBg.cell 1 rfl
              have f1 := hBg.frozen 1
              have q2 := hBg.cell 2 rfl
              have f2 := hBg.frozen 2
              have q3 := hBg.cell 3 rfl
              have f3 := hBg.frozen 3
              have q4 := hBg.cell 4 rfl
              have f4 := hBg.frozen 4
              have q5 := hBg.cell 5 rfl
              have f5 := hBg.frozen 5
              rw [eg, e0]
              clear hBg
              go_wp2
              first | exact hK | exact hK.2 | exact ⟨hK.1, g, eg, hK.2.2⟩
          · have e0 := hd 8 rfl; change vs 8 = _ at e0; clear hd 
            rw [e0]
            go_wp2
            first | exact ⟨RS.KZ.rf _ _ _ _ _, rfl⟩ | exact ⟨RS.KZ.rf _ _ _ _ _, by simp [RS.Eqv]⟩ | exact RS.KZ.rf _ _ _ _ _ | (simp [RS.Eqv])
          · have e0 := hd 9 rfl; change vs 9 = _ at e0; clear hd 
            rw [e0]
            go_wp2
            first | exact ⟨RS.KZ.rf _ _ _ _ _, rfl⟩ | exact ⟨RS.KZ.rf _ _ _ _ _, by simp [RS.Eqv]⟩ | exact RS.KZ.rf _ _ _ _ _ | (simp [RS.Eqv])
        · intro vs w17 hba hR2
          simp only [RS.AllR, RS.Eqv] at hR2
          obtain ⟨e0, e1, e2, e3, e4, e5, e6, e7, e8, e9, e10, e11, e12, e13, -⟩ := hR2
          obtain ⟨gU, egS, hgS, BU⟩ := e11
          change vs 10 = _ at egS
          clear e10
          obtain ⟨gL2, egL2, hgL2, BL2⟩ := e2
          obtain ⟨gL4, egL4, hgL4, BL4⟩ := e4
          simp only [List.drop, List.take, List.map, RS.putD, Act.put, List.setIfInBounds_toArray, List.set_cons_succ, List.set_cons_zero, Nat.reduceAdd]
          rw [e0, e1, egL2, e3, egL4, e5, e6, e7, e8, e9, egS, e12, e13]
          clear e0 e1 e3 e5 e6 e7 e8 e9 e12 e13 egL2 BL2 hgL2 egL4 BL4 hgL4 egS hgS
          have hb1 := hba.bl
          replace st := st.call hb1
          replace BR := BR.call hb1
          replace BP := BP.call hb1
          replace BA := BA.call hb1
          replace BD := BD.call hb1
          replace BC := BC.call hb1
          replace BF := BF.call hb1
          replace BO := BO.call hb1
          replace BE := BE.call hb1
          have lU := BU.lt
          clear hb1 hba
          have cR0 := BR.cell 0 rfl
          have cR1 := BR.cell 1 rfl
          have cR2 := BR.cell 2 rfl
          have cR3 := BR.cell 3 rfl
          have cR4 := BR.cell 4 rfl
          have cP0 := BP.cell 0 rfl
          have cP1 := BP.cell 1 rfl
          have cP2 := BP.cell 2 rfl
          have cP3 := BP.cell 3 rfl
          have cP4 := BP.cell 4 rfl
          have cP5 := BP.cell 5 rfl
          have cP6 := BP.cell 6 rfl
          have cP7 := BP.cell 7 rfl
          have cP8 := BP.cell 8 rfl
          have cP9 := BP.cell 9 rfl
          have st0 := st.call (bNewW w17 (.cells #[.int .i64 3, .int .i64 7, .int .i64 0, .int .i64 0, .int .i64 2, .int .i64 2, .slice none 0 0, .int .i64 0, .int .i64 5, .int .i64 2] 39))
          go_wp2_with fail
          refine (ex_weak _ (Bx.mk _ _ _) st0.env).mono ?_
          rintro _ w18 ⟨rfl, hb1⟩
          replace st := st0.call hb1
          clear st0
          replace BR := (BR.new (.cells #[.int .i64 3, .int .i64 7, .int .i64 0, .int .i64 0, .int .i64 2, .int .i64 2, .slice none 0 0, .int .i64 0, .int .i64 5, .int .i64 2] 39)).call hb1
          replace BP := (BP.new (.cells #[.int .i64 3, .int .i64 7, .int .i64 0, .int .i64 0, .int .i64 2, .int .i64 2, .slice none 0 0, .int .i64 0, .int .i64 5, .int .i64 2] 39)).call hb1
          replace BA := (BA.new (.cells #[.int .i64 3, .int .i64 7, .int .i64 0, .int .i64 0, .int .i64 2, .int .i64 2, .slice none 0 0, .int .i64 0, .int .i64 5, .int .i64 2] 39)).call hb1
          replace BD := (BD.new (.cells #[.int .i64 3, .int .i64 7, .int .i64 0, .int .i64 0, .int .i64 2, .int .i64 2, .slice none 0 0, .int .i64 0, .int .i64 5, .int .i64 2] 39)).call hb1
          replace BC := (BC.new (.cells #[.int .i64 3, .int .i64 7, .int .i64 0, .int .i64 0, .int .i64 2, .int .i64 2, .slice none 0 0, .int .i64 0, .int .i64 5, .int .i64 2] 39)).call hb1
          replace BF := (BF.new (.cells #[.int .i64 3, .int .i64 7, .int .i64 0, .int .i64 0, .int .i64 2, .int .i64 2, .slice none 0 0, .int .i64 0, .int .i64 5, .int .i64 2] 39)).call hb1
          replace BO := (BO.new (.cells #[.int .i64 3, .int .i64 7, .int .i64 0, .int .i64 0, .int .i64 2, .int .i64 2, .slice none 0 0, .int .i64 0, .int .i64 5, .int .i64 2] 39)).call hb1
          replace BE := (BE.new (.cells #[.int .i64 3, .int .i64 7, .int .i64 0, .int .i64 0, .int .i64 2, .int .i64 2, .slice none 0 0, .int .i64 0, .int .i64 5, .int .i64 2] 39)).call hb1
          replace BU := (BU.new (.cells #[.int .i64 3, .int .i64 7, .int .i64 0, .int .i64 0, .int .i64 2, .int .i64 2, .slice none 0 0, .int .i64 0, .int .i64 5, .int .i64 2] 39)).call hb1
          clear hb1
          clear cR0 cR1 cR2 cR3 cR4 cP0 cP1 cP2 cP3 cP4 cP5 cP6 cP7 cP8 cP9
          go_upto_region 11 with fail
          have dRV := BR.lt
          have dPV := BP.lt
          have dAV := BA.lt
          have dDV := BD.lt
          have dCV := BC.lt
          have dFV := BF.lt
          have dOV := BO.lt
          have dEV := BE.lt
          have dUV := BU.lt
          replace BR := BR.new (.cells #[.int .i64 0, .int .i64 0, .string ⟨#[]⟩, .string ⟨#[]⟩, .int .i64 0, .int .i64 0] 53)
          replace BP := BP.new (.cells #[.int .i64 0, .int .i64 0, .string ⟨#[]⟩, .string ⟨#[]⟩, .int .i64 0, .int .i64 0] 53)
          replace BA := BA.new (.cells #[.int .i64 0, .int .i64 0, .string ⟨#[]⟩, .string ⟨#[]⟩, .int .i64 0, .int .i64 0] 53)
          replace BD := BD.new (.cells #[.int .i64 0, .int .i64 0, .string ⟨#[]⟩, .string ⟨#[]⟩, .int .i64 0, .int .i64 0] 53)
          replace BC := BC.new (.cells #[.int .i64 0, .int .i64 0, .string ⟨#[]⟩, .string ⟨#[]⟩, .int .i64 0, .int .i64 0] 53)
          replace BF := BF.new (.cells #[.int .i64 0, .int .i64 0, .string ⟨#[]⟩, .string ⟨#[]⟩, .int .i64 0, .int .i64 0] 53)
          replace BO := BO.new (.cells #[.int .i64 0, .int .i64 0, .string ⟨#[]⟩, .string ⟨#[]⟩, .int .i64 0, .int .i64 0] 53)
          replace BE := BE.new (.cells #[.int .i64 0, .int .i64 0, .string ⟨#[]⟩, .string ⟨#[]⟩, .int .i64 0, .int .i64 0] 53)
          replace BU := BU.new (.cells #[.int .i64 0, .int .i64 0, .string ⟨#[]⟩, .string ⟨#[]⟩, .int .i64 0, .int .i64 0] 53)
          have BV := Bx.mk w18 53 #[.int .i64 0, .int .i64 0, .string ⟨#[]⟩, .string ⟨#[]⟩, .int .i64 0, .int .i64 0]
          replace st := st.call (bNewW w18 (.cells #[.int .i64 0, .int .i64 0, .string ⟨#[]⟩, .string ⟨#[]⟩, .int .i64 0, .int .i64 0] 53))
          have lV := BV.lt
          generalize w18.alloc (.cells #[.int .i64 0, .int .i64 0, .string ⟨#[]⟩, .string ⟨#[]⟩, .int .i64 0, .int .i64 0] 53) = w19 at *
          generalize w18.heap.size = gV at *
          have cR0 := BR.cell 0 rfl
          have cR1 := BR.cell 1 rfl
          have cR2 := BR.cell 2 rfl
          have cR3 := BR.cell 3 rfl
          have cR4 := BR.cell 4 rfl
          have cO0 := BO.cell 0 rfl
          have cO1 := BO.cell 1 rfl
          have cO2 := BO.cell 2 rfl
          have cO3 := BO.cell 3 rfl
          have cO4 := BO.cell 4 rfl
          have cO5 := BO.cell 5 rfl
          go_wp2_with fail
          refine (ex_end _ st.env).mono ?_
          rintro _ w20 ⟨rfl, hb1⟩
          replace st := st.call hb1
          replace BR := BR.call hb1
          replace BP := BP.call hb1
          replace BA := BA.call hb1
          replace BD := BD.call hb1
          replace BC := BC.call hb1
          replace BF := BF.call hb1
          replace BO := BO.call hb1
          replace BE := BE.call hb1
          replace BU := BU.call hb1
          replace BV := BV.call hb1
          clear hb1
          clear cR0 cR1 cR2 cR3 cR4 cO0 cO1 cO2 cO3 cO4 cO5
          have cA0 := BA.cell 0 rfl
          have cA1 := BA.cell 1 rfl
          go_wp2_with fail
          refine (is_yes [49] [49, 48, 48, 48] _).mono ?_
          rintro _ w21 ⟨rfl, hb1⟩
          replace st := st.call hb1
          replace BR := BR.call hb1
          replace BP := BP.call hb1
          replace BA := BA.call hb1
          replace BD := BD.call hb1
          replace BC := BC.call hb1
          replace BF := BF.call hb1
          replace BO := BO.call hb1
          replace BE := BE.call hb1
          replace BU := BU.call hb1
          replace BV := BV.call hb1
          clear hb1
          clear cA0 cA1
          have cD0 := BD.cell 0 rfl
          have cD1 := BD.cell 1 rfl
          go_wp2_with fail
          refine (is_yes [49] [49, 48] _).mono ?_
          rintro _ w22 ⟨rfl, hb1⟩
          replace st := st.call hb1
          replace BR := BR.call hb1
          replace BP := BP.call hb1
          replace BA := BA.call hb1
          replace BD := BD.call hb1
          replace BC := BC.call hb1
          replace BF := BF.call hb1
          replace BO := BO.call hb1
          replace BE := BE.call hb1
          replace BU := BU.call hb1
          replace BV := BV.call hb1
          clear hb1
          clear cD0 cD1
          have cC0 := BC.cell 0 rfl
          have cC1 := BC.cell 1 rfl
          go_wp2_with fail
          refine (is_yes [49] [53, 48, 48] _).mono ?_
          rintro _ w23 ⟨rfl, hb1⟩
          replace st := st.call hb1
          replace BR := BR.call hb1
          replace BP := BP.call hb1
          replace BA := BA.call hb1
          replace BD := BD.call hb1
          replace BC := BC.call hb1
          replace BF := BF.call hb1
          replace BO := BO.call hb1
          replace BE := BE.call hb1
          replace BU := BU.call hb1
          replace BV := BV.call hb1
          clear hb1
          clear cC0 cC1
          have cF0 := BF.cell 0 rfl
          have cF1 := BF.cell 1 rfl
          go_wp2_with fail
          refine (is_yes [49] [53, 48, 48] _).mono ?_
          rintro _ w24 ⟨rfl, hb1⟩
          replace st := st.call hb1
          replace BR := BR.call hb1
          replace BP := BP.call hb1
          replace BA := BA.call hb1
          replace BD := BD.call hb1
          replace BC := BC.call hb1
          replace BF := BF.call hb1
          replace BO := BO.call hb1
          replace BE := BE.call hb1
          replace BU := BU.call hb1
          replace BV := BV.call hb1
          clear hb1
          clear cF0 cF1
          go_upto_region 15 with fail
          refine RS.wp_region_rgl (RS.cls_KZ (w24.heap.size) 4 #[] #[]) [] [RS.Eqv (.bool true), RS.Eqv (.bool true), RS.Eqv (.bool false), RS.Eqv (.bool true), RS.Eqv (.bool true), RS.Eqv (.bool true), RS.Eqv (.bool true), RS.Eqv (.bool true), RS.Eqv (.bool true), RS.Eqv (.bool false), RS.Eqv (.bool true), RS.Eqv (.bool true), RS.Eqv (.bool true), RS.Eqv (.agg #[.int .i64 7, .int .i64 1000, .string ⟨#[49]⟩, .string ⟨#[49, 48, 48, 48]⟩, .int .i64 0, .int .i64 0]), RS.Eqv (.agg #[.string ⟨#[49]⟩, .string ⟨#[49, 48, 48, 48]⟩]), RS.Eqv (.agg #[.int .i64 7, .int .i64 1000, .string ⟨#[49]⟩, .string ⟨#[49, 48, 48, 48]⟩, .int .i64 0, .int .i64 0]), RS.Eqv (.bool true), RS.Eqv (.bool true), RS.Eqv (.bool true), RS.Eqv (.pointer (some ⟨gU, 1, none⟩)), RS.Eqv (.int .i64 1150), RS.Eqv (.bool true), RS.Eqv (.bool true), RS.Eqv (.bool true), RS.Eqv (.int .i64 1100), RS.Eqv (.bool true), RS.Eqv (.bool true), RS.Eqv (.bool true), RS.Eqv (.agg #[.int .i64 1, .int .i64 100, .int .i64 100, .int .i64 50, .int .i64 3]), RS.Eqv (.agg #[.int .i64 7, .int .i64 1000, .string ⟨#[49]⟩, .string ⟨#[49, 48, 48, 48]⟩, .int .i64 0, .int .i64 0]), RS.Eqv (.agg #[.int .i64 2, .int .i64 7, .int .i64 1, .int .i64 10, .int .i64 3, .int .i64 3, .slice none 0 0, .int .i64 0, .int .i64 0, .int .i64 0]), RS.SlZ (w24.heap.size) 39 1 #[.int .i64 2, .int .i64 7, .int .i64 1, .int .i64 10, .int .i64 3, .int .i64 3, .slice none 0 0, .int .i64 0, .int .i64 0, .int .i64 0], RS.Eqv (.bool true), RS.Eqv (.bool true), RS.Eqv (.bool true), RS.Eqv (.agg #[.int .i64 1, .int .i64 100, .int .i64 100, .int .i64 50, .int .i64 3]), RS.Eqv (.agg #[.int .i64 7, .int .i64 1000, .string ⟨#[49]⟩, .string ⟨#[49, 48, 48, 48]⟩, .int .i64 0, .int .i64 0]), RS.Eqv (.agg #[.int .i64 2, .int .i64 7, .int .i64 2, .int .i64 10, .int .i64 3, .int .i64 3, .slice none 0 0, .int .i64 0, .int .i64 0, .int .i64 0]), RS.SlZ (w24.heap.size) 39 1 #[.int .i64 2, .int .i64 7, .int .i64 2, .int .i64 10, .int .i64 3, .int .i64 3, .slice none 0 0, .int .i64 0, .int .i64 0, .int .i64 0], RS.Eqv (.bool false), RS.Eqv (.bool true), RS.Eqv (.bool true), RS.Eqv (.bool true)] 43 247 (by kernel_rfl) rfl rfl (by kernel_rfl) (by kernel_rfl) ?_ ?_ ?_
          · simp only [RS.AllS]
            exact ⟨RS.stab_eqv _, RS.stab_eqv _, RS.stab_eqv _, RS.stab_eqv _, RS.stab_eqv _, RS.stab_eqv _, RS.stab_eqv _, RS.stab_eqv _, RS.stab_eqv _, RS.stab_eqv _, RS.stab_eqv _, RS.stab_eqv _, RS.stab_eqv _, RS.stab_eqv _, RS.stab_eqv _, RS.stab_eqv _, RS.stab_eqv _, RS.stab_eqv _, RS.stab_eqv _, RS.stab_eqv _, RS.stab_eqv _, RS.stab_eqv _, RS.stab_eqv _, RS.stab_eqv _, RS.stab_eqv _, RS.stab_eqv _, RS.stab_eqv _, RS.stab_eqv _, RS.stab_eqv _, RS.stab_eqv _, RS.stab_eqv _, RS.stab_slZ (by first | (left; decide) | (right; decide) | (right; simp)), RS.stab_eqv _, RS.stab_eqv _, RS.stab_eqv _, RS.stab_eqv _, RS.stab_eqv _, RS.stab_eqv _, RS.stab_slZ (by first | (left; decide) | (right; decide) | (right; simp)), RS.stab_eqv _, RS.stab_eqv _, RS.stab_eqv _, RS.stab_eqv _, trivial⟩
          · simp only [RS.UsersG, List.take, List.length]
            refine ⟨?_, ?_, ?_, ?_, ?_, ?_, ?_, ?_, ?_, ?_, ?_, ?_, ?_, ?_, ?_, ?_, ?_, ?_, ?_, ?_, ?_, ?_, ?_, ?_, ?_, ?_, ?_, ?_, ?_, ?_, ?_, ?_, ?_, ?_, ?_, ?_, ?_, ?_, ?_, ?_, ?_, ?_, ?_, trivial⟩
            all_goals (intro vs w2 hb2 hd; simp only [RS.putD, Act.put, List.nil_append, List.cons_append, List.setIfInBounds_toArray, List.set_cons_succ, List.set_cons_zero, Nat.reduceAdd])
            · clear hd 
              skip
              go_wp2
              first | exact ⟨RS.KZ.rf _ _ _ _ _, rfl⟩ | exact ⟨RS.KZ.rf _ _ _ _ _, by simp [RS.Eqv]⟩ | exact RS.KZ.rf _ _ _ _ _ | (simp [RS.Eqv])
            · have e0 := hd 0 rfl; change vs 0 = _ at e0; clear hd 
              rw [e0]
              go_wp2
              first | exact ⟨RS.KZ.rf _ _ _ _ _, rfl⟩ | exact ⟨RS.KZ.rf _ _ _ _ _, by simp [RS.Eqv]⟩ | exact RS.KZ.rf _ _ _ _ _ | (simp [RS.Eqv])
            · have e0 := hd 1 rfl; change vs 1 = _ at e0; clear hd 
              rw [e0]
              go_wp2
              first | exact ⟨RS.KZ.rf _ _ _ _ _, rfl⟩ | exact ⟨RS.KZ.rf _ _ _ _ _, by simp [RS.Eqv]⟩ | exact RS.KZ.rf _ _ _ _ _ | (simp [RS.Eqv])
            · have e0 := hd 1 rfl; change vs 1 = _ at e0; have e1 := hd 2 rfl; change vs 2 = _ at e1; clear hd 
              rw [e0, e1]
              go_wp2
              first | exact ⟨RS.KZ.rf _ _ _ _ _, rfl⟩ | exact ⟨RS.KZ.rf _ _ _ _ _, by simp [RS.Eqv]⟩ | exact RS.KZ.rf _ _ _ _ _ | (simp [RS.Eqv])
            · have e0 := hd 1 rfl; change vs 1 = _ at e0; have e1 := hd 3 rfl; change vs 3 = _ at e1; clear hd 
              rw [e0, e1]
              go_wp2
              first | exact ⟨RS.KZ.rf _ _ _ _ _, rfl⟩ | exact ⟨RS.KZ.rf _ _ _ _ _, by simp [RS.Eqv]⟩ | exact RS.KZ.rf _ _ _ _ _ | (simp [RS.Eqv])
            · have e0 := hd 4 rfl; change vs 4 = _ at e0; clear hd 
              rw [e0]
              go_wp2
              first | exact ⟨RS.KZ.rf _ _ _ _ _, rfl⟩ | exact ⟨RS.KZ.rf _ _ _ _ _, by simp [RS.Eqv]⟩ | exact RS.KZ.rf _ _ _ _ _ | (simp [RS.Eqv])
            · have e0 := hd 5 rfl; change vs 5 = _ at e0; clear hd 
              rw [e0]
              go_wp2
              first | exact ⟨RS.KZ.rf _ _ _ _ _, rfl⟩ | exact ⟨RS.KZ.rf _ _ _ _ _, by simp [RS.Eqv]⟩ | exact RS.KZ.rf _ _ _ _ _ | (simp [RS.Eqv])
            · have e0 := hd 5 rfl; change vs 5 = _ at e0; have e1 := hd 6 rfl; change vs 6 = _ at e1; clear hd 
              rw [e0, e1]
              go_wp2
              first | exact ⟨RS.KZ.rf _ _ _ _ _, rfl⟩ | exact ⟨RS.KZ.rf _ _ _ _ _, by simp [RS.Eqv]⟩ | exact RS.KZ.rf _ _ _ _ _ | (simp [RS.Eqv])
            · have e0 := hd 7 rfl; change vs 7 = _ at e0; clear hd 
              rw [e0]
              go_wp2
              first | exact ⟨RS.KZ.rf _ _ _ _ _, rfl⟩ | exact ⟨RS.KZ.rf _ _ _ _ _, by simp [RS.Eqv]⟩ | exact RS.KZ.rf _ _ _ _ _ | (simp [RS.Eqv])
            · have e0 := hd 8 rfl; change vs 8 = _ at e0; clear hd 
              rw [e0]
              go_wp2
              first | exact ⟨RS.KZ.rf _ _ _ _ _, rfl⟩ | exact ⟨RS.KZ.rf _ _ _ _ _, by simp [RS.Eqv]⟩ | exact RS.KZ.rf _ _ _ _ _ | (simp [RS.Eqv])
            · have e0 := hd 8 rfl; change vs 8 = _ at e0; have e1 := hd 9 rfl; change vs 9 = _ at e1; clear hd 
              rw [e0, e1]
              go_wp2
              first | exact ⟨RS.KZ.rf _ _ _ _ _, rfl⟩ | exact ⟨RS.KZ.rf _ _ _ _ _, by simp [RS.Eqv]⟩ | exact RS.KZ.rf _ _ _ _ _ | (simp [RS.Eqv])
            · have e0 := hd 8 rfl; change vs 8 = _ at e0; have e1 := hd 10 rfl; change vs 10 = _ at e1; clear hd 
              rw [e0, e1]
              go_wp2
              first | exact ⟨RS.KZ.rf _ _ _ _ _, rfl⟩ | exact ⟨RS.KZ.rf _ _ _ _ _, by simp [RS.Eqv]⟩ | exact RS.KZ.rf _ _ _ _ _ | (simp [RS.Eqv])
            · have e0 := hd 11 rfl; change vs 11 = _ at e0; clear hd 
              rw [e0]
              go_wp2
              first | exact ⟨RS.KZ.rf _ _ _ _ _, rfl⟩ | exact ⟨RS.KZ.rf _ _ _ _ _, by simp [RS.Eqv]⟩ | exact RS.KZ.rf _ _ _ _ _ | (simp [RS.Eqv])
            · have e0 := hd 12 rfl; change vs 12 = _ at e0; have q0 := (BO.below hb2.bl BO.lt).cell 0 rfl; have q1 := (BO.below hb2.bl BO.lt).cell 1 rfl; have q2 := (BO.below hb2.bl BO.lt).cell 2 rfl; have q3 := (BO.below hb2.bl BO.lt).cell 3 rfl; have q4 := (BO.below hb2.bl BO.lt).cell 4 rfl; have q5 := (BO.below hb2.bl BO.lt).cell 5 rfl; clear hd 
              rw [e0]
              go_wp2
              first | exact ⟨RS.KZ.rf _ _ _ _ _, rfl⟩ | exact ⟨RS.KZ.rf _ _ _ _ _, by simp [RS.Eqv]⟩ | exact RS.KZ.rf _ _ _ _ _ | (simp [RS.Eqv])
            · have e0 := hd 12 rfl; change vs 12 = _ at e0; have q0 := (BA.below hb2.bl BA.lt).cell 0 rfl; have q1 := (BA.below hb2.bl BA.lt).cell 1 rfl; clear hd 
              rw [e0]
              go_wp2
              first | exact ⟨RS.KZ.rf _ _ _ _ _, rfl⟩ | exact ⟨RS.KZ.rf _ _ _ _ _, by simp [RS.Eqv]⟩ | exact RS.KZ.rf _ _ _ _ _ | (simp [RS.Eqv])
            · have e0 := hd 12 rfl; change vs 12 = _ at e0; have e1 := hd 14 rfl; change vs 14 = _ at e1; clear hd 
              rw [e0, e1]
              go_wp2
              first | exact ⟨RS.KZ.rf _ _ _ _ _, rfl⟩ | exact ⟨RS.KZ.rf _ _ _ _ _, by simp [RS.Eqv]⟩ | exact RS.KZ.rf _ _ _ _ _ | (simp [RS.Eqv])
            · have e0 := hd 12 rfl; change vs 12 = _ at e0; have e1 := hd 13 rfl; change vs 13 = _ at e1; have e2 := hd 15 rfl; change vs 15 = _ at e2; clear hd 
              rw [e0, e1, e2]
              go_wp2
              first | exact ⟨RS.KZ.rf _ _ _ _ _, rfl⟩ | exact ⟨RS.KZ.rf _ _ _ _ _, by simp [RS.Eqv]⟩ | exact RS.KZ.rf _ _ _ _ _ | (simp [RS.Eqv])
            · have e0 := hd 12 rfl; change vs 12 = _ at e0; have e1 := hd 16 rfl; change vs 16 = _ at e1; clear hd 
              rw [e0, e1]
              go_wp2
              first | exact ⟨RS.KZ.rf _ _ _ _ _, rfl⟩ | exact ⟨RS.KZ.rf _ _ _ _ _, by simp [RS.Eqv]⟩ | exact RS.KZ.rf _ _ _ _ _ | (simp [RS.Eqv])
            · have e0 := hd 17 rfl; change vs 17 = _ at e0; clear hd 
              rw [e0]
              go_wp2
              first | exact ⟨RS.KZ.rf _ _ _ _ _, rfl⟩ | exact ⟨RS.KZ.rf _ _ _ _ _, by simp [RS.Eqv]⟩ | exact RS.KZ.rf _ _ _ _ _ | (simp [RS.Eqv])
            · have e0 := hd 18 rfl; change vs 18 = _ at e0; clear hd 
              rw [e0]
              go_wp2
              first | exact ⟨RS.KZ.rf _ _ _ _ _, rfl⟩ | exact ⟨RS.KZ.rf _ _ _ _ _, by simp [RS.Eqv]⟩ | exact RS.KZ.rf _ _ _ _ _ | (simp [RS.Eqv])
            · have e0 := hd 18 rfl; change vs 18 = _ at e0; have e1 := hd 19 rfl; change vs 19 = _ at e1; have q1 := (BU.below hb2.bl BU.lt).cell 1 rfl; clear hd 
              rw [e0, e1]
              go_wp2
              first | exact ⟨RS.KZ.rf _ _ _ _ _, rfl⟩ | exact ⟨RS.KZ.rf _ _ _ _ _, by simp [RS.Eqv]⟩ | exact RS.KZ.rf _ _ _ _ _ | (simp [RS.Eqv])
            · have e0 := hd 18 rfl; change vs 18 = _ at e0; have e1 := hd 20 rfl; change vs 20 = _ at e1; clear hd 
              rw [e0, e1]
              go_wp2
              first | exact ⟨RS.KZ.rf _ _ _ _ _, rfl⟩ | exact ⟨RS.KZ.rf _ _ _ _ _, by simp [RS.Eqv]⟩ | exact RS.KZ.rf _ _ _ _ _ | (simp [RS.Eqv])
            · have e0 := hd 18 rfl; change vs 18 = _ at e0; have e1 := hd 21 rfl; change vs 21 = _ at e1; clear hd 
              rw [e0, e1]
              go_wp2
              first | exact ⟨RS.KZ.rf _ _ _ _ _, rfl⟩ | exact ⟨RS.KZ.rf _ _ _ _ _, by simp [RS.Eqv]⟩ | exact RS.KZ.rf _ _ _ _ _ | (simp [RS.Eqv])
            · have e0 := hd 22 rfl; change vs 22 = _ at e0; clear hd 
              rw [e0]
              go_wp2
              first | exact ⟨RS.KZ.rf _ _ _ _ _, rfl⟩ | exact ⟨RS.KZ.rf _ _ _ _ _, by simp [RS.Eqv]⟩ | exact RS.KZ.rf _ _ _ _ _ | (simp [RS.Eqv])
            · have e0 := hd 23 rfl; change vs 23 = _ at e0; clear hd 
              rw [e0]
              go_wp2
              first | exact ⟨RS.KZ.rf _ _ _ _ _, rfl⟩ | exact ⟨RS.KZ.rf _ _ _ _ _, by simp [RS.Eqv]⟩ | exact RS.KZ.rf _ _ _ _ _ | (simp [RS.Eqv])
            · have e0 := hd 23 rfl; change vs 23 = _ at e0; have e1 := hd 24 rfl; change vs 24 = _ at e1; clear hd 
              rw [e0, e1]
              go_wp2
              first | exact ⟨RS.KZ.rf _ _ _ _ _, rfl⟩ | exact ⟨RS.KZ.rf _ _ _ _ _, by simp [RS.Eqv]⟩ | exact RS.KZ.rf _ _ _ _ _ | (simp [RS.Eqv])
            · have e0 := hd 23 rfl; change vs 23 = _ at e0; have e1 := hd 25 rfl; change vs 25 = _ at e1; clear hd 
              rw [e0, e1]
              go_wp2
              first | exact ⟨RS.KZ.rf _ _ _ _ _, rfl⟩ | exact ⟨RS.KZ.rf _ _ _ _ _, by simp [RS.Eqv]⟩ | exact RS.KZ.rf _ _ _ _ _ | (simp [RS.Eqv])
            · have e0 := hd 26 rfl; change vs 26 = _ at e0; clear hd 
              rw [e0]
              go_wp2
              first | exact ⟨RS.KZ.rf _ _ _ _ _, rfl⟩ | exact ⟨RS.KZ.rf _ _ _ _ _, by simp [RS.Eqv]⟩ | exact RS.KZ.rf _ _ _ _ _ | (simp [RS.Eqv])
            · have e0 := hd 27 rfl; change vs 27 = _ at e0; have q0 := (BR.below hb2.bl BR.lt).cell 0 rfl; have q1 := (BR.below hb2.bl BR.lt).cell 1 rfl; have q2 := (BR.below hb2.bl BR.lt).cell 2 rfl; have q3 := (BR.below hb2.bl BR.lt).cell 3 rfl; have q4 := (BR.below hb2.bl BR.lt).cell 4 rfl; clear hd 
              rw [e0]
              go_wp2
              first | exact ⟨RS.KZ.rf _ _ _ _ _, rfl⟩ | exact ⟨RS.KZ.rf _ _ _ _ _, by simp [RS.Eqv]⟩ | exact RS.KZ.rf _ _ _ _ _ | (simp [RS.Eqv])
            · have e0 := hd 27 rfl; change vs 27 = _ at e0; have q0 := (BO.below hb2.bl BO.lt).cell 0 rfl; have q1 := (BO.below hb2.bl BO.lt).cell 1 rfl; have q2 := (BO.below hb2.bl BO.lt).cell 2 rfl; have q3 := (BO.below hb2.bl BO.lt).cell 3 rfl; have q4 := (BO.below hb2.bl BO.lt).cell 4 rfl; have q5 := (BO.below hb2.bl BO.lt).cell 5 rfl; clear hd 
              rw [e0]
              go_wp2
              first | exact ⟨RS.KZ.rf _ _ _ _ _, rfl⟩ | exact ⟨RS.KZ.rf _ _ _ _ _, by simp [RS.Eqv]⟩ | exact RS.KZ.rf _ _ _ _ _ | (simp [RS.Eqv])
            · have e0 := hd 27 rfl; change vs 27 = _ at e0; have hC := share_any 1 w2; clear hd 
              rw [e0]
              go_wp2_with fail
              refine hC.mono ?_
              rintro _ w9 ⟨rfl, hb9⟩
              clear hC
              have hK9 := hb2.call (Nat.le_refl _) hb9
              go_wp2
              first | exact ⟨hK9, rfl⟩ | exact hK9 | rfl
            · have e0 := hd 27 rfl; change vs 27 = _ at e0; have e1 := hd 30 rfl; change vs 30 = _ at e1; have hK := hb2.slice (Nat.le_refl _) 39 1 #[.int .i64 2, .int .i64 7, .int .i64 1, .int .i64 10, .int .i64 3, .int .i64 3, .slice none 0 0, .int .i64 0, .int .i64 0, .int .i64 0] undef; clear hd  hb2
              rw [e0, e1]
              go_wp2
              first | exact hK | exact hK.2 | exact ⟨hK.1, hK.2⟩
            · have e0 := hd 27 rfl; change vs 27 = _ at e0; have e1 := hd 28 rfl; change vs 28 = _ at e1; have e2 := hd 29 rfl; change vs 29 = _ at e2; obtain ⟨gs31, es31, hgs31, hBs31⟩ := hd 31 rfl; change vs 31 = _ at es31; have hC := ex_chk w2 hBs31 (st.env.below hb2.bl); clear hd 
              rw [e0, e1, e2, es31]
              go_wp2_with fail
              refine hC.mono ?_
              rintro _ w9 ⟨rfl, hb9⟩
              clear hC
              have hK9 := hb2.call (Nat.le_refl _) hb9
              go_wp2
              first | exact ⟨hK9, rfl⟩ | exact hK9 | rfl
            · have e0 := hd 27 rfl; change vs 27 = _ at e0; have e1 := hd 32 rfl; change vs 32 = _ at e1; clear hd 
              rw [e0, e1]
              go_wp2
              first | exact ⟨RS.KZ.rf _ _ _ _ _, rfl⟩ | exact ⟨RS.KZ.rf _ _ _ _ _, by simp [RS.Eqv]⟩ | exact RS.KZ.rf _ _ _ _ _ | (simp [RS.Eqv])
            · have e0 := hd 33 rfl; change vs 33 = _ at e0; clear hd 
              rw [e0]
              go_wp2
              first | exact ⟨RS.KZ.rf _ _ _ _ _, rfl⟩ | exact ⟨RS.KZ.rf _ _ _ _ _, by simp [RS.Eqv]⟩ | exact RS.KZ.rf _ _ _ _ _ | (simp [RS.Eqv])
            · have e0 := hd 34 rfl; change vs 34 = _ at e0; have q0 := (BR.below hb2.bl BR.lt).cell 0 rfl; have q1 := (BR.below hb2.bl BR.lt).cell 1 rfl; have q2 := (BR.below hb2.bl BR.lt).cell 2 rfl; have q3 := (BR.below hb2.bl BR.lt).cell 3 rfl; have q4 := (BR.below hb2.bl BR.lt).cell 4 rfl; clear hd 
              rw [e0]
              go_wp2
              first | exact ⟨RS.KZ.rf _ _ _ _ _, rfl⟩ | exact ⟨RS.KZ.rf _ _ _ _ _, by simp [RS.Eqv]⟩ | exact RS.KZ.rf _ _ _ _ _ | (simp [RS.Eqv])
            · have e0 := hd 34 rfl; change vs 34 = _ at e0; have q0 := (BO.below hb2.bl BO.lt).cell 0 rfl; have q1 := (BO.below hb2.bl BO.lt).cell 1 rfl; have q2 := (BO.below hb2.bl BO.lt).cell 2 rfl; have q3 := (BO.below hb2.bl BO.lt).cell 3 rfl; have q4 := (BO.below hb2.bl BO.lt).cell 4 rfl; have q5 := (BO.below hb2.bl BO.lt).cell 5 rfl; clear hd 
              rw [e0]
              go_wp2
              first | exact ⟨RS.KZ.rf _ _ _ _ _, rfl⟩ | exact ⟨RS.KZ.rf _ _ _ _ _, by simp [RS.Eqv]⟩ | exact RS.KZ.rf _ _ _ _ _ | (simp [RS.Eqv])
            · have e0 := hd 34 rfl; change vs 34 = _ at e0; have hC := share_any 2 w2; clear hd 
              rw [e0]
              go_wp2_with fail
              refine hC.mono ?_
              rintro _ w9 ⟨rfl, hb9⟩
              clear hC
              have hK9 := hb2.call (Nat.le_refl _) hb9
              go_wp2
              first | exact ⟨hK9, rfl⟩ | exact hK9 | rfl
            · have e0 := hd 34 rfl; change vs 34 = _ at e0; have e1 := hd 37 rfl; change vs 37 = _ at e1; have hK := hb2.slice (Nat.le_refl _) 39 1 #[.int .i64 2, .int .i64 7, .int .i64 2, .int .i64 10, .int .i64 3, .int .i64 3, .slice none 0 0, .int .i64 0, .int .i64 0, .int .i64 0] undef; clear hd  hb2
              rw [e0, e1]
              go_wp2
              first | exact hK | exact hK.2 | exact ⟨hK.1, hK.2⟩
            · have e0 := hd 34 rfl; change vs 34 = _ at e0; have e1 := hd 35 rfl; change vs 35 = _ at e1; have e2 := hd 36 rfl; change vs 36 = _ at e2; obtain ⟨gs38, es38, hgs38, hBs38⟩ := hd 38 rfl; change vs 38 = _ at es38; have hC := ex_not w2 hBs38 (st.env.below hb2.bl); clear hd 
              rw [e0, e1, e2, es38]
              go_wp2_with fail
              refine hC.mono ?_
              rintro _ w9 ⟨rfl, hb9⟩
              clear hC
              have hK9 := hb2.call (Nat.le_refl _) hb9
              go_wp2
              first | exact ⟨hK9, rfl⟩ | exact hK9 | rfl
            · have e0 := hd 34 rfl; change vs 34 = _ at e0; have e1 := hd 39 rfl; change vs 39 = _ at e1; clear hd 
              rw [e0, e1]
              go_wp2
              first | exact ⟨RS.KZ.rf _ _ _ _ _, rfl⟩ | exact ⟨RS.KZ.rf _ _ _ _ _, by simp [RS.Eqv]⟩ | exact RS.KZ.rf _ _ _ _ _ | (simp [RS.Eqv])
            · have e0 := hd 34 rfl; change vs 34 = _ at e0; have e1 := hd 40 rfl; change vs 40 = _ at e1; clear hd 
              rw [e0, e1]
              go_wp2
              first | exact ⟨RS.KZ.rf _ _ _ _ _, rfl⟩ | exact ⟨RS.KZ.rf _ _ _ _ _, by simp [RS.Eqv]⟩ | exact RS.KZ.rf _ _ _ _ _ | (simp [RS.Eqv])
            · have e0 := hd 41 rfl; change vs 41 = _ at e0; clear hd 
              rw [e0]
              go_wp2
              first | exact ⟨RS.KZ.rf _ _ _ _ _, rfl⟩ | exact ⟨RS.KZ.rf _ _ _ _ _, by simp [RS.Eqv]⟩ | exact RS.KZ.rf _ _ _ _ _ | (simp [RS.Eqv])
          · intro vs w25 hba hR2
            simp only [RS.AllR, RS.Eqv] at hR2
            obtain ⟨e0, e1, e2, e3, e4, e5, e6, e7, e8, e9, e10, e11, e12, e13, e14, e15, e16, e17, e18, e19, e20, e21, e22, e23, e24, e25, e26, e27, e28, e29, e30, e31, e32, e33, e34, e35, e36, e37, e38, e39, e40, e41, e42, -⟩ := hR2
            obtain ⟨gL31, egL31, hgL31, BL31⟩ := e31
            obtain ⟨gL38, egL38, hgL38, BL38⟩ := e38
            simp only [List.drop, List.take, List.map, RS.putD, Act.put, List.setIfInBounds_toArray, List.set_cons_succ, List.set_cons_zero, Nat.reduceAdd]
            rw [e0, e1, e2, e3, e4, e5, e6, e7, e8, e9, e10, e11, e12, e13, e14, e15, e16, e17, e18, e19, e20, e21, e22, e23, e24, e25, e26, e27, e28, e29, e30, egL31, e32, e33, e34, e35, e36, e37, egL38, e39, e40, e41, e42]
            clear e0 e1 e2 e3 e4 e5 e6 e7 e8 e9 e10 e11 e12 e13 e14 e15 e16 e17 e18 e19 e20 e21 e22 e23 e24 e25 e26 e27 e28 e29 e30 e32 e33 e34 e35 e36 e37 e39 e40 e41 e42 egL31 BL31 hgL31 egL38 BL38 hgL38
            have hb1 := hba.bl
            replace st := st.call hb1
            replace BR := BR.call hb1
            replace BP := BP.call hb1
            replace BA := BA.call hb1
            replace BD := BD.call hb1
            replace BC := BC.call hb1
            replace BF := BF.call hb1
            replace BO := BO.call hb1
            replace BE := BE.call hb1
            replace BU := BU.call hb1
            replace BV := BV.call hb1
            clear hb1 hba
            go_wp2_with fail
            refine (owes_yes 0 0 300 _ (by decide) (by decide) st.env).mono ?_
            rintro _ w26 ⟨rfl, hb1⟩
            replace st := st.call hb1
            replace BR := BR.call hb1
            replace BP := BP.call hb1
            replace BA := BA.call hb1
            replace BD := BD.call hb1
            replace BC := BC.call hb1
            replace BF := BF.call hb1
            replace BO := BO.call hb1
            replace BE := BE.call hb1
            replace BU := BU.call hb1
            replace BV := BV.call hb1
            clear hb1
            go_wp2_with fail
            refine (owes_yes 2 1040 120 _ (by decide) (by decide) st.env).mono ?_
            rintro _ w27 ⟨rfl, hb1⟩
            replace st := st.call hb1
            replace BR := BR.call hb1
            replace BP := BP.call hb1
            replace BA := BA.call hb1
            replace BD := BD.call hb1
            replace BC := BC.call hb1
            replace BF := BF.call hb1
            replace BO := BO.call hb1
            replace BE := BE.call hb1
            replace BU := BU.call hb1
            replace BV := BV.call hb1
            clear hb1
            go_wp2_with fail
            refine (owes_yes 1 1040 0 _ (by decide) (by decide) st.env).mono ?_
            rintro _ w28 ⟨rfl, hb1⟩
            replace st := st.call hb1
            replace BR := BR.call hb1
            replace BP := BP.call hb1
            replace BA := BA.call hb1
            replace BD := BD.call hb1
            replace BC := BC.call hb1
            replace BF := BF.call hb1
            replace BO := BO.call hb1
            replace BE := BE.call hb1
            replace BU := BU.call hb1
            replace BV := BV.call hb1
            clear hb1
            go_wp2_with fail
            refine (owes_yes 1 1100 300 _ (by decide) (by decide) st.env).mono ?_
            rintro _ w29 ⟨rfl, hb1⟩
            replace st := st.call hb1
            replace BR := BR.call hb1
            replace BP := BP.call hb1
            replace BA := BA.call hb1
            replace BD := BD.call hb1
            replace BC := BC.call hb1
            replace BF := BF.call hb1
            replace BO := BO.call hb1
            replace BE := BE.call hb1
            replace BU := BU.call hb1
            replace BV := BV.call hb1
            clear hb1
            have cR0 := BR.cell 0 rfl
            have cR1 := BR.cell 1 rfl
            have cR2 := BR.cell 2 rfl
            have cR3 := BR.cell 3 rfl
            have cR4 := BR.cell 4 rfl
            have cO0 := BO.cell 0 rfl
            have cO1 := BO.cell 1 rfl
            have cO2 := BO.cell 2 rfl
            have cO3 := BO.cell 3 rfl
            have cO4 := BO.cell 4 rfl
            have cO5 := BO.cell 5 rfl
            have st0 := st.call (bNewW w29 (.cells #[.int .i64 7, .int .i64 1000, .string ⟨#[49]⟩, .string ⟨#[49, 48, 48, 48]⟩, .int .i64 0, .int .i64 0] 53))
            go_wp2_with fail
            refine (ex_k1 _ (Bx.mk _ _ _) st0.env).mono ?_
            rintro _ w30 ⟨rfl, hb1⟩
            replace st := st0.call hb1
            clear st0
            replace BR := (BR.new (.cells #[.int .i64 7, .int .i64 1000, .string ⟨#[49]⟩, .string ⟨#[49, 48, 48, 48]⟩, .int .i64 0, .int .i64 0] 53)).call hb1
            replace BP := (BP.new (.cells #[.int .i64 7, .int .i64 1000, .string ⟨#[49]⟩, .string ⟨#[49, 48, 48, 48]⟩, .int .i64 0, .int .i64 0] 53)).call hb1
            replace BA := (BA.new (.cells #[.int .i64 7, .int .i64 1000, .string ⟨#[49]⟩, .string ⟨#[49, 48, 48, 48]⟩, .int .i64 0, .int .i64 0] 53)).call hb1
            replace BD := (BD.new (.cells #[.int .i64 7, .int .i64 1000, .string ⟨#[49]⟩, .string ⟨#[49, 48, 48, 48]⟩, .int .i64 0, .int .i64 0] 53)).call hb1
            replace BC := (BC.new (.cells #[.int .i64 7, .int .i64 1000, .string ⟨#[49]⟩, .string ⟨#[49, 48, 48, 48]⟩, .int .i64 0, .int .i64 0] 53)).call hb1
            replace BF := (BF.new (.cells #[.int .i64 7, .int .i64 1000, .string ⟨#[49]⟩, .string ⟨#[49, 48, 48, 48]⟩, .int .i64 0, .int .i64 0] 53)).call hb1
            replace BO := (BO.new (.cells #[.int .i64 7, .int .i64 1000, .string ⟨#[49]⟩, .string ⟨#[49, 48, 48, 48]⟩, .int .i64 0, .int .i64 0] 53)).call hb1
            replace BE := (BE.new (.cells #[.int .i64 7, .int .i64 1000, .string ⟨#[49]⟩, .string ⟨#[49, 48, 48, 48]⟩, .int .i64 0, .int .i64 0] 53)).call hb1
            replace BU := (BU.new (.cells #[.int .i64 7, .int .i64 1000, .string ⟨#[49]⟩, .string ⟨#[49, 48, 48, 48]⟩, .int .i64 0, .int .i64 0] 53)).call hb1
            replace BV := (BV.new (.cells #[.int .i64 7, .int .i64 1000, .string ⟨#[49]⟩, .string ⟨#[49, 48, 48, 48]⟩, .int .i64 0, .int .i64 0] 53)).call hb1
            clear hb1
            clear cR0 cR1 cR2 cR3 cR4 cO0 cO1 cO2 cO3 cO4 cO5
            have cR0 := BR.cell 0 rfl
            have cR1 := BR.cell 1 rfl
            have cR2 := BR.cell 2 rfl
            have cR3 := BR.cell 3 rfl
            have cR4 := BR.cell 4 rfl
            have cO0 := BO.cell 0 rfl
            have cO1 := BO.cell 1 rfl
            have cO2 := BO.cell 2 rfl
            have cO3 := BO.cell 3 rfl
            have cO4 := BO.cell 4 rfl
            have cO5 := BO.cell 5 rfl
            have st0 := st.call (bNewW w30 (.cells #[.int .i64 7, .int .i64 1000, .string ⟨#[49]⟩, .string ⟨#[49, 48, 48, 48]⟩, .int .i64 0, .int .i64 0] 53))
            go_wp2_with fail
            refine (ex_k2 _ (Bx.mk _ _ _) st0.env).mono ?_
            rintro _ w31 ⟨rfl, hb1⟩
            replace st := st0.call hb1
            clear st0
            replace BR := (BR.new (.cells #[.int .i64 7, .int .i64 1000, .string ⟨#[49]⟩, .string ⟨#[49, 48, 48, 48]⟩, .int .i64 0, .int .i64 0] 53)).call hb1
            replace BP := (BP.new (.cells #[.int .i64 7, .int .i64 1000, .string ⟨#[49]⟩, .string ⟨#[49, 48, 48, 48]⟩, .int .i64 0, .int .i64 0] 53)).call hb1
            replace BA := (BA.new (.cells #[.int .i64 7, .int .i64 1000, .string ⟨#[49]⟩, .string ⟨#[49, 48, 48, 48]⟩, .int .i64 0, .int .i64 0] 53)).call hb1
            replace BD := (BD.new (.cells #[.int .i64 7, .int .i64 1000, .string ⟨#[49]⟩, .string ⟨#[49, 48, 48, 48]⟩, .int .i64 0, .int .i64 0] 53)).call hb1
            replace BC := (BC.new (.cells #[.int .i64 7, .int .i64 1000, .string ⟨#[49]⟩, .string ⟨#[49, 48, 48, 48]⟩, .int .i64 0, .int .i64 0] 53)).call hb1
            replace BF := (BF.new (.cells #[.int .i64 7, .int .i64 1000, .string ⟨#[49]⟩, .string ⟨#[49, 48, 48, 48]⟩, .int .i64 0, .int .i64 0] 53)).call hb1
            replace BO := (BO.new (.cells #[.int .i64 7, .int .i64 1000, .string ⟨#[49]⟩, .string ⟨#[49, 48, 48, 48]⟩, .int .i64 0, .int .i64 0] 53)).call hb1
            replace BE := (BE.new (.cells #[.int .i64 7, .int .i64 1000, .string ⟨#[49]⟩, .string ⟨#[49, 48, 48, 48]⟩, .int .i64 0, .int .i64 0] 53)).call hb1
            replace BU := (BU.new (.cells #[.int .i64 7, .int .i64 1000, .string ⟨#[49]⟩, .string ⟨#[49, 48, 48, 48]⟩, .int .i64 0, .int .i64 0] 53)).call hb1
            replace BV := (BV.new (.cells #[.int .i64 7, .int .i64 1000, .string ⟨#[49]⟩, .string ⟨#[49, 48, 48, 48]⟩, .int .i64 0, .int .i64 0] 53)).call hb1
            clear hb1
            clear cR0 cR1 cR2 cR3 cR4 cO0 cO1 cO2 cO3 cO4 cO5
            have cR0 := BR.cell 0 rfl
            have cR1 := BR.cell 1 rfl
            have cR2 := BR.cell 2 rfl
            have cR3 := BR.cell 3 rfl
            have cR4 := BR.cell 4 rfl
            have cO0 := BO.cell 0 rfl
            have cO1 := BO.cell 1 rfl
            have cO2 := BO.cell 2 rfl
            have cO3 := BO.cell 3 rfl
            have cO4 := BO.cell 4 rfl
            have cO5 := BO.cell 5 rfl
            have st0 := st.call (bNewW w31 (.cells #[.int .i64 7, .int .i64 1000, .string ⟨#[49]⟩, .string ⟨#[49, 48, 48, 48]⟩, .int .i64 0, .int .i64 0] 53))
            go_wp2_with fail
            refine (ex_k3 _ (Bx.mk _ _ _) st0.env).mono ?_
            rintro _ w32 ⟨rfl, hb1⟩
            replace st := st0.call hb1
            clear st0
            replace BR := (BR.new (.cells #[.int .i64 7, .int .i64 1000, .string ⟨#[49]⟩, .string ⟨#[49, 48, 48, 48]⟩, .int .i64 0, .int .i64 0] 53)).call hb1
            replace BP := (BP.new (.cells #[.int .i64 7, .int .i64 1000, .string ⟨#[49]⟩, .string ⟨#[49, 48, 48, 48]⟩, .int .i64 0, .int .i64 0] 53)).call hb1
            replace BA := (BA.new (.cells #[.int .i64 7, .int .i64 1000, .string ⟨#[49]⟩, .string ⟨#[49, 48, 48, 48]⟩, .int .i64 0, .int .i64 0] 53)).call hb1
            replace BD := (BD.new (.cells #[.int .i64 7, .int .i64 1000, .string ⟨#[49]⟩, .string ⟨#[49, 48, 48, 48]⟩, .int .i64 0, .int .i64 0] 53)).call hb1
            replace BC := (BC.new (.cells #[.int .i64 7, .int .i64 1000, .string ⟨#[49]⟩, .string ⟨#[49, 48, 48, 48]⟩, .int .i64 0, .int .i64 0] 53)).call hb1
            replace BF := (BF.new (.cells #[.int .i64 7, .int .i64 1000, .string ⟨#[49]⟩, .string ⟨#[49, 48, 48, 48]⟩, .int .i64 0, .int .i64 0] 53)).call hb1
            replace BO := (BO.new (.cells #[.int .i64 7, .int .i64 1000, .string ⟨#[49]⟩, .string ⟨#[49, 48, 48, 48]⟩, .int .i64 0, .int .i64 0] 53)).call hb1
            replace BE := (BE.new (.cells #[.int .i64 7, .int .i64 1000, .string ⟨#[49]⟩, .string ⟨#[49, 48, 48, 48]⟩, .int .i64 0, .int .i64 0] 53)).call hb1
            replace BU := (BU.new (.cells #[.int .i64 7, .int .i64 1000, .string ⟨#[49]⟩, .string ⟨#[49, 48, 48, 48]⟩, .int .i64 0, .int .i64 0] 53)).call hb1
            replace BV := (BV.new (.cells #[.int .i64 7, .int .i64 1000, .string ⟨#[49]⟩, .string ⟨#[49, 48, 48, 48]⟩, .int .i64 0, .int .i64 0] 53)).call hb1
            clear hb1
            clear cR0 cR1 cR2 cR3 cR4 cO0 cO1 cO2 cO3 cO4 cO5
            have cR0 := BR.cell 0 rfl
            have cR1 := BR.cell 1 rfl
            have cR2 := BR.cell 2 rfl
            have cR3 := BR.cell 3 rfl
            have cR4 := BR.cell 4 rfl
            have cO0 := BO.cell 0 rfl
            have cO1 := BO.cell 1 rfl
            have cO2 := BO.cell 2 rfl
            have cO3 := BO.cell 3 rfl
            have cO4 := BO.cell 4 rfl
            have cO5 := BO.cell 5 rfl
            have st0 := st.call (bNewW w32 (.cells #[.int .i64 7, .int .i64 1000, .string ⟨#[49]⟩, .string ⟨#[49, 48, 48, 48]⟩, .int .i64 0, .int .i64 0] 53))
            go_wp2_with fail
            refine (ex_h1 _ (Bx.mk _ _ _) st0.env).mono ?_
            rintro _ w33 ⟨rfl, hb1⟩
            replace st := st0.call hb1
            clear st0
            replace BR := (BR.new (.cells #[.int .i64 7, .int .i64 1000, .string ⟨#[49]⟩, .string ⟨#[49, 48, 48, 48]⟩, .int .i64 0, .int .i64 0] 53)).call hb1
            replace BP := (BP.new (.cells #[.int .i64 7, .int .i64 1000, .string ⟨#[49]⟩, .string ⟨#[49, 48, 48, 48]⟩, .int .i64 0, .int .i64 0] 53)).call hb1
            replace BA := (BA.new (.cells #[.int .i64 7, .int .i64 1000, .string ⟨#[49]⟩, .string ⟨#[49, 48, 48, 48]⟩, .int .i64 0, .int .i64 0] 53)).call hb1
            replace BD := (BD.new (.cells #[.int .i64 7, .int .i64 1000, .string ⟨#[49]⟩, .string ⟨#[49, 48, 48, 48]⟩, .int .i64 0, .int .i64 0] 53)).call hb1
            replace BC := (BC.new (.cells #[.int .i64 7, .int .i64 1000, .string ⟨#[49]⟩, .string ⟨#[49, 48, 48, 48]⟩, .int .i64 0, .int .i64 0] 53)).call hb1
            replace BF := (BF.new (.cells #[.int .i64 7, .int .i64 1000, .string ⟨#[49]⟩, .string ⟨#[49, 48, 48, 48]⟩, .int .i64 0, .int .i64 0] 53)).call hb1
            replace BO := (BO.new (.cells #[.int .i64 7, .int .i64 1000, .string ⟨#[49]⟩, .string ⟨#[49, 48, 48, 48]⟩, .int .i64 0, .int .i64 0] 53)).call hb1
            replace BE := (BE.new (.cells #[.int .i64 7, .int .i64 1000, .string ⟨#[49]⟩, .string ⟨#[49, 48, 48, 48]⟩, .int .i64 0, .int .i64 0] 53)).call hb1
            replace BU := (BU.new (.cells #[.int .i64 7, .int .i64 1000, .string ⟨#[49]⟩, .string ⟨#[49, 48, 48, 48]⟩, .int .i64 0, .int .i64 0] 53)).call hb1
            replace BV := (BV.new (.cells #[.int .i64 7, .int .i64 1000, .string ⟨#[49]⟩, .string ⟨#[49, 48, 48, 48]⟩, .int .i64 0, .int .i64 0] 53)).call hb1
            clear hb1
            clear cR0 cR1 cR2 cR3 cR4 cO0 cO1 cO2 cO3 cO4 cO5
            have cR0 := BR.cell 0 rfl
            have cR1 := BR.cell 1 rfl
            have cR2 := BR.cell 2 rfl
            have cR3 := BR.cell 3 rfl
            have cR4 := BR.cell 4 rfl
            have cO0 := BO.cell 0 rfl
            have cO1 := BO.cell 1 rfl
            have cO2 := BO.cell 2 rfl
            have cO3 := BO.cell 3 rfl
            have cO4 := BO.cell 4 rfl
            have cO5 := BO.cell 5 rfl
            have st0 := st.call (bNewW w33 (.cells #[.int .i64 7, .int .i64 1000, .string ⟨#[49]⟩, .string ⟨#[49, 48, 48, 48]⟩, .int .i64 0, .int .i64 0] 53))
            go_wp2_with fail
            refine (ex_h2 _ (Bx.mk _ _ _) st0.env).mono ?_
            rintro _ w34 ⟨rfl, hb1⟩
            replace st := st0.call hb1
            clear st0
            replace BR := (BR.new (.cells #[.int .i64 7, .int .i64 1000, .string ⟨#[49]⟩, .string ⟨#[49, 48, 48, 48]⟩, .int .i64 0, .int .i64 0] 53)).call hb1
            replace BP := (BP.new (.cells #[.int .i64 7, .int .i64 1000, .string ⟨#[49]⟩, .string ⟨#[49, 48, 48, 48]⟩, .int .i64 0, .int .i64 0] 53)).call hb1
            replace BA := (BA.new (.cells #[.int .i64 7, .int .i64 1000, .string ⟨#[49]⟩, .string ⟨#[49, 48, 48, 48]⟩, .int .i64 0, .int .i64 0] 53)).call hb1
            replace BD := (BD.new (.cells #[.int .i64 7, .int .i64 1000, .string ⟨#[49]⟩, .string ⟨#[49, 48, 48, 48]⟩, .int .i64 0, .int .i64 0] 53)).call hb1
            replace BC := (BC.new (.cells #[.int .i64 7, .int .i64 1000, .string ⟨#[49]⟩, .string ⟨#[49, 48, 48, 48]⟩, .int .i64 0, .int .i64 0] 53)).call hb1
            replace BF := (BF.new (.cells #[.int .i64 7, .int .i64 1000, .string ⟨#[49]⟩, .string ⟨#[49, 48, 48, 48]⟩, .int .i64 0, .int .i64 0] 53)).call hb1
            replace BO := (BO.new (.cells #[.int .i64 7, .int .i64 1000, .string ⟨#[49]⟩, .string ⟨#[49, 48, 48, 48]⟩, .int .i64 0, .int .i64 0] 53)).call hb1
            replace BE := (BE.new (.cells #[.int .i64 7, .int .i64 1000, .string ⟨#[49]⟩, .string ⟨#[49, 48, 48, 48]⟩, .int .i64 0, .int .i64 0] 53)).call hb1
            replace BU := (BU.new (.cells #[.int .i64 7, .int .i64 1000, .string ⟨#[49]⟩, .string ⟨#[49, 48, 48, 48]⟩, .int .i64 0, .int .i64 0] 53)).call hb1
            replace BV := (BV.new (.cells #[.int .i64 7, .int .i64 1000, .string ⟨#[49]⟩, .string ⟨#[49, 48, 48, 48]⟩, .int .i64 0, .int .i64 0] 53)).call hb1
            clear hb1
            clear cR0 cR1 cR2 cR3 cR4 cO0 cO1 cO2 cO3 cO4 cO5
            have cR0 := BR.cell 0 rfl
            have cR1 := BR.cell 1 rfl
            have cR2 := BR.cell 2 rfl
            have cR3 := BR.cell 3 rfl
            have cR4 := BR.cell 4 rfl
            go_wp2_with fail
            refine (ex_v1 _ st.env).mono ?_
            rintro _ w35 ⟨rfl, hb1⟩
            replace st := st.call hb1
            replace BR := BR.call hb1
            replace BP := BP.call hb1
            replace BA := BA.call hb1
            replace BD := BD.call hb1
            replace BC := BC.call hb1
            replace BF := BF.call hb1
            replace BO := BO.call hb1
            replace BE := BE.call hb1
            replace BU := BU.call hb1
            replace BV := BV.call hb1
            clear hb1
            clear cR0 cR1 cR2 cR3 cR4
            go_wp2_with fail
            refine (ex_v2 _ st.env).mono ?_
            rintro _ w36 ⟨rfl, hb1⟩
            replace st := st.call hb1
            replace BR := BR.call hb1
            replace BP := BP.call hb1
            replace BA := BA.call hb1
            replace BD := BD.call hb1
            replace BC := BC.call hb1
            replace BF := BF.call hb1
            replace BO := BO.call hb1
            replace BE := BE.call hb1
            replace BU := BU.call hb1
            replace BV := BV.call hb1
            clear hb1
            go_wp2
            go_ret
            exact ⟨rfl, st.bl⟩
end Go.Proofs.YtelljijajgiabaaGreatDoor

/- sane of dialtonelaw04: the walk. Of, Small, Long of dialtoneref04. -/
import Derived.Test.YthnikbladjaifaaGreatDoorQ18
import Derived.Test.YthnikbladjaifaaGreatDoorQ16
import Derived.Test.YthnikbladjaifaaGreatDoorQ06
import Derived.Test.YthnikbladjaifaaGreatDoorQ17
namespace Go.Proofs.YthnikbladjaifaaGreatDoor
set_option linter.unusedVariables false
set_option linter.unusedSimpArgs false
open Go.RowKit Go.Shelf
set_option maxRecDepth 100000 in
set_option maxHeartbeats 8000000 in
theorem rsane_any (w : World) (hE : Env w) (hM : EnvM w) : Calls Tryz.prog 4 #[] w fun e w' => e = .returned (.bool true) ∧ Below w.heap.size w w' := by
  have hb := Below.refl w.heap.size w
  go_enter Tryz.func4, Tryz.ntmps4
  go_wp2_with fail
  refine (Sane1 _ (hE.below hb)).mono ?_
  rintro _ w1 ⟨rfl, hb1⟩
  replace hb := bCall hb hb1
  clear hb1
  replace hb := bNew hb (.cells #[.string ⟨#[45, 51]⟩, .string ⟨#[50]⟩] 23)
  have Ba := Bx.mk w1 23 #[.string ⟨#[45, 51]⟩, .string ⟨#[50]⟩]
  go_wp2_with fail
  refine (Sane2 _ (hE.below hb)).mono ?_
  rintro _ w2 ⟨rfl, hb1⟩
  replace hb := bCall hb hb1
  replace Ba := Ba.call hb1
  clear hb1
  replace Ba := Ba.new (.cells #[.string ⟨#[48]⟩, .string ⟨#[49]⟩] 23)
  replace hb := bNew hb (.cells #[.string ⟨#[48]⟩, .string ⟨#[49]⟩] 23)
  have Bb := Bx.mk w2 23 #[.string ⟨#[48]⟩, .string ⟨#[49]⟩]
  go_wp2_with fail
  refine (Sane3 _ (hE.below hb)).mono ?_
  rintro _ w3 ⟨rfl, hb1⟩
  replace hb := bCall hb hb1
  replace Ba := Ba.call hb1
  replace Bb := Bb.call hb1
  clear hb1
  replace Ba := Ba.new (.cells #[.string ⟨#[]⟩, .string ⟨#[]⟩] 23)
  replace Bb := Bb.new (.cells #[.string ⟨#[]⟩, .string ⟨#[]⟩] 23)
  replace hb := bNew hb (.cells #[.string ⟨#[]⟩, .string ⟨#[]⟩] 23)
  go_wp2_with fail
  refine (Is_lit [49] [50] _).mono ?_
  rintro _ w4 ⟨rfl, hb1⟩
  replace hb := bCall hb hb1
  replace Ba := Ba.call hb1
  replace Bb := Bb.call hb1
  clear hb1
  go_wp2_with fail
  refine (Is_lit [49] [51] _).mono ?_
  rintro _ w5 ⟨rfl, hb1⟩
  replace hb := bCall hb hb1
  replace Ba := Ba.call hb1
  replace Bb := Bb.call hb1
  clear hb1
  go_wp2_with fail
  refine (Sane4 _ (hE.below hb)).mono ?_
  rintro _ w6 ⟨rfl, hb1⟩
  replace hb := bCall hb hb1
  replace Ba := Ba.call hb1
  replace Bb := Bb.call hb1
  clear hb1
  replace Ba := Ba.new (.cells #[.string ⟨#[53]⟩, .string ⟨#[54]⟩] 23)
  replace Bb := Bb.new (.cells #[.string ⟨#[53]⟩, .string ⟨#[54]⟩] 23)
  replace hb := bNew hb (.cells #[.string ⟨#[53]⟩, .string ⟨#[54]⟩] 23)
  have Bc := Bx.mk w6 23 #[.string ⟨#[53]⟩, .string ⟨#[54]⟩]
  go_wp2_with fail
  refine (Is_lit [49] [50] _).mono ?_
  rintro _ w7 ⟨rfl, hb1⟩
  replace hb := bCall hb hb1
  replace Ba := Ba.call hb1
  replace Bb := Bb.call hb1
  replace Bc := Bc.call hb1
  clear hb1
  go_wp2_with fail
  refine (Is_lit [45, 49] [52] _).mono ?_
  rintro _ w8 ⟨rfl, hb1⟩
  replace hb := bCall hb hb1
  replace Ba := Ba.call hb1
  replace Bb := Bb.call hb1
  replace Bc := Bc.call hb1
  clear hb1
  go_wp2_with fail
  refine (Sane5 _ (hE.below hb)).mono ?_
  rintro _ w9 ⟨rfl, hb1⟩
  replace hb := bCall hb hb1
  replace Ba := Ba.call hb1
  replace Bb := Bb.call hb1
  replace Bc := Bc.call hb1
  clear hb1
  replace Ba := Ba.new (.cells #[.string ⟨#[45, 50]⟩, .string ⟨#[49]⟩] 23)
  replace Bb := Bb.new (.cells #[.string ⟨#[45, 50]⟩, .string ⟨#[49]⟩] 23)
  replace Bc := Bc.new (.cells #[.string ⟨#[45, 50]⟩, .string ⟨#[49]⟩] 23)
  replace hb := bNew hb (.cells #[.string ⟨#[45, 50]⟩, .string ⟨#[49]⟩] 23)
  have Bd := Bx.mk w9 23 #[.string ⟨#[45, 50]⟩, .string ⟨#[49]⟩]
  go_wp2
  have Xa : Bx (w9.alloc (.cells #[.string ⟨#[45, 50]⟩, .string ⟨#[49]⟩] 23)) (w1.heap.size) 23 #[.string ⟨#[45, 51]⟩, .string ⟨#[50]⟩] := Ba
  have Xb : Bx (w9.alloc (.cells #[.string ⟨#[45, 50]⟩, .string ⟨#[49]⟩] 23)) (w2.heap.size) 23 #[.string ⟨#[48]⟩, .string ⟨#[49]⟩] := Bb
  have Xc : Bx (w9.alloc (.cells #[.string ⟨#[45, 50]⟩, .string ⟨#[49]⟩] 23)) (w6.heap.size) 23 #[.string ⟨#[53]⟩, .string ⟨#[54]⟩] := Bc
  have Xd : Bx (w9.alloc (.cells #[.string ⟨#[45, 50]⟩, .string ⟨#[49]⟩] 23)) (w9.heap.size) 23 #[.string ⟨#[45, 50]⟩, .string ⟨#[49]⟩] := Bd
  have Xh : Below w.heap.size w (w9.alloc (.cells #[.string ⟨#[45, 50]⟩, .string ⟨#[49]⟩] 23)) := hb
  have hE0 := hE.below Xh
  clear hb Ba Bb Bc Bd
  generalize hW : (w9.alloc (.cells #[.string ⟨#[45, 50]⟩, .string ⟨#[49]⟩] 23)) = W at *
  clear hW
  have Ba := Xa
  have Bb := Xb
  have Bc := Xc
  have Bd := Xd
  have hb := Xh
  clear Xh Xa Xb Xc Xd
  refine RS.wp_region_rgl (RS.cls_KF (W.heap.size) 23 #[.string ⟨#[]⟩, .string ⟨#[]⟩]) [(7, 6)] [RS.Eqv (.agg #[.string ⟨#[49]⟩, .string ⟨#[49]⟩]), RS.Eqv (.agg #[.string ⟨#[48]⟩, .string ⟨#[49]⟩]), RS.Eqv (.tuple #[.agg #[.string ⟨#[]⟩, .string ⟨#[]⟩], .int .i64 40]), RS.Eqv (.tuple #[.agg #[.string ⟨#[]⟩, .string ⟨#[]⟩], .int .i64 40]), RS.Eqv (.agg #[.string ⟨#[]⟩, .string ⟨#[]⟩]), RS.Eqv (.int .i64 40), RS.PtrR (W.heap.size) 23 #[.string ⟨#[]⟩, .string ⟨#[]⟩], RS.StoR (W.heap.size) 23 #[.string ⟨#[]⟩, .string ⟨#[]⟩], RS.Eqv (.int .i64 40)] 9 164 (by kernel_rfl) rfl rfl (by kernel_rfl) (by kernel_rfl) ?_ ?_ ?_
  · simp only [RS.AllS]
    exact ⟨RS.stab_eqv _, RS.stab_eqv _, RS.stab_eqv _, RS.stab_eqv _, RS.stab_eqv _, RS.stab_eqv _, RS.stab_ptr _ _ _, RS.stab_sto _ _ _, RS.stab_eqv _, trivial⟩
  · simp only [RS.UsersG, List.take, List.length]
    refine ⟨?_, ?_, ?_, ?_, ?_, ?_, ?_, ?_, ?_, trivial⟩
    all_goals (intro vs w2 hb2 hd; simp only [RS.putD, Act.put, List.nil_append, List.cons_append, List.setIfInBounds_toArray, List.set_cons_succ, List.set_cons_zero, Nat.reduceAdd])
    · have hC := Is_lit [49] [49] w2; clear hd 
      go_wp2_with fail
      refine hC.mono ?_
      rintro _ w9 ⟨rfl, hb9⟩
      clear hC
      go_wp2
      exact ⟨hb2.call (Nat.le_refl _) hb9, rfl⟩
    · have q0 := (Bb.below hb2.1 Bb.lt).cell 0 rfl; have q1 := (Bb.below hb2.1 Bb.lt).cell 1 rfl; clear hd ; go_wp2; first | exact ⟨RS.KF.rf _ _ _ _, rfl⟩ | exact ⟨RS.KF.rf _ _ _ _, by simp [RS.Eqv]⟩ | (simp [RS.Eqv])
    · have e0 := hd 0 rfl; change vs 0 = _ at e0; have e1 := hd 1 rfl; change vs 1 = _ at e1; have hC := Sane6 w2 (hE0.below (hb2.1)); clear hd ; rw [e0, e1]
      go_wp2_with fail
      refine hC.mono ?_
      rintro _ w9 ⟨rfl, hb9⟩
      clear hC
      go_wp2
      exact ⟨hb2.call (Nat.le_refl _) hb9, rfl⟩
    · have e0 := hd 2 rfl; change vs 2 = _ at e0; clear hd ; rw [e0]; go_wp2; first | exact ⟨RS.KF.rf _ _ _ _, rfl⟩ | exact ⟨RS.KF.rf _ _ _ _, by simp [RS.Eqv]⟩ | (simp [RS.Eqv])
    · have e0 := hd 3 rfl; change vs 3 = _ at e0; clear hd ; rw [e0]; go_wp2; first | exact ⟨RS.KF.rf _ _ _ _, rfl⟩ | exact ⟨RS.KF.rf _ _ _ _, by simp [RS.Eqv]⟩ | (simp [RS.Eqv])
    · have e0 := hd 3 rfl; change vs 3 = _ at e0; clear hd ; rw [e0]; go_wp2; first | exact ⟨RS.KF.rf _ _ _ _, rfl⟩ | exact ⟨RS.KF.rf _ _ _ _, by simp [RS.Eqv]⟩ | (simp [RS.Eqv])
    · clear hd ; go_wp2; exact hb2.new (Nat.le_refl _) #[.string ⟨#[]⟩, .string ⟨#[]⟩] rfl _
    · have e0 := hd 4 rfl; change vs 4 = _ at e0; obtain ⟨g, c, eg, hg, hcs, hB⟩ := hd 6 rfl; change vs 6 = _ at eg; obtain ⟨a', b', rfl⟩ := RS.two_cells hcs; have q0 := hB.cell 0 rfl; have q1 := hB.cell 1 rfl; have q2 := hB.frozen 0; have q3 := hB.frozen 1; clear hd ; rw [eg, e0]; go_wp2; exact RS.KF.store2 hg hB _ eg _
    · have e0 := hd 5 rfl; change vs 5 = _ at e0; clear hd ; rw [e0]; go_wp2; first | exact ⟨RS.KF.rf _ _ _ _, rfl⟩ | exact ⟨RS.KF.rf _ _ _ _, by simp [RS.Eqv]⟩ | (simp [RS.Eqv])
  · intro vs wa hba hR2
    simp only [RS.AllR, RS.Eqv] at hR2
    obtain ⟨e0, e1, e2, e3, e4, e5, e6, e7, e8, -⟩ := hR2
    obtain ⟨gS, egS, hgS, BS⟩ := e7
    change vs 6 = _ at egS
    clear e6
    simp only [List.drop, List.take, List.map, RS.putD, Act.put, List.setIfInBounds_toArray, List.set_cons_succ, List.set_cons_zero, Nat.reduceAdd]
    rw [e0, e1, e2, e3, e4, e5, egS, e8]
    clear e0 e1 e2 e3 e4 e5 e8
    replace hb := hb.trans (hba.1.mono hb.size)
    replace Ba := Ba.below hba.1 Ba.lt
    replace Bb := Bb.below hba.1 Bb.lt
    replace Bc := Bc.below hba.1 Bc.lt
    replace Bd := Bd.below hba.1 Bd.lt
    clear hba BS egS hgS hE0
    go_wp2_with fail
    refine (Is_lit [45, 49] [51] _).mono ?_
    rintro _ w10 ⟨rfl, hb1⟩
    replace hb := bCall hb hb1
    replace Ba := Ba.call hb1
    replace Bb := Bb.call hb1
    replace Bc := Bc.call hb1
    replace Bd := Bd.call hb1
    clear hb1
    go_wp2_with fail
    refine (Sane7 _ (hE.below hb)).mono ?_
    rintro _ w11 ⟨rfl, hb1⟩
    replace hb := bCall hb hb1
    replace Ba := Ba.call hb1
    replace Bb := Bb.call hb1
    replace Bc := Bc.call hb1
    replace Bd := Bd.call hb1
    clear hb1
    replace Ba := Ba.new (.cells #[.string ⟨#[45, 49, 55]⟩, .string ⟨#[53, 48]⟩] 23)
    replace Bb := Bb.new (.cells #[.string ⟨#[45, 49, 55]⟩, .string ⟨#[53, 48]⟩] 23)
    replace Bc := Bc.new (.cells #[.string ⟨#[45, 49, 55]⟩, .string ⟨#[53, 48]⟩] 23)
    replace Bd := Bd.new (.cells #[.string ⟨#[45, 49, 55]⟩, .string ⟨#[53, 48]⟩] 23)
    replace hb := bNew hb (.cells #[.string ⟨#[45, 49, 55]⟩, .string ⟨#[53, 48]⟩] 23)
    have Bk := Bx.mk w11 23 #[.string ⟨#[45, 49, 55]⟩, .string ⟨#[53, 48]⟩]
    go_wp2_with fail
    refine (Is_lit [49] [51] _).mono ?_
    rintro _ w12 ⟨rfl, hb1⟩
    replace hb := bCall hb hb1
    replace Ba := Ba.call hb1
    replace Bb := Bb.call hb1
    replace Bc := Bc.call hb1
    replace Bd := Bd.call hb1
    replace Bk := Bk.call hb1
    clear hb1
    go_wp2_with fail
    refine (Sane8 _ (hE.below hb)).mono ?_
    rintro _ w13 ⟨rfl, hb1⟩
    replace hb := bCall hb hb1
    replace Ba := Ba.call hb1
    replace Bb := Bb.call hb1
    replace Bc := Bc.call hb1
    replace Bd := Bd.call hb1
    replace Bk := Bk.call hb1
    clear hb1
    replace Ba := Ba.new (.cells #[.string ⟨#[49, 55]⟩, .string ⟨#[53, 48]⟩] 23)
    replace Bb := Bb.new (.cells #[.string ⟨#[49, 55]⟩, .string ⟨#[53, 48]⟩] 23)
    replace Bc := Bc.new (.cells #[.string ⟨#[49, 55]⟩, .string ⟨#[53, 48]⟩] 23)
    replace Bd := Bd.new (.cells #[.string ⟨#[49, 55]⟩, .string ⟨#[53, 48]⟩] 23)
    replace Bk := Bk.new (.cells #[.string ⟨#[49, 55]⟩, .string ⟨#[53, 48]⟩] 23)
    replace hb := bNew hb (.cells #[.string ⟨#[49, 55]⟩, .string ⟨#[53, 48]⟩] 23)
    have Bm := Bx.mk w13 23 #[.string ⟨#[49, 55]⟩, .string ⟨#[53, 48]⟩]
    go_wp2_with fail
    refine (Sane9 _ (hM.below hb) (hE.below hb)).mono ?_
    rintro _ w14 ⟨rfl, hb1⟩
    replace hb := bCall hb hb1
    replace Ba := Ba.call hb1
    replace Bb := Bb.call hb1
    replace Bc := Bc.call hb1
    replace Bd := Bd.call hb1
    replace Bk := Bk.call hb1
    replace Bm := Bm.call hb1
    clear hb1
    replace Ba := Ba.new (.cells #[.string ⟨#[45, 51]⟩, .string ⟨#[50]⟩] 23)
    replace Bb := Bb.new (.cells #[.string ⟨#[45, 51]⟩, .string ⟨#[50]⟩] 23)
    replace Bc := Bc.new (.cells #[.string ⟨#[45, 51]⟩, .string ⟨#[50]⟩] 23)
    replace Bd := Bd.new (.cells #[.string ⟨#[45, 51]⟩, .string ⟨#[50]⟩] 23)
    replace Bk := Bk.new (.cells #[.string ⟨#[45, 51]⟩, .string ⟨#[50]⟩] 23)
    replace Bm := Bm.new (.cells #[.string ⟨#[45, 51]⟩, .string ⟨#[50]⟩] 23)
    replace hb := bNew hb (.cells #[.string ⟨#[45, 51]⟩, .string ⟨#[50]⟩] 23)
    have Bo := Bx.mk w14 23 #[.string ⟨#[45, 51]⟩, .string ⟨#[50]⟩]
    go_wp2_with fail
    refine (Sane10 _ (hM.below hb) (hE.below hb)).mono ?_
    rintro _ w15 ⟨rfl, hb1⟩
    replace hb := bCall hb hb1
    replace Ba := Ba.call hb1
    replace Bb := Bb.call hb1
    replace Bc := Bc.call hb1
    replace Bd := Bd.call hb1
    replace Bk := Bk.call hb1
    replace Bm := Bm.call hb1
    replace Bo := Bo.call hb1
    clear hb1
    replace Ba := Ba.new (.cells #[.string ⟨#[]⟩, .string ⟨#[]⟩] 23)
    replace Bb := Bb.new (.cells #[.string ⟨#[]⟩, .string ⟨#[]⟩] 23)
    replace Bc := Bc.new (.cells #[.string ⟨#[]⟩, .string ⟨#[]⟩] 23)
    replace Bd := Bd.new (.cells #[.string ⟨#[]⟩, .string ⟨#[]⟩] 23)
    replace Bk := Bk.new (.cells #[.string ⟨#[]⟩, .string ⟨#[]⟩] 23)
    replace Bm := Bm.new (.cells #[.string ⟨#[]⟩, .string ⟨#[]⟩] 23)
    replace Bo := Bo.new (.cells #[.string ⟨#[]⟩, .string ⟨#[]⟩] 23)
    replace hb := bNew hb (.cells #[.string ⟨#[]⟩, .string ⟨#[]⟩] 23)
    go_wp2
    have Xa : Bx (w15.alloc (.cells #[.string ⟨#[]⟩, .string ⟨#[]⟩] 23)) (w1.heap.size) 23 #[.string ⟨#[45, 51]⟩, .string ⟨#[50]⟩] := Ba
    have Xb : Bx (w15.alloc (.cells #[.string ⟨#[]⟩, .string ⟨#[]⟩] 23)) (w2.heap.size) 23 #[.string ⟨#[48]⟩, .string ⟨#[49]⟩] := Bb
    have Xc : Bx (w15.alloc (.cells #[.string ⟨#[]⟩, .string ⟨#[]⟩] 23)) (w6.heap.size) 23 #[.string ⟨#[53]⟩, .string ⟨#[54]⟩] := Bc
    have Xd : Bx (w15.alloc (.cells #[.string ⟨#[]⟩, .string ⟨#[]⟩] 23)) (w9.heap.size) 23 #[.string ⟨#[45, 50]⟩, .string ⟨#[49]⟩] := Bd
    have Xk : Bx (w15.alloc (.cells #[.string ⟨#[]⟩, .string ⟨#[]⟩] 23)) (w11.heap.size) 23 #[.string ⟨#[45, 49, 55]⟩, .string ⟨#[53, 48]⟩] := Bk
    have Xm : Bx (w15.alloc (.cells #[.string ⟨#[]⟩, .string ⟨#[]⟩] 23)) (w13.heap.size) 23 #[.string ⟨#[49, 55]⟩, .string ⟨#[53, 48]⟩] := Bm
    have Xo : Bx (w15.alloc (.cells #[.string ⟨#[]⟩, .string ⟨#[]⟩] 23)) (w14.heap.size) 23 #[.string ⟨#[45, 51]⟩, .string ⟨#[50]⟩] := Bo
    have Xh : Below w.heap.size w (w15.alloc (.cells #[.string ⟨#[]⟩, .string ⟨#[]⟩] 23)) := hb
    have hE0 := hE.below Xh
    clear hb Ba Bb Bc Bd Bk Bm Bo
    generalize hW : (w15.alloc (.cells #[.string ⟨#[]⟩, .string ⟨#[]⟩] 23)) = W3 at *
    clear hW
    have Ba := Xa
    have Bb := Xb
    have Bc := Xc
    have Bd := Xd
    have Bk := Xk
    have Bm := Xm
    have Bo := Xo
    have hb := Xh
    clear Xh Xa Xb Xc Xd Xk Xm Xo
    refine wp_region_rglG [Eqv (.bool true), Eqv (.bool true), Eqv (.agg #[.string ⟨#[45, 51]⟩, .string ⟨#[50]⟩]), Eqv (.agg #[.string ⟨#[45, 51]⟩, .string ⟨#[50]⟩]), Eqv (.bool true), Eqv (.bool true), Eqv (.bool true), Eqv (.agg #[.string ⟨#[48]⟩, .string ⟨#[49]⟩]), Eqv (.agg #[.string ⟨#[48]⟩, .string ⟨#[49]⟩]), Eqv (.bool true), Eqv (.bool true), Eqv (.bool true), Eqv (.agg #[.string ⟨#[53]⟩, .string ⟨#[54]⟩]), Eqv (.agg #[.string ⟨#[53]⟩, .string ⟨#[54]⟩]), Eqv (.bool true), Eqv (.bool true), Eqv (.bool true), Eqv (.agg #[.string ⟨#[45, 50]⟩, .string ⟨#[49]⟩]), Eqv (.agg #[.string ⟨#[45, 50]⟩, .string ⟨#[49]⟩]), Eqv (.bool true), Eqv (.bool true), Eqv (.bool true), Eqv (.agg #[.string ⟨#[45, 49, 55]⟩, .string ⟨#[53, 48]⟩]), Eqv (.agg #[.string ⟨#[45, 49, 55]⟩, .string ⟨#[53, 48]⟩]), Eqv (.bool true), Eqv (.bool true), Eqv (.bool true), Eqv (.agg #[.string ⟨#[49, 55]⟩, .string ⟨#[53, 48]⟩]), Eqv (.agg #[.string ⟨#[49, 55]⟩, .string ⟨#[53, 48]⟩]), Eqv (.bool true), Eqv (.bool true), Eqv (.bool true), Eqv (.agg #[.string ⟨#[45, 51]⟩, .string ⟨#[50]⟩]), Eqv (.agg #[.string ⟨#[45, 51]⟩, .string ⟨#[50]⟩]), Eqv (.bool true), Eqv (.bool true), Eqv (.bool true), Eqv (.agg #[.string ⟨#[45, 51]⟩, .string ⟨#[50]⟩]), Eqv (.string ⟨#[45, 51, 47, 50]⟩), Eqv (.bool true), Eqv (.bool true), Eqv (.bool true), Eqv (.agg #[.string ⟨#[49]⟩, .string ⟨#[51]⟩]), Eqv (.agg #[.string ⟨#[51, 51, 51, 51, 51]⟩, .string ⟨#[49, 48, 48, 48, 48, 48]⟩]), Eqv (.int .i64 1), Eqv (.bool true), Eqv (.bool true), Eqv (.bool true), Eqv (.agg #[.string ⟨#[45, 51]⟩, .string ⟨#[50]⟩]), Eqv (.bool true), Eqv (.bool true), Eqv (.bool true), Eqv (.agg #[.string ⟨#[]⟩, .string ⟨#[]⟩]), Eqv (.bool false), Eqv (.bool true), Eqv (.bool true), Eqv (.bool true)] 57 164 (by kernel_rfl) rfl rfl (by kernel_rfl) ?_ ?_ ?_
    · simp only [AllS]
      exact ⟨stab_eqv _, stab_eqv _, stab_eqv _, stab_eqv _, stab_eqv _, stab_eqv _, stab_eqv _, stab_eqv _, stab_eqv _, stab_eqv _, stab_eqv _, stab_eqv _, stab_eqv _, stab_eqv _, stab_eqv _, stab_eqv _, stab_eqv _, stab_eqv _, stab_eqv _, stab_eqv _, stab_eqv _, stab_eqv _, stab_eqv _, stab_eqv _, stab_eqv _, stab_eqv _, stab_eqv _, stab_eqv _, stab_eqv _, stab_eqv _, stab_eqv _, stab_eqv _, stab_eqv _, stab_eqv _, stab_eqv _, stab_eqv _, stab_eqv _, stab_eqv _, stab_eqv _, stab_eqv _, stab_eqv _, stab_eqv _, stab_eqv _, stab_eqv _, stab_eqv _, stab_eqv _, stab_eqv _, stab_eqv _, stab_eqv _, stab_eqv _, stab_eqv _, stab_eqv _, stab_eqv _, stab_eqv _, stab_eqv _, stab_eqv _, stab_eqv _, trivial⟩
    · simp only [UsersG, List.take, List.length]
      refine ⟨?_, ?_, ?_, ?_, ?_, ?_, ?_, ?_, ?_, ?_, ?_, ?_, ?_, ?_, ?_, ?_, ?_, ?_, ?_, ?_, ?_, ?_, ?_, ?_, ?_, ?_, ?_, ?_, ?_, ?_, ?_, ?_, ?_, ?_, ?_, ?_, ?_, ?_, ?_, ?_, ?_, ?_, ?_, ?_, ?_, ?_, ?_, ?_, ?_, ?_, ?_, ?_, ?_, ?_, ?_, ?_, ?_, trivial⟩
      all_goals (intro vs w2 hb2 hd; simp only [putD, Act.put, List.nil_append, List.cons_append, List.setIfInBounds_toArray, List.set_cons_succ, List.set_cons_zero, Nat.reduceAdd])
      · clear hd ; go_wp2; first | exact ⟨Below.refl _ _, rfl⟩ | exact ⟨Below.refl _ _, by simp [Eqv]⟩ | (simp [Eqv])
      · have e0 := hd 0 rfl; change vs 0 = _ at e0; clear hd ; rw [e0]; go_wp2; first | exact ⟨Below.refl _ _, rfl⟩ | exact ⟨Below.refl _ _, by simp [Eqv]⟩ | (simp [Eqv])
      · have e0 := hd 1 rfl; change vs 1 = _ at e0; have q0 := (Ba.below hb2 Ba.lt).cell 0 rfl; have q1 := (Ba.below hb2 Ba.lt).cell 1 rfl; clear hd ; rw [e0]; go_wp2; first | exact ⟨Below.refl _ _, rfl⟩ | exact ⟨Below.refl _ _, by simp [Eqv]⟩ | (simp [Eqv])
      · have e0 := hd 1 rfl; change vs 1 = _ at e0; have hC := Is_lit [45, 51] [50] w2; clear hd ; rw [e0]
        go_wp2_with fail
        refine hC.mono ?_
        rintro _ w9 ⟨rfl, hb9⟩
        clear hC
        go_wp2
        first | exact ⟨hb9, rfl⟩ | exact ⟨Below.refl _ _, rfl⟩ | rfl
      · have e0 := hd 1 rfl; change vs 1 = _ at e0; have e1 := hd 2 rfl; change vs 2 = _ at e1; have e2 := hd 3 rfl; change vs 3 = _ at e2; clear hd ; rw [e0, e1, e2]; go_wp2; first | exact ⟨Below.refl _ _, rfl⟩ | exact ⟨Below.refl _ _, by simp [Eqv]⟩ | (simp [Eqv])
      · have e0 := hd 1 rfl; change vs 1 = _ at e0; have e1 := hd 4 rfl; change vs 4 = _ at e1; clear hd ; rw [e0, e1]; go_wp2; first | exact ⟨Below.refl _ _, rfl⟩ | exact ⟨Below.refl _ _, by simp [Eqv]⟩ | (simp [Eqv])
      · have e0 := hd 5 rfl; change vs 5 = _ at e0; clear hd ; rw [e0]; go_wp2; first | exact ⟨Below.refl _ _, rfl⟩ | exact ⟨Below.refl _ _, by simp [Eqv]⟩ | (simp [Eqv])
      · have e0 := hd 6 rfl; change vs 6 = _ at e0; have q0 := (Bb.below hb2 Bb.lt).cell 0 rfl; have q1 := (Bb.below hb2 Bb.lt).cell 1 rfl; clear hd ; rw [e0]; go_wp2; first | exact ⟨Below.refl _ _, rfl⟩ | exact ⟨Below.refl _ _, by simp [Eqv]⟩ | (simp [Eqv])
      · have e0 := hd 6 rfl; change vs 6 = _ at e0; have hC := Is_lit [48] [49] w2; clear hd ; rw [e0]
        go_wp2_with fail
        refine hC.mono ?_
        rintro _ w9 ⟨rfl, hb9⟩
        clear hC
        go_wp2
        first | exact ⟨hb9, rfl⟩ | exact ⟨Below.refl _ _, rfl⟩ | rfl
      · have e0 := hd 6 rfl; change vs 6 = _ at e0; have e1 := hd 7 rfl; change vs 7 = _ at e1; have e2 := hd 8 rfl; change vs 8 = _ at e2; clear hd ; rw [e0, e1, e2]; go_wp2; first | exact ⟨Below.refl _ _, rfl⟩ | exact ⟨Below.refl _ _, by simp [Eqv]⟩ | (simp [Eqv])
      · have e0 := hd 6 rfl; change vs 6 = _ at e0; have e1 := hd 9 rfl; change vs 9 = _ at e1; clear hd ; rw [e0, e1]; go_wp2; first | exact ⟨Below.refl _ _, rfl⟩ | exact ⟨Below.refl _ _, by simp [Eqv]⟩ | (simp [Eqv])
      · have e0 := hd 10 rfl; change vs 10 = _ at e0; clear hd ; rw [e0]; go_wp2; first | exact ⟨Below.refl _ _, rfl⟩ | exact ⟨Below.refl _ _, by simp [Eqv]⟩ | (simp [Eqv])
      · have e0 := hd 11 rfl; change vs 11 = _ at e0; have q0 := (Bc.below hb2 Bc.lt).cell 0 rfl; have q1 := (Bc.below hb2 Bc.lt).cell 1 rfl; clear hd ; rw [e0]; go_wp2; first | exact ⟨Below.refl _ _, rfl⟩ | exact ⟨Below.refl _ _, by simp [Eqv]⟩ | (simp [Eqv])
      · have e0 := hd 11 rfl; change vs 11 = _ at e0; have hC := Is_lit [53] [54] w2; clear hd ; rw [e0]
        go_wp2_with fail
        refine hC.mono ?_
        rintro _ w9 ⟨rfl, hb9⟩
        clear hC
        go_wp2
        first | exact ⟨hb9, rfl⟩ | exact ⟨Below.refl _ _, rfl⟩ | rfl
      · have e0 := hd 11 rfl; change vs 11 = _ at e0; have e1 := hd 12 rfl; change vs 12 = _ at e1; have e2 := hd 13 rfl; change vs 13 = _ at e2; clear hd ; rw [e0, e1, e2]; go_wp2; first | exact ⟨Below.refl _ _, rfl⟩ | exact ⟨Below.refl _ _, by simp [Eqv]⟩ | (simp [Eqv])
      · have e0 := hd 11 rfl; change vs 11 = _ at e0; have e1 := hd 14 rfl; change vs 14 = _ at e1; clear hd ; rw [e0, e1]; go_wp2; first | exact ⟨Below.refl _ _, rfl⟩ | exact ⟨Below.refl _ _, by simp [Eqv]⟩ | (simp [Eqv])
      · have e0 := hd 15 rfl; change vs 15 = _ at e0; clear hd ; rw [e0]; go_wp2; first | exact ⟨Below.refl _ _, rfl⟩ | exact ⟨Below.refl _ _, by simp [Eqv]⟩ | (simp [Eqv])
      · have e0 := hd 16 rfl; change vs 16 = _ at e0; have q0 := (Bd.below hb2 Bd.lt).cell 0 rfl; have q1 := (Bd.below hb2 Bd.lt).cell 1 rfl; clear hd ; rw [e0]; go_wp2; first | exact ⟨Below.refl _ _, rfl⟩ | exact ⟨Below.refl _ _, by simp [Eqv]⟩ | (simp [Eqv])
      · have e0 := hd 16 rfl; change vs 16 = _ at e0; have hC := Is_lit [45, 50] [49] w2; clear hd ; rw [e0]
        go_wp2_with fail
        refine hC.mono ?_
        rintro _ w9 ⟨rfl, hb9⟩
        clear hC
        go_wp2
        first | exact ⟨hb9, rfl⟩ | exact ⟨Below.refl _ _, rfl⟩ | rfl
      · have e0 := hd 16 rfl; change vs 16 = _ at e0; have e1 := hd 17 rfl; change vs 17 = _ at e1; have e2 := hd 18 rfl; change vs 18 = _ at e2; clear hd ; rw [e0, e1, e2]; go_wp2; first | exact ⟨Below.refl _ _, rfl⟩ | exact ⟨Below.refl _ _, by simp [Eqv]⟩ | (simp [Eqv])
      · have e0 := hd 16 rfl; change vs 16 = _ at e0; have e1 := hd 19 rfl; change vs 19 = _ at e1; clear hd ; rw [e0, e1]; go_wp2; first | exact ⟨Below.refl _ _, rfl⟩ | exact ⟨Below.refl _ _, by simp [Eqv]⟩ | (simp [Eqv])
      · have e0 := hd 20 rfl; change vs 20 = _ at e0; clear hd ; rw [e0]; go_wp2; first | exact ⟨Below.refl _ _, rfl⟩ | exact ⟨Below.refl _ _, by simp [Eqv]⟩ | (simp [Eqv])
      · have e0 := hd 21 rfl; change vs 21 = _ at e0; have q0 := (Bk.below hb2 Bk.lt).cell 0 rfl; have q1 := (Bk.below hb2 Bk.lt).cell 1 rfl; clear hd ; rw [e0]; go_wp2; first | exact ⟨Below.refl _ _, rfl⟩ | exact ⟨Below.refl _ _, by simp [Eqv]⟩ | (simp [Eqv])
      · have e0 := hd 21 rfl; change vs 21 = _ at e0; have hC := Is_lit [45, 49, 55] [53, 48] w2; clear hd ; rw [e0]
        go_wp2_with fail
        refine hC.mono ?_
        rintro _ w9 ⟨rfl, hb9⟩
        clear hC
        go_wp2
        first | exact ⟨hb9, rfl⟩ | exact ⟨Below.refl _ _, rfl⟩ | rfl
      · have e0 := hd 21 rfl; change vs 21 = _ at e0; have e1 := hd 22 rfl; change vs 22 = _ at e1; have e2 := hd 23 rfl; change vs 23 = _ at e2; clear hd ; rw [e0, e1, e2]; go_wp2; first | exact ⟨Below.refl _ _, rfl⟩ | exact ⟨Below.refl _ _, by simp [Eqv]⟩ | (simp [Eqv])
      · have e0 := hd 21 rfl; change vs 21 = _ at e0; have e1 := hd 24 rfl; change vs 24 = _ at e1; clear hd ; rw [e0, e1]; go_wp2; first | exact ⟨Below.refl _ _, rfl⟩ | exact ⟨Below.refl _ _, by simp [Eqv]⟩ | (simp [Eqv])
      · have e0 := hd 25 rfl; change vs 25 = _ at e0; clear hd ; rw [e0]; go_wp2; first | exact ⟨Below.refl _ _, rfl⟩ | exact ⟨Below.refl _ _, by simp [Eqv]⟩ | (simp [Eqv])
      · have e0 := hd 26 rfl; change vs 26 = _ at e0; have q0 := (Bm.below hb2 Bm.lt).cell 0 rfl; have q1 := (Bm.below hb2 Bm.lt).cell 1 rfl; clear hd ; rw [e0]; go_wp2; first | exact ⟨Below.refl _ _, rfl⟩ | exact ⟨Below.refl _ _, by simp [Eqv]⟩ | (simp [Eqv])
      · have e0 := hd 26 rfl; change vs 26 = _ at e0; have hC := Is_lit [49, 55] [53, 48] w2; clear hd ; rw [e0]
        go_wp2_with fail
        refine hC.mono ?_
        rintro _ w9 ⟨rfl, hb9⟩
        clear hC
        go_wp2
        first | exact ⟨hb9, rfl⟩ | exact ⟨Below.refl _ _, rfl⟩ | rfl
      · have e0 := hd 26 rfl; change vs 26 = _ at e0; have e1 := hd 27 rfl; change vs 27 = _ at e1; have e2 := hd 28 rfl; change vs 28 = _ at e2; clear hd ; rw [e0, e1, e2]; go_wp2; first | exact ⟨Below.refl _ _, rfl⟩ | exact ⟨Below.refl _ _, by simp [Eqv]⟩ | (simp [Eqv])
      · have e0 := hd 26 rfl; change vs 26 = _ at e0; have e1 := hd 29 rfl; change vs 29 = _ at e1; clear hd ; rw [e0, e1]; go_wp2; first | exact ⟨Below.refl _ _, rfl⟩ | exact ⟨Below.refl _ _, by simp [Eqv]⟩ | (simp [Eqv])
      · have e0 := hd 30 rfl; change vs 30 = _ at e0; clear hd ; rw [e0]; go_wp2; first | exact ⟨Below.refl _ _, rfl⟩ | exact ⟨Below.refl _ _, by simp [Eqv]⟩ | (simp [Eqv])
      · have e0 := hd 31 rfl; change vs 31 = _ at e0; have q0 := (Bo.below hb2 Bo.lt).cell 0 rfl; have q1 := (Bo.below hb2 Bo.lt).cell 1 rfl; clear hd ; rw [e0]; go_wp2; first | exact ⟨Below.refl _ _, rfl⟩ | exact ⟨Below.refl _ _, by simp [Eqv]⟩ | (simp [Eqv])
      · have e0 := hd 31 rfl; change vs 31 = _ at e0; have q0 := (Ba.below hb2 Ba.lt).cell 0 rfl; have q1 := (Ba.below hb2 Ba.lt).cell 1 rfl; clear hd ; rw [e0]; go_wp2; first | exact ⟨Below.refl _ _, rfl⟩ | exact ⟨Below.refl _ _, by simp [Eqv]⟩ | (simp [Eqv])
      · have e0 := hd 31 rfl; change vs 31 = _ at e0; have e1 := hd 32 rfl; change vs 32 = _ at e1; have e2 := hd 33 rfl; change vs 33 = _ at e2; clear hd ; rw [e0, e1, e2]; go_wp2; first | exact ⟨Below.refl _ _, rfl⟩ | exact ⟨Below.refl _ _, by simp [Eqv]⟩ | (simp [Eqv])
      · have e0 := hd 31 rfl; change vs 31 = _ at e0; have e1 := hd 34 rfl; change vs 34 = _ at e1; clear hd ; rw [e0, e1]; go_wp2; first | exact ⟨Below.refl _ _, rfl⟩ | exact ⟨Below.refl _ _, by simp [Eqv]⟩ | (simp [Eqv])
      · have e0 := hd 35 rfl; change vs 35 = _ at e0; clear hd ; rw [e0]; go_wp2; first | exact ⟨Below.refl _ _, rfl⟩ | exact ⟨Below.refl _ _, by simp [Eqv]⟩ | (simp [Eqv])
      · have e0 := hd 36 rfl; change vs 36 = _ at e0; have q0 := (Ba.below hb2 Ba.lt).cell 0 rfl; have q1 := (Ba.below hb2 Ba.lt).cell 1 rfl; clear hd ; rw [e0]; go_wp2; first | exact ⟨Below.refl _ _, rfl⟩ | exact ⟨Below.refl _ _, by simp [Eqv]⟩ | (simp [Eqv])
      · have e0 := hd 36 rfl; change vs 36 = _ at e0; have e1 := hd 37 rfl; change vs 37 = _ at e1; have hC := Sane11 w2 (hE0.below (hb2)); clear hd ; rw [e0, e1]
        go_wp2_with fail
        refine hC.mono ?_
        rintro _ w9 ⟨rfl, hb9⟩
        clear hC
        go_wp2
        first | exact ⟨hb9, rfl⟩ | exact ⟨Below.refl _ _, rfl⟩ | rfl
      · have e0 := hd 36 rfl; change vs 36 = _ at e0; have e1 := hd 38 rfl; change vs 38 = _ at e1; clear hd ; rw [e0, e1]; go_wp2; first | exact ⟨Below.refl _ _, rfl⟩ | exact ⟨Below.refl _ _, by simp [Eqv]⟩ | (simp [Eqv])
      · have e0 := hd 36 rfl; change vs 36 = _ at e0; have e1 := hd 39 rfl; change vs 39 = _ at e1; clear hd ; rw [e0, e1]; go_wp2; first | exact ⟨Below.refl _ _, rfl⟩ | exact ⟨Below.refl _ _, by simp [Eqv]⟩ | (simp [Eqv])
      · have e0 := hd 40 rfl; change vs 40 = _ at e0; clear hd ; rw [e0]; go_wp2; first | exact ⟨Below.refl _ _, rfl⟩ | exact ⟨Below.refl _ _, by simp [Eqv]⟩ | (simp [Eqv])
      · have e0 := hd 41 rfl; change vs 41 = _ at e0; have hC := Is_lit [49] [51] w2; clear hd ; rw [e0]
        go_wp2_with fail
        refine hC.mono ?_
        rintro _ w9 ⟨rfl, hb9⟩
        clear hC
        go_wp2
        first | exact ⟨hb9, rfl⟩ | exact ⟨Below.refl _ _, rfl⟩ | rfl
      · have e0 := hd 41 rfl; change vs 41 = _ at e0; have hC := Is_lit [51, 51, 51, 51, 51] [49, 48, 48, 48, 48, 48] w2; clear hd ; rw [e0]
        go_wp2_with fail
        refine hC.mono ?_
        rintro _ w9 ⟨rfl, hb9⟩
        clear hC
        go_wp2
        first | exact ⟨hb9, rfl⟩ | exact ⟨Below.refl _ _, rfl⟩ | rfl
      · have e0 := hd 41 rfl; change vs 41 = _ at e0; have e1 := hd 42 rfl; change vs 42 = _ at e1; have e2 := hd 43 rfl; change vs 43 = _ at e2; have hC := Sane12 w2 (hE0.below (hb2)); clear hd ; rw [e0, e1, e2]
        go_wp2_with fail
        refine hC.mono ?_
        rintro _ w9 ⟨rfl, hb9⟩
        clear hC
        go_wp2
        first | exact ⟨hb9, rfl⟩ | exact ⟨Below.refl _ _, rfl⟩ | rfl
      · have e0 := hd 41 rfl; change vs 41 = _ at e0; have e1 := hd 44 rfl; change vs 44 = _ at e1; clear hd ; rw [e0, e1]; go_wp2; first | exact ⟨Below.refl _ _, rfl⟩ | exact ⟨Below.refl _ _, by simp [Eqv]⟩ | (simp [Eqv])
      · have e0 := hd 41 rfl; change vs 41 = _ at e0; have e1 := hd 45 rfl; change vs 45 = _ at e1; clear hd ; rw [e0, e1]; go_wp2; first | exact ⟨Below.refl _ _, rfl⟩ | exact ⟨Below.refl _ _, by simp [Eqv]⟩ | (simp [Eqv])
      · have e0 := hd 46 rfl; change vs 46 = _ at e0; clear hd ; rw [e0]; go_wp2; first | exact ⟨Below.refl _ _, rfl⟩ | exact ⟨Below.refl _ _, by simp [Eqv]⟩ | (simp [Eqv])
      · have e0 := hd 47 rfl; change vs 47 = _ at e0; have q0 := (Ba.below hb2 Ba.lt).cell 0 rfl; have q1 := (Ba.below hb2 Ba.lt).cell 1 rfl; clear hd ; rw [e0]; go_wp2; first | exact ⟨Below.refl _ _, rfl⟩ | exact ⟨Below.refl _ _, by simp [Eqv]⟩ | (simp [Eqv])
      · have e0 := hd 47 rfl; change vs 47 = _ at e0; have e1 := hd 48 rfl; change vs 48 = _ at e1; have hC := Sane13 w2 (hE0.below (hb2)); clear hd ; rw [e0, e1]
        go_wp2_with fail
        refine hC.mono ?_
        rintro _ w9 ⟨rfl, hb9⟩
        clear hC
        go_wp2
        first | exact ⟨hb9, rfl⟩ | exact ⟨Below.refl _ _, rfl⟩ | rfl
      · have e0 := hd 47 rfl; change vs 47 = _ at e0; have e1 := hd 49 rfl; change vs 49 = _ at e1; clear hd ; rw [e0, e1]; go_wp2; first | exact ⟨Below.refl _ _, rfl⟩ | exact ⟨Below.refl _ _, by simp [Eqv]⟩ | (simp [Eqv])
      · have e0 := hd 50 rfl; change vs 50 = _ at e0; clear hd ; rw [e0]; go_wp2; first | exact ⟨Below.refl _ _, rfl⟩ | exact ⟨Below.refl _ _, by simp [Eqv]⟩ | (simp [Eqv])
      · have e0 := hd 51 rfl; change vs 51 = _ at e0; clear hd ; rw [e0]; go_wp2; first | exact ⟨Below.refl _ _, rfl⟩ | exact ⟨Below.refl _ _, by simp [Eqv]⟩ | (simp [Eqv])
      · have e0 := hd 51 rfl; change vs 51 = _ at e0; have e1 := hd 52 rfl; change vs 52 = _ at e1; have hC := Sane14 w2 (hE0.below (hb2)); clear hd ; rw [e0, e1]
        go_wp2_with fail
        refine hC.mono ?_
        rintro _ w9 ⟨rfl, hb9⟩
        clear hC
        go_wp2
        first | exact ⟨hb9, rfl⟩ | exact ⟨Below.refl _ _, rfl⟩ | rfl
      · have e0 := hd 51 rfl; change vs 51 = _ at e0; have e1 := hd 53 rfl; change vs 53 = _ at e1; clear hd ; rw [e0, e1]; go_wp2; first | exact ⟨Below.refl _ _, rfl⟩ | exact ⟨Below.refl _ _, by simp [Eqv]⟩ | (simp [Eqv])
      · have e0 := hd 51 rfl; change vs 51 = _ at e0; have e1 := hd 54 rfl; change vs 54 = _ at e1; clear hd ; rw [e0, e1]; go_wp2; first | exact ⟨Below.refl _ _, rfl⟩ | exact ⟨Below.refl _ _, by simp [Eqv]⟩ | (simp [Eqv])
      · have e0 := hd 55 rfl; change vs 55 = _ at e0; clear hd ; rw [e0]; go_wp2; first | exact ⟨Below.refl _ _, rfl⟩ | exact ⟨Below.refl _ _, by simp [Eqv]⟩ | (simp [Eqv])
    · intro vs wa hba hR2
      simp only [AllR, Eqv] at hR2
      obtain ⟨e0, e1, e2, e3, e4, e5, e6, e7, e8, e9, e10, e11, e12, e13, e14, e15, e16, e17, e18, e19, e20, e21, e22, e23, e24, e25, e26, e27, e28, e29, e30, e31, e32, e33, e34, e35, e36, e37, e38, e39, e40, e41, e42, e43, e44, e45, e46, e47, e48, e49, e50, e51, e52, e53, e54, e55, e56, -⟩ := hR2
      simp only [List.drop, List.take, List.map, putD, Act.put, List.setIfInBounds_toArray, List.set_cons_succ, List.set_cons_zero, Nat.reduceAdd]
      rw [e0, e1, e2, e3, e4, e5, e6, e7, e8, e9, e10, e11, e12, e13, e14, e15, e16, e17, e18, e19, e20, e21, e22, e23, e24, e25, e26, e27, e28, e29, e30, e31, e32, e33, e34, e35, e36, e37, e38, e39, e40, e41, e42, e43, e44, e45, e46, e47, e48, e49, e50, e51, e52, e53, e54, e55, e56]
      clear e0 e1 e2 e3 e4 e5 e6 e7 e8 e9 e10 e11 e12 e13 e14 e15 e16 e17 e18 e19 e20 e21 e22 e23 e24 e25 e26 e27 e28 e29 e30 e31 e32 e33 e34 e35 e36 e37 e38 e39 e40 e41 e42 e43 e44 e45 e46 e47 e48 e49 e50 e51 e52 e53 e54 e55 e56
      go_wp2
      go_ret
      exact ⟨rfl, hb.trans (hba.mono hb.size)⟩
end Go.Proofs.YthnikbladjaifaaGreatDoor
namespace Go.Proofs.YthnikbladjaifaaGreatDoor
set_option linter.unusedVariables false
set_option linter.unusedSimpArgs false
open Go.RowKit Go.Shelf
theorem conv_u8 (x : Int) (w : World) :
    (convert 50 9 (.slice (some ⟨w.heap.size, 0, none⟩) 1 1)).run Tryz.prog (w.alloc (.cells #[.int .u8 x] 5)) = .ok (.string ⟨#[UInt8.ofNat x.toNat]⟩) (w.alloc (.cells #[.int .u8 x] 5)) :=
  conv_one 50 9 5 Tryz.underlying50 Tryz.underlying5 Tryz.underlying9 x w
attribute [go_sem] conv_u8
theorem isD_digit (d : Int) (h0 : 0 ≤ d) (h1 : d < 10) : Ig.isD (UInt8.ofNat (48 + d).toNat) = true := by
  obtain ⟨k, rfl⟩ := Int.eq_ofNat_of_zero_le h0
  have h : ∀ k < 10, Ig.isD (UInt8.ofNat (48 + k)) = true := by decide
  rw [show (48 + (k : Int)).toNat = 48 + k by omega]
  exact h k (by omega)
/-- digits without zeros ahead are a number -/
theorem digits_itoa {l : List UInt8} (hall : l.all Ig.isD = true) (hne : l ≠ []) (h : l.length ≤ 1 ∨ l.head? ≠ some 48) : l = Lib.itoa ((Ig.nv l : Nat) : Int) := by
  rw [Ig.itoa_nonneg (by omega), Int.natAbs_natCast]
  refine (Ig.dec_of _ rfl hne hall ?_).symm
  rcases h with h | h
  · by_cases h2 : l.head? = some 48
    · left
      match l, hne, h with
      | [x], _, _ => have : x = 48 := by simpa using h2
                     rw [this]
      | x :: y :: t, _, h => simp at h
    · exact .inr h2
  · exact .inr h
theorem divInt_small (z : Int) (b : Nat) (hb : 0 < b) : (Rat.divInt z (b : Int)).num.natAbs ≤ z.natAbs ∧ (Rat.divInt z (b : Int)).den ≤ b := by
  obtain ⟨h1, h2⟩ := Rq.make_pos (n := z) (d := (b : Int)) (by omega)
  constructor
  · rw [h1]; exact Int.natAbs_ediv_le_natAbs _ _
  · have : ((Rat.divInt z (b : Int)).den : Int) ≤ (b : Int) := by
      rw [h2]
      exact Int.ediv_le_self _ (by omega)
    omega
theorem big_fits {z : Int} (h : z.natAbs < 10 ^ 100) : Ig.fits z := Nat.lt_of_lt_of_le h (Nat.pow_le_pow_right (by decide) (by decide))
theorem long_make (z : Int) (b : Nat) (s0 s1 : List UInt8) (e0 : s0 = Lib.itoa z) (e1 : s1 = Lib.itoa (b : Int)) (hz : z.natAbs < 10 ^ 100) (hb : 0 < b) (hbb : b < 10 ^ 100) :
    ∃ (q : Rat) (r1 r2 : List UInt8), (q.num.natAbs < 10 ^ 100 ∧ q.den < 10 ^ 100) ∧ Kp (QV q = .agg #[.string ⟨r1.toArray⟩, .string ⟨r2.toArray⟩]) ∧ ∀ w0, Calls Tryz.prog 21 #[.string ⟨s0.toArray⟩, .string ⟨s1.toArray⟩] w0 fun e w' => e = .returned (.tuple #[.agg #[.string ⟨r1.toArray⟩, .string ⟨r2.toArray⟩], .int .i64 0]) ∧ Below w0.heap.size w0 w' := by
  obtain ⟨h1, h2⟩ := divInt_small z b hb
  refine ⟨Rat.divInt z (b : Int), _, _, ⟨by omega, by omega⟩, ⟨rfl⟩, fun w0 => ?_⟩
  subst e0 e1
  exact fMake_ok z (b : Int) w0 (big_fits hz) (big_fits (by simpa using hbb)) (by omega)
theorem itoa_7 : Lib.itoa ((7 : Nat) : Int) = [55] := by decide +kernel
theorem itoa_minus {a : Nat} (h : 0 < a) : [45] ++ Lib.itoa (a : Int) = Lib.itoa (-(a : Int)) := by
  have h1 : Lib.itoa (-(a : Int)) = 45 :: Lib.decDigits a := by rw [Ig.itoa_neg (by omega), Int.natAbs_neg, Int.natAbs_natCast]
  have h2 : Lib.itoa (a : Int) = Lib.decDigits a := by rw [Ig.itoa_nonneg (by omega), Int.natAbs_natCast]
  rw [h1, h2]; rfl
theorem results_Q1' {fn : Func} {t : Tmp} {g : Nat} {n d : ByteArray} (h : fn.results = #[.cell t 23]) (tmps : Array Value) (w : World) (ht : tmps.getD t undef = .pointer (some ⟨g, 0, none⟩)) (hB : Bx w g 23 #[.string n, .string d]) :
    (results fn tmps).run Tryz.prog w = .ok (.agg #[.string n, .string d]) w := by
  have h0 := hB.cell 0 rfl
  have h1 := hB.cell 1 rfl
  have ht' : tmps[t]?.getD undef = .pointer (some ⟨g, 0, none⟩) := by simpa using ht
  simp only [results, h]
  simp [go_sem, ht', h0, h1, loadVar]
def lenS : Value → Nat
  | .string s => s.size
  | _ => 0
set_option maxRecDepth 100000 in
set_option maxHeartbeats 4000000 in
theorem Long_walk (x0 x1 x2 x3 : Int) (w : World) (h0 : I64 x0) (h1 : I64 x1) (h2 : I64 x2) (h3 : I64 x3) :
    Calls Tryz.prog 6 #[.agg #[.int .i64 x0, .int .i64 x1, .int .i64 x2, .int .i64 x3]] w fun e w' => (∃ q : Rat, e = .returned (QV q) ∧ q.num.natAbs < 10 ^ 100 ∧ q.den < 10 ^ 100) ∧ Below w.heap.size w w' := by
  have hP := fun c w0 => fpick_any c 100 w0
  have hQ := fun c w0 => fpick_any c 1000000007 w0
  have hb := bNew (bNew (bNewW w (.cells #[.int .i64 x0, .int .i64 x1, .int .i64 x2, .int .i64 x3] 24)) (.cells #[.string ⟨#[]⟩, .string ⟨#[]⟩] 23)) (.cells #[.string ⟨#[]⟩, .string ⟨#[]⟩] 49)
  have BA := ((Bx.mk w 24 #[.int .i64 x0, .int .i64 x1, .int .i64 x2, .int .i64 x3]).new (.cells #[.string ⟨#[]⟩, .string ⟨#[]⟩] 23)).new (.cells #[.string ⟨#[]⟩, .string ⟨#[]⟩] 49)
  have BR := (Bx.mk (w.alloc (.cells #[.int .i64 x0, .int .i64 x1, .int .i64 x2, .int .i64 x3] 24)) 23 #[.string ⟨#[]⟩, .string ⟨#[]⟩]).new (.cells #[.string ⟨#[]⟩, .string ⟨#[]⟩] 49)
  have BO := Bx.mk ((w.alloc (.cells #[.int .i64 x0, .int .i64 x1, .int .i64 x2, .int .i64 x3] 24)).alloc (.cells #[.string ⟨#[]⟩, .string ⟨#[]⟩] 23)) 49 #[.string ⟨#[]⟩, .string ⟨#[]⟩]
  rw [alloc_size] at BR
  rw [alloc_size, alloc_size] at BO
  go_enter Tryz.func6, Tryz.ntmps6
  go_wp2_with fail
  go_loopw [4] (fun s4 wr => Bx wr w.heap.size 24 #[.int .i64 x0, .int .i64 x1, .int .i64 x2, .int .i64 x3] ∧ Bx wr (w.heap.size + 1) 23 #[.string ⟨#[]⟩, .string ⟨#[]⟩] ∧ Below w.heap.size w wr ∧ ((s4 = .int .i64 0 ∧ Bx wr (w.heap.size + 1 + 1) 49 #[.string ⟨#[]⟩, .string ⟨#[]⟩]) ∨ (s4 = .int .i64 1 ∧ ∃ (a : Nat) (sa : List UInt8), Kp (sa = Lib.itoa (a : Int) ∧ a < 10 ^ 100) ∧ Bx wr (w.heap.size + 1 + 1) 49 #[.string ⟨sa.toArray⟩, .string ⟨#[]⟩]) ∨ (s4 = .int .i64 2 ∧ ∃ (a b : Nat) (sa sb : List UInt8), Kp (sa = Lib.itoa (a : Int) ∧ a < 10 ^ 100) ∧ Kp (sb = Lib.itoa (b : Int) ∧ b < 10 ^ 100) ∧ Bx wr (w.heap.size + 1 + 1) 49 #[.string ⟨sa.toArray⟩, .string ⟨sb.toArray⟩]))) (fun s4 wr => 2 - (iV s4).toNat)
  case atStart => exact ⟨BA, BR, hb, .inl ⟨rfl, BO⟩⟩
  case round =>
    clear BA BR BO hb
    obtain ⟨BA, BR, hb, hrel⟩ := hrel
    have x0c := BA.cell 0 rfl
    have x1c := BA.cell 1 rfl
    have x2c := BA.cell 2 rfl
    have x3c := BA.cell 3 rfl
    rcases hrel with ⟨rfl, BO⟩ | ⟨rfl, a, sa, ha, BO⟩ | ⟨rfl, a, b, sa, sb, ha, hbb, BO⟩
    · obtain ⟨n, hn⟩ := exK (pickI x1 100)
      have hP1 := fun w0 => hP x1 w0 h1.1 h1.2 (by decide) (by decide)
      have hQ1 := fun w0 => hQ x0 w0 h0.1 h0.2 (by decide) (by decide)
      have hn1 := pickI_lt x1 (show (0 : Int) < 100 by decide)
      have hc1 := pickI_lt x0 (show (0 : Int) < 1000000007 by decide)
      rw [hn.out] at hP1 hn1
      obtain ⟨c, hc⟩ := exK (pickI x0 1000000007)
      rw [hc.out] at hQ1 hc1
      clear hP hQ hn hc
      go_wp2_with fail
      refine (hP1 _).mono ?_
      rintro _ _ ⟨rfl, rfl⟩
      clear hP1
      go_wp2_with fail
      refine (hQ1 _).mono ?_
      rintro _ _ ⟨rfl, rfl⟩
      clear hQ1 x0c x1c x2c x3c
      obtain ⟨wo, hwo⟩ : ∃ wo, wo = wr := ⟨_, rfl⟩
      subst hwo
      go_wp2_with fail
      go_loopw [6, 7] (fun s6 s7 w2 => ∃ (l : List UInt8) (c : Int), s6 = .string ⟨l.toArray⟩ ∧ s7 = .int .i64 c ∧ 0 ≤ c ∧ c < 2147483648 ∧ l.length ≤ n.toNat + 1 ∧ Kp (l.all Ig.isD = true) ∧ Below wo.heap.size wo w2) (fun s6 s7 w2 => n.toNat + 1 - lenS s6)
      case atStart => exact ⟨[], c, rfl, rfl, by omega, by omega, by simp, ⟨rfl⟩, Below.refl _ _⟩
      case round =>
        clear hc1
        obtain ⟨l, c, rfl, rfl, hc0, hc1, hl, hall, hb2⟩ := hrel
        by_cases hlt : (l.length : Int) < 1 + n
        · have t0 : decide ((l.length : Int) < 1 + n) = true := decide_eq_true hlt
          obtain ⟨c2, ec2⟩ : ∃ c2 : Int, (c * 48271 + 11) % 2147483647 = c2 := ⟨_, rfl⟩
          have hc2 : 0 ≤ c2 ∧ c2 < 2147483647 := by omega
          obtain ⟨d, ed⟩ : ∃ d : Int, c2 / 65536 % 10 = d := ⟨_, rfl⟩
          have hd : 0 ≤ d ∧ d < 10 := by omega
          have hs : ¬ 9223372036854775807 < l.length + 1 := by omega
          go_wp2
          refine ⟨⟨l ++ [UInt8.ofNat (48 + d).toNat], _, rfl, rfl, by omega, by omega, by rw [List.length_append, List.length_singleton]; omega, ⟨by rw [List.all_append, hall.out, List.all_cons, isD_digit d hd.1 hd.2]; rfl⟩, bNew hb2 _⟩, ?_⟩
          show n.toNat + 1 - (l ++ [UInt8.ofNat (48 + d).toNat]).length < n.toNat + 1 - l.length
          rw [List.length_append, List.length_singleton]
          omega
        · have t0 : decide ((l.length : Int) < 1 + n) = false := decide_eq_false hlt
          have hne : l ≠ [] := by
            rintro rfl
            simp at hlt
            omega
          replace hne := Kp.mk hne
          replace BA := BA.call hb2
          replace BR := BR.call hb2
          replace BO := BO.call hb2
          replace hb := bCall hb hb2
          clear hb2 hlt hc0 hc1
          obtain ⟨wp, hwp⟩ : ∃ wp, wp = wr := ⟨_, rfl⟩
          subst hwp
          go_wp2_with fail
          go_loopw [6] (fun s6 w3 => ∃ (l : List UInt8), s6 = .string ⟨l.toArray⟩ ∧ l.length ≤ n.toNat + 1 ∧ Kp (l.all Ig.isD = true) ∧ Kp (l ≠ []) ∧ wp = w3) (fun s6 w3 => lenS s6)
          case atStart => exact ⟨l, rfl, hl, hall, hne, rfl⟩
          case round =>
            clear hl hall hne t0
            obtain ⟨l, rfl, hl, hall, hne, rfl⟩ := hrel
            have hfin : (l.length ≤ 1 ∨ l.head? ≠ some 48) → ∃ a : Nat, l = Lib.itoa (a : Int) ∧ a < 10 ^ 100 := fun h => ⟨Ig.nv l, digits_itoa hall.out hne.out h, Nat.lt_of_lt_of_le (Ig.nv_lt l.length rfl hall.out) (Nat.pow_le_pow_right (by decide) (by omega))⟩
            cases l with
            | nil => exact absurd rfl hne.out
            | cons x l =>
              have o0 := BO.cell 0 rfl
              have o1 := BO.cell 1 rfl
              have fo0 := BO.frozen 0
              have fo1 := BO.frozen 1
              have hx256 : x.toNat < 256 := x.toNat_lt
              have hx48 : x = 48 ↔ x.toNat = 48 := ⟨fun h => by rw [h]; rfl, fun h => UInt8.toNat_inj.1 h⟩
              have hhead : (x :: l).head? = some 48 ↔ x.toNat = 48 := by rw [← hx48]; simp
              cases l with
              | nil =>
                obtain ⟨b', hb'1, hb'2⟩ := hfin (.inl (by simp))
                replace hb'1 := Kp.mk hb'1
                clear hfin hhead hx48
                generalize hy : [x] = y at *
                have BO2 := BO.set 0 (.string ⟨y.toArray⟩)
                replace BA := BA.far (p := ⟨w.heap.size + 1 + 1, 0, none⟩) (by show w.heap.size ≠ w.heap.size + 1 + 1; omega) (.string ⟨y.toArray⟩)
                replace BR := BR.far (p := ⟨w.heap.size + 1 + 1, 0, none⟩) (by show w.heap.size + 1 ≠ w.heap.size + 1 + 1; omega) (.string ⟨y.toArray⟩)
                replace hb := bSet hb (p := ⟨w.heap.size + 1 + 1, 0, none⟩) (by show w.heap.size ≤ w.heap.size + 1 + 1; omega) (.string ⟨y.toArray⟩)
                subst hy
                go_wp2
                exact ⟨⟨BA, BR, hb, .inr (.inl ⟨by first | rfl | go_num, b', _, ⟨hb'1.out, hb'2⟩, BO2⟩)⟩, by decide⟩
              | cons y' t' =>
                by_cases h2 : x.toNat = 48
                · have u1 : decide (((t'.length : Int) + 1 + 1) > 1) = true := decide_eq_true (by omega)
                  have u2 : ((x.toNat : Int) == 48) = true := by rw [h2]; rfl
                  have hall2 : (y' :: t').all Ig.isD = true := by have := hall.out; rw [List.all_cons, Bool.and_eq_true] at this; exact this.2
                  clear hfin hhead hx48
                  go_wp2
                  refine ⟨⟨y' :: t', ?_, by simp at hl ⊢; omega, ⟨hall2⟩, ⟨fun h => by cases h⟩, by first | rfl | trivial⟩, ?_⟩
                  · first | rfl | (simp)
                  · first | (show t'.length + 1 < t'.length + 1 + 1; omega) | (simp [lenS])
                · obtain ⟨b', hb'1, hb'2⟩ := hfin (.inr (fun h => h2 (hhead.1 h)))
                  replace hb'1 := Kp.mk hb'1
                  have u1 : decide (((t'.length : Int) + 1 + 1) > 1) = true := decide_eq_true (by omega)
                  have u2 : ((x.toNat : Int) == 48) = false := by
                    have : (x.toNat : Int) ≠ 48 := by omega
                    simpa using this
                  clear hfin hhead hx48
                  have hl2 := Kp.mk trivial
                  generalize hy : (x :: y' :: t') = y at *
                  have BO2 := BO.set 0 (.string ⟨y.toArray⟩)
                  replace BA := BA.far (p := ⟨w.heap.size + 1 + 1, 0, none⟩) (by show w.heap.size ≠ w.heap.size + 1 + 1; omega) (.string ⟨y.toArray⟩)
                  replace BR := BR.far (p := ⟨w.heap.size + 1 + 1, 0, none⟩) (by show w.heap.size + 1 ≠ w.heap.size + 1 + 1; omega) (.string ⟨y.toArray⟩)
                  replace hb := bSet hb (p := ⟨w.heap.size + 1 + 1, 0, none⟩) (by show w.heap.size ≤ w.heap.size + 1 + 1; omega) (.string ⟨y.toArray⟩)
                  subst hy
                  go_wp2
                  exact ⟨⟨BA, BR, hb, .inr (.inl ⟨by first | rfl | go_num, b', _, ⟨hb'1.out, hb'2⟩, BO2⟩)⟩, by decide⟩
    · obtain ⟨n, hn⟩ := exK (pickI x3 100)
      have hP1 := fun w0 => hP x3 w0 h3.1 h3.2 (by decide) (by decide)
      have hQ1 := fun w0 => hQ x2 w0 h2.1 h2.2 (by decide) (by decide)
      have hn1 := pickI_lt x3 (show (0 : Int) < 100 by decide)
      have hc1 := pickI_lt x2 (show (0 : Int) < 1000000007 by decide)
      rw [hn.out] at hP1 hn1
      obtain ⟨c, hc⟩ := exK (pickI x2 1000000007)
      rw [hc.out] at hQ1 hc1
      clear hP hQ hn hc
      go_wp2_with fail
      refine (hP1 _).mono ?_
      rintro _ _ ⟨rfl, rfl⟩
      clear hP1
      go_wp2_with fail
      refine (hQ1 _).mono ?_
      rintro _ _ ⟨rfl, rfl⟩
      clear hQ1 x0c x1c x2c x3c
      obtain ⟨wo, hwo⟩ : ∃ wo, wo = wr := ⟨_, rfl⟩
      subst hwo
      go_wp2_with fail
      go_loopw [6, 7] (fun s6 s7 w2 => ∃ (l : List UInt8) (c : Int), s6 = .string ⟨l.toArray⟩ ∧ s7 = .int .i64 c ∧ 0 ≤ c ∧ c < 2147483648 ∧ l.length ≤ n.toNat + 1 ∧ Kp (l.all Ig.isD = true) ∧ Below wo.heap.size wo w2) (fun s6 s7 w2 => n.toNat + 1 - lenS s6)
      case atStart => exact ⟨[], c, rfl, rfl, by omega, by omega, by simp, ⟨rfl⟩, Below.refl _ _⟩
      case round =>
        clear hc1
        obtain ⟨l, c, rfl, rfl, hc0, hc1, hl, hall, hb2⟩ := hrel
        by_cases hlt : (l.length : Int) < 1 + n
        · have t0 : decide ((l.length : Int) < 1 + n) = true := decide_eq_true hlt
          obtain ⟨c2, ec2⟩ : ∃ c2 : Int, (c * 48271 + 11) % 2147483647 = c2 := ⟨_, rfl⟩
          have hc2 : 0 ≤ c2 ∧ c2 < 2147483647 := by omega
          obtain ⟨d, ed⟩ : ∃ d : Int, c2 / 65536 % 10 = d := ⟨_, rfl⟩
          have hd : 0 ≤ d ∧ d < 10 := by omega
          have hs : ¬ 9223372036854775807 < l.length + 1 := by omega
          go_wp2
          refine ⟨⟨l ++ [UInt8.ofNat (48 + d).toNat], _, rfl, rfl, by omega, by omega, by rw [List.length_append, List.length_singleton]; omega, ⟨by rw [List.all_append, hall.out, List.all_cons, isD_digit d hd.1 hd.2]; rfl⟩, bNew hb2 _⟩, ?_⟩
          show n.toNat + 1 - (l ++ [UInt8.ofNat (48 + d).toNat]).length < n.toNat + 1 - l.length
          rw [List.length_append, List.length_singleton]
          omega
        · have t0 : decide ((l.length : Int) < 1 + n) = false := decide_eq_false hlt
          have hne : l ≠ [] := by
            rintro rfl
            simp at hlt
            omega
          replace hne := Kp.mk hne
          replace BA := BA.call hb2
          replace BR := BR.call hb2
          replace BO := BO.call hb2
          replace hb := bCall hb hb2
          clear hb2 hlt hc0 hc1
          obtain ⟨wp, hwp⟩ : ∃ wp, wp = wr := ⟨_, rfl⟩
          subst hwp
          go_wp2_with fail
          go_loopw [6] (fun s6 w3 => ∃ (l : List UInt8), s6 = .string ⟨l.toArray⟩ ∧ l.length ≤ n.toNat + 1 ∧ Kp (l.all Ig.isD = true) ∧ Kp (l ≠ []) ∧ wp = w3) (fun s6 w3 => lenS s6)
          case atStart => exact ⟨l, rfl, hl, hall, hne, rfl⟩
          case round =>
            clear hl hall hne t0
            obtain ⟨l, rfl, hl, hall, hne, rfl⟩ := hrel
            have hfin : (l.length ≤ 1 ∨ l.head? ≠ some 48) → ∃ a : Nat, l = Lib.itoa (a : Int) ∧ a < 10 ^ 100 := fun h => ⟨Ig.nv l, digits_itoa hall.out hne.out h, Nat.lt_of_lt_of_le (Ig.nv_lt l.length rfl hall.out) (Nat.pow_le_pow_right (by decide) (by omega))⟩
            cases l with
            | nil => exact absurd rfl hne.out
            | cons x l =>
              have o0 := BO.cell 0 rfl
              have o1 := BO.cell 1 rfl
              have fo0 := BO.frozen 0
              have fo1 := BO.frozen 1
              have hx256 : x.toNat < 256 := x.toNat_lt
              have hx48 : x = 48 ↔ x.toNat = 48 := ⟨fun h => by rw [h]; rfl, fun h => UInt8.toNat_inj.1 h⟩
              have hhead : (x :: l).head? = some 48 ↔ x.toNat = 48 := by rw [← hx48]; simp
              cases l with
              | nil =>
                obtain ⟨b', hb'1, hb'2⟩ := hfin (.inl (by simp))
                replace hb'1 := Kp.mk hb'1
                clear hfin hhead hx48
                generalize hy : [x] = y at *
                have BO2 := BO.set 1 (.string ⟨y.toArray⟩)
                replace BA := BA.far (p := ⟨w.heap.size + 1 + 1, 1, none⟩) (by show w.heap.size ≠ w.heap.size + 1 + 1; omega) (.string ⟨y.toArray⟩)
                replace BR := BR.far (p := ⟨w.heap.size + 1 + 1, 1, none⟩) (by show w.heap.size + 1 ≠ w.heap.size + 1 + 1; omega) (.string ⟨y.toArray⟩)
                replace hb := bSet hb (p := ⟨w.heap.size + 1 + 1, 1, none⟩) (by show w.heap.size ≤ w.heap.size + 1 + 1; omega) (.string ⟨y.toArray⟩)
                subst hy
                go_wp2
                exact ⟨⟨BA, BR, hb, .inr (.inr ⟨by first | rfl | go_num, a, b', sa, _, ha, ⟨hb'1.out, hb'2⟩, BO2⟩)⟩, by decide⟩
              | cons y' t' =>
                by_cases h2 : x.toNat = 48
                · have u1 : decide (((t'.length : Int) + 1 + 1) > 1) = true := decide_eq_true (by omega)
                  have u2 : ((x.toNat : Int) == 48) = true := by rw [h2]; rfl
                  have hall2 : (y' :: t').all Ig.isD = true := by have := hall.out; rw [List.all_cons, Bool.and_eq_true] at this; exact this.2
                  clear hfin hhead hx48
                  go_wp2
                  refine ⟨⟨y' :: t', ?_, by simp at hl ⊢; omega, ⟨hall2⟩, ⟨fun h => by cases h⟩, by first | rfl | trivial⟩, ?_⟩
                  · first | rfl | (simp)
                  · first | (show t'.length + 1 < t'.length + 1 + 1; omega) | (simp [lenS])
                · obtain ⟨b', hb'1, hb'2⟩ := hfin (.inr (fun h => h2 (hhead.1 h)))
                  replace hb'1 := Kp.mk hb'1
                  have u1 : decide (((t'.length : Int) + 1 + 1) > 1) = true := decide_eq_true (by omega)
                  have u2 : ((x.toNat : Int) == 48) = false := by
                    have : (x.toNat : Int) ≠ 48 := by omega
                    simpa using this
                  clear hfin hhead hx48
                  have hl2 := Kp.mk trivial
                  generalize hy : (x :: y' :: t') = y at *
                  have BO2 := BO.set 1 (.string ⟨y.toArray⟩)
                  replace BA := BA.far (p := ⟨w.heap.size + 1 + 1, 1, none⟩) (by show w.heap.size ≠ w.heap.size + 1 + 1; omega) (.string ⟨y.toArray⟩)
                  replace BR := BR.far (p := ⟨w.heap.size + 1 + 1, 1, none⟩) (by show w.heap.size + 1 ≠ w.heap.size + 1 + 1; omega) (.string ⟨y.toArray⟩)
                  replace hb := bSet hb (p := ⟨w.heap.size + 1 + 1, 1, none⟩) (by show w.heap.size ≤ w.heap.size + 1 + 1; omega) (.string ⟨y.toArray⟩)
                  subst hy
                  go_wp2
                  exact ⟨⟨BA, BR, hb, .inr (.inr ⟨by first | rfl | go_num, a, b', sa, _, ha, ⟨hb'1.out, hb'2⟩, BO2⟩)⟩, by decide⟩
    · have hP2 := fun w0 => fpick_any x0 2 w0 h0.1 h0.2 (by decide) (by decide)
      obtain ⟨pp, hpp⟩ := exK (pickI x0 2)
      rw [hpp.out] at hP2
      clear hP hQ hpp x1c x2c x3c
      have v0 := BO.cell 0 rfl
      have v1 := BO.cell 1 rfl
      have fo1 := BO.frozen 1
      rcases Bool.eq_false_or_eq_true (sb == [48]) with t1 | t1
      · have v7 : Kp (([55] : List UInt8) = Lib.itoa ((7 : Nat) : Int)) := ⟨itoa_7.symm⟩
        go_wp2_with fail
        clear v0 v1 fo1
        replace BO := BO.set 1 (.string ⟨#[55]⟩)
        replace BR := BR.far (p := ⟨w.heap.size + 1 + 1, 1, none⟩) (by show w.heap.size + 1 ≠ w.heap.size + 1 + 1; omega) (.string ⟨#[55]⟩)
        replace hb := bSet hb (p := ⟨w.heap.size + 1 + 1, 1, none⟩) (by show w.heap.size ≤ w.heap.size + 1 + 1; omega) (.string ⟨#[55]⟩)
        have v0 := BO.cell 0 rfl
        have v1 := BO.cell 1 rfl
        have fo0 := BO.frozen 0
        go_wp2_with fail
        refine (hP2 _).mono ?_
        rintro _ _ ⟨rfl, rfl⟩
        clear hP2
        rcases Bool.eq_false_or_eq_true (pp == 0) with u1 | u1
        · rcases Bool.eq_false_or_eq_true (sa == [48]) with u2 | u2
          · have u3 : (sa != [48]) = false := by rw [bne, u2]; rfl
            obtain ⟨q, r1, r2, hq, hqv, hM⟩ := long_make ((a : Int)) (7) (sa) ([55]) (ha.out.1) (v7.out) (by simpa using ha.out.2) (by decide) (Nat.lt_of_lt_of_le (show 7 < 10 ^ 1 by decide) (Nat.pow_le_pow_right (by decide) (by decide)))
            have v0 := BO.cell 0 rfl
            have v1 := BO.cell 1 rfl
            go_wp2_with fail
            refine (hM _).mono ?_
            rintro _ wm ⟨rfl, hb1⟩
            replace hb := bCall hb hb1
            replace BR := BR.call hb1
            clear hb1 hM
            replace hb := bNew hb (.cells #[.string ⟨r1.toArray⟩, .string ⟨r2.toArray⟩] 23)
            replace BR := BR.new (.cells #[.string ⟨r1.toArray⟩, .string ⟨r2.toArray⟩] 23)
            have BT := Bx.mk wm 23 #[.string ⟨r1.toArray⟩, .string ⟨r2.toArray⟩]
            have b0 := BT.cell 0 rfl
            have b1 := BT.cell 1 rfl
            have kr0 := BR.cell 0 rfl
            have kr1 := BR.cell 1 rfl
            have g0 := BR.frozen 0
            have g1 := BR.frozen 1
            have BR2 := (BR.set 0 (.string ⟨r1.toArray⟩)).set 1 (.string ⟨r2.toArray⟩)
            have hb2 := bSet (bSet hb (p := ⟨w.heap.size + 1, 0, none⟩) (by show w.heap.size ≤ w.heap.size + 1; omega) (.string ⟨r1.toArray⟩)) (p := ⟨w.heap.size + 1, 1, none⟩) (by show w.heap.size ≤ w.heap.size + 1; omega) (.string ⟨r2.toArray⟩)
            go_wp2
            exact bodyPost_ret (results_Q1' rfl _ _ rfl BR2) rfl ⟨⟨q, by rw [hqv.out], hq⟩, hb2⟩
          · have u3 : (sa != [48]) = true := by rw [bne, u2]; rfl
            have ha0 : 0 < a := by
              rcases Nat.eq_zero_or_pos a with h | h
              · have h5 := ha.out.1
                rw [h] at h5
                rw [h5] at u2
                have h6 : (Lib.itoa ((0 : Nat) : Int) == [48]) = true := by decide +kernel
                rw [h6] at u2; cases u2
              · exact h
            have hlen : sa.length ≤ 1000 := by
              rw [ha.out.1]
              have := Rq.itoa_len (show Ig.fits (a : Int) from big_fits (by simpa using ha.out.2))
              omega
            have hs9 : ¬ 9223372036854775807 < 1 + sa.length := by omega
            obtain ⟨q, r1, r2, hq, hqv, hM⟩ := long_make (-(a : Int)) (7) (45 :: sa) ([55]) (by rw [← itoa_minus ha0, ha.out.1]; rfl) (v7.out) (by rw [Int.natAbs_neg]; simpa using ha.out.2) (by decide) (Nat.lt_of_lt_of_le (show 7 < 10 ^ 1 by decide) (Nat.pow_le_pow_right (by decide) (by decide)))
            replace BO := BO.set 0 (.string ⟨(45 :: sa).toArray⟩)
            replace BR := BR.far (p := ⟨w.heap.size + 1 + 1, 0, none⟩) (by show w.heap.size + 1 ≠ w.heap.size + 1 + 1; omega) (.string ⟨(45 :: sa).toArray⟩)
            replace hb := bSet hb (p := ⟨w.heap.size + 1 + 1, 0, none⟩) (by show w.heap.size ≤ w.heap.size + 1 + 1; omega) (.string ⟨(45 :: sa).toArray⟩)
            have v0 := BO.cell 0 rfl
            have v1 := BO.cell 1 rfl
            go_wp2_with fail
            refine (hM _).mono ?_
            rintro _ wm ⟨rfl, hb1⟩
            replace hb := bCall hb hb1
            replace BR := BR.call hb1
            clear hb1 hM
            replace hb := bNew hb (.cells #[.string ⟨r1.toArray⟩, .string ⟨r2.toArray⟩] 23)
            replace BR := BR.new (.cells #[.string ⟨r1.toArray⟩, .string ⟨r2.toArray⟩] 23)
            have BT := Bx.mk wm 23 #[.string ⟨r1.toArray⟩, .string ⟨r2.toArray⟩]
            have b0 := BT.cell 0 rfl
            have b1 := BT.cell 1 rfl
            have kr0 := BR.cell 0 rfl
            have kr1 := BR.cell 1 rfl
            have g0 := BR.frozen 0
            have g1 := BR.frozen 1
            have BR2 := (BR.set 0 (.string ⟨r1.toArray⟩)).set 1 (.string ⟨r2.toArray⟩)
            have hb2 := bSet (bSet hb (p := ⟨w.heap.size + 1, 0, none⟩) (by show w.heap.size ≤ w.heap.size + 1; omega) (.string ⟨r1.toArray⟩)) (p := ⟨w.heap.size + 1, 1, none⟩) (by show w.heap.size ≤ w.heap.size + 1; omega) (.string ⟨r2.toArray⟩)
            go_wp2
            exact bodyPost_ret (results_Q1' rfl _ _ rfl BR2) rfl ⟨⟨q, by rw [hqv.out], hq⟩, hb2⟩
        · obtain ⟨q, r1, r2, hq, hqv, hM⟩ := long_make ((a : Int)) (7) (sa) ([55]) (ha.out.1) (v7.out) (by simpa using ha.out.2) (by decide) (Nat.lt_of_lt_of_le (show 7 < 10 ^ 1 by decide) (Nat.pow_le_pow_right (by decide) (by decide)))
          have v0 := BO.cell 0 rfl
          have v1 := BO.cell 1 rfl
          go_wp2_with fail
          refine (hM _).mono ?_
          rintro _ wm ⟨rfl, hb1⟩
          replace hb := bCall hb hb1
          replace BR := BR.call hb1
          clear hb1 hM
          replace hb := bNew hb (.cells #[.string ⟨r1.toArray⟩, .string ⟨r2.toArray⟩] 23)
          replace BR := BR.new (.cells #[.string ⟨r1.toArray⟩, .string ⟨r2.toArray⟩] 23)
          have BT := Bx.mk wm 23 #[.string ⟨r1.toArray⟩, .string ⟨r2.toArray⟩]
          have b0 := BT.cell 0 rfl
          have b1 := BT.cell 1 rfl
          have kr0 := BR.cell 0 rfl
          have kr1 := BR.cell 1 rfl
          have g0 := BR.frozen 0
          have g1 := BR.frozen 1
          have BR2 := (BR.set 0 (.string ⟨r1.toArray⟩)).set 1 (.string ⟨r2.toArray⟩)
          have hb2 := bSet (bSet hb (p := ⟨w.heap.size + 1, 0, none⟩) (by show w.heap.size ≤ w.heap.size + 1; omega) (.string ⟨r1.toArray⟩)) (p := ⟨w.heap.size + 1, 1, none⟩) (by show w.heap.size ≤ w.heap.size + 1; omega) (.string ⟨r2.toArray⟩)
          go_wp2
          exact bodyPost_ret (results_Q1' rfl _ _ rfl BR2) rfl ⟨⟨q, by rw [hqv.out], hq⟩, hb2⟩
      · have hb0 : 0 < b := by
          rcases Nat.eq_zero_or_pos b with h | h
          · have h5 := hbb.out.1
            rw [h] at h5
            rw [h5] at t1
            have h6 : (Lib.itoa ((0 : Nat) : Int) == [48]) = true := by decide +kernel
            rw [h6] at t1; cases t1
          · exact h
        have v0 := BO.cell 0 rfl
        have v1 := BO.cell 1 rfl
        have fo0 := BO.frozen 0
        go_wp2_with fail
        refine (hP2 _).mono ?_
        rintro _ _ ⟨rfl, rfl⟩
        clear hP2
        rcases Bool.eq_false_or_eq_true (pp == 0) with u1 | u1
        · rcases Bool.eq_false_or_eq_true (sa == [48]) with u2 | u2
          · have u3 : (sa != [48]) = false := by rw [bne, u2]; rfl
            obtain ⟨q, r1, r2, hq, hqv, hM⟩ := long_make ((a : Int)) (b) (sa) (sb) (ha.out.1) (hbb.out.1) (by simpa using ha.out.2) (hb0) (hbb.out.2)
            have v0 := BO.cell 0 rfl
            have v1 := BO.cell 1 rfl
            go_wp2_with fail
            refine (hM _).mono ?_
            rintro _ wm ⟨rfl, hb1⟩
            replace hb := bCall hb hb1
            replace BR := BR.call hb1
            clear hb1 hM
            replace hb := bNew hb (.cells #[.string ⟨r1.toArray⟩, .string ⟨r2.toArray⟩] 23)
            replace BR := BR.new (.cells #[.string ⟨r1.toArray⟩, .string ⟨r2.toArray⟩] 23)
            have BT := Bx.mk wm 23 #[.string ⟨r1.toArray⟩, .string ⟨r2.toArray⟩]
            have b0 := BT.cell 0 rfl
            have b1 := BT.cell 1 rfl
            have kr0 := BR.cell 0 rfl
            have kr1 := BR.cell 1 rfl
            have g0 := BR.frozen 0
            have g1 := BR.frozen 1
            have BR2 := (BR.set 0 (.string ⟨r1.toArray⟩)).set 1 (.string ⟨r2.toArray⟩)
            have hb2 := bSet (bSet hb (p := ⟨w.heap.size + 1, 0, none⟩) (by show w.heap.size ≤ w.heap.size + 1; omega) (.string ⟨r1.toArray⟩)) (p := ⟨w.heap.size + 1, 1, none⟩) (by show w.heap.size ≤ w.heap.size + 1; omega) (.string ⟨r2.toArray⟩)
            go_wp2
            exact bodyPost_ret (results_Q1' rfl _ _ rfl BR2) rfl ⟨⟨q, by rw [hqv.out], hq⟩, hb2⟩
          · have u3 : (sa != [48]) = true := by rw [bne, u2]; rfl
            have ha0 : 0 < a := by
              rcases Nat.eq_zero_or_pos a with h | h
              · have h5 := ha.out.1
                rw [h] at h5
                rw [h5] at u2
                have h6 : (Lib.itoa ((0 : Nat) : Int) == [48]) = true := by decide +kernel
                rw [h6] at u2; cases u2
              · exact h
            have hlen : sa.length ≤ 1000 := by
              rw [ha.out.1]
              have := Rq.itoa_len (show Ig.fits (a : Int) from big_fits (by simpa using ha.out.2))
              omega
            have hs9 : ¬ 9223372036854775807 < 1 + sa.length := by omega
            obtain ⟨q, r1, r2, hq, hqv, hM⟩ := long_make (-(a : Int)) (b) (45 :: sa) (sb) (by rw [← itoa_minus ha0, ha.out.1]; rfl) (hbb.out.1) (by rw [Int.natAbs_neg]; simpa using ha.out.2) (hb0) (hbb.out.2)
            replace BO := BO.set 0 (.string ⟨(45 :: sa).toArray⟩)
            replace BR := BR.far (p := ⟨w.heap.size + 1 + 1, 0, none⟩) (by show w.heap.size + 1 ≠ w.heap.size + 1 + 1; omega) (.string ⟨(45 :: sa).toArray⟩)
            replace hb := bSet hb (p := ⟨w.heap.size + 1 + 1, 0, none⟩) (by show w.heap.size ≤ w.heap.size + 1 + 1; omega) (.string ⟨(45 :: sa).toArray⟩)
            have v0 := BO.cell 0 rfl
            have v1 := BO.cell 1 rfl
            go_wp2_with fail
            refine (hM _).mono ?_
            rintro _ wm ⟨rfl, hb1⟩
            replace hb := bCall hb hb1
            replace BR := BR.call hb1
            clear hb1 hM
            replace hb := bNew hb (.cells #[.string ⟨r1.toArray⟩, .string ⟨r2.toArray⟩] 23)
            replace BR := BR.new (.cells #[.string ⟨r1.toArray⟩, .string ⟨r2.toArray⟩] 23)
            have BT := Bx.mk wm 23 #[.string ⟨r1.toArray⟩, .string ⟨r2.toArray⟩]
            have b0 := BT.cell 0 rfl
            have b1 := BT.cell 1 rfl
            have kr0 := BR.cell 0 rfl
            have kr1 := BR.cell 1 rfl
            have g0 := BR.frozen 0
            have g1 := BR.frozen 1
            have BR2 := (BR.set 0 (.string ⟨r1.toArray⟩)).set 1 (.string ⟨r2.toArray⟩)
            have hb2 := bSet (bSet hb (p := ⟨w.heap.size + 1, 0, none⟩) (by show w.heap.size ≤ w.heap.size + 1; omega) (.string ⟨r1.toArray⟩)) (p := ⟨w.heap.size + 1, 1, none⟩) (by show w.heap.size ≤ w.heap.size + 1; omega) (.string ⟨r2.toArray⟩)
            go_wp2
            exact bodyPost_ret (results_Q1' rfl _ _ rfl BR2) rfl ⟨⟨q, by rw [hqv.out], hq⟩, hb2⟩
        · obtain ⟨q, r1, r2, hq, hqv, hM⟩ := long_make ((a : Int)) (b) (sa) (sb) (ha.out.1) (hbb.out.1) (by simpa using ha.out.2) (hb0) (hbb.out.2)
          have v0 := BO.cell 0 rfl
          have v1 := BO.cell 1 rfl
          go_wp2_with fail
          refine (hM _).mono ?_
          rintro _ wm ⟨rfl, hb1⟩
          replace hb := bCall hb hb1
          replace BR := BR.call hb1
          clear hb1 hM
          replace hb := bNew hb (.cells #[.string ⟨r1.toArray⟩, .string ⟨r2.toArray⟩] 23)
          replace BR := BR.new (.cells #[.string ⟨r1.toArray⟩, .string ⟨r2.toArray⟩] 23)
          have BT := Bx.mk wm 23 #[.string ⟨r1.toArray⟩, .string ⟨r2.toArray⟩]
          have b0 := BT.cell 0 rfl
          have b1 := BT.cell 1 rfl
          have kr0 := BR.cell 0 rfl
          have kr1 := BR.cell 1 rfl
          have g0 := BR.frozen 0
          have g1 := BR.frozen 1
          have BR2 := (BR.set 0 (.string ⟨r1.toArray⟩)).set 1 (.string ⟨r2.toArray⟩)
          have hb2 := bSet (bSet hb (p := ⟨w.heap.size + 1, 0, none⟩) (by show w.heap.size ≤ w.heap.size + 1; omega) (.string ⟨r1.toArray⟩)) (p := ⟨w.heap.size + 1, 1, none⟩) (by show w.heap.size ≤ w.heap.size + 1; omega) (.string ⟨r2.toArray⟩)
          go_wp2
          exact bodyPost_ret (results_Q1' rfl _ _ rfl BR2) rfl ⟨⟨q, by rw [hqv.out], hq⟩, hb2⟩
end Go.Proofs.YthnikbladjaifaaGreatDoor

/- strings.Join of two strings, strings.Cut at a slash, at this dump. Print, Parse of package rational. check of package rational: a calculation is bad from an invalid fraction on. Make and Of of package rational. Mul and Div of package rational. Mul and Div of package rational: contracts. Rounding fractions: plain. -/
import Derived.Test.YthnikbladjaifaaGreatDoorQ03
import Derived.Test.YthnikbladjaifaaGreatDoorShelf
import Derived.Test.YthnikbladjaifaaGreatDoorQ06
import Derived.Test.YthnikbladjaifaaGreatDoorQ05
namespace Go.Proofs.YthnikbladjaifaaGreatDoor
set_option linter.unusedVariables false
set_option linter.unusedSimpArgs false
open Go.RowKit Go.Shelf
def iVJ : Value → Int
  | .int _ z => z
  | _ => 0
theorem byteCells_app (a b : List UInt8) : Lib.byteCells a ++ Lib.byteCells b = Lib.byteCells (a ++ b) := by simp [Lib.byteCells]
set_option maxRecDepth 100000 in
set_option maxHeartbeats 4000000 in
theorem Join2_any (a b : List UInt8) (g : Nat) (w : World) (hG : Bx w g 9 #[.string ⟨a.toArray⟩, .string ⟨b.toArray⟩]) (la : a.length ≤ 1000000) (lb : b.length ≤ 1000000) :
    Calls Tryz.prog 57 #[.slice (some ⟨g, 0, none⟩) 2 2, .string ⟨#[47]⟩] w fun e w' => e = .returned (.string ⟨(a ++ 47 :: b).toArray⟩) ∧ Below w.heap.size w w' := by
  have c0 := hG.cell 0 rfl
  have c1 := hG.cell 1 rfl
  go_enter Tryz.func57, Tryz.ntmps57
  go_wp2_with fail
  go_loopw [5, 41] (fun s5 s41 wr => w = wr ∧ ((s41 = .int .i64 0 ∧ s5 = .int .i64 1) ∨ (s41 = .int .i64 1 ∧ s5 = .int .i64 (1 + (a.length : Int))) ∨ (s41 = .int .i64 2 ∧ s5 = .int .i64 (1 + (a.length : Int) + (b.length : Int))))) (fun s5 s41 wr => 2 - (iVJ s41).toNat)
  case atStart => exact ⟨rfl, .inl ⟨rfl, rfl⟩⟩
  case round =>
    obtain ⟨rfl, hrel⟩ := hrel
    rcases hrel with ⟨rfl, rfl⟩ | ⟨rfl, rfl⟩ | ⟨rfl, rfl⟩
    · go_wp2
      exact ⟨⟨trivial, .inr (.inl ⟨rfl, rfl⟩)⟩, by decide⟩
    · go_wp2
      exact ⟨⟨trivial, .inr (.inr ⟨rfl, rfl⟩)⟩, by decide⟩
    · have hGr := Tryz.Builder_Grow_fresh w.heap.size w.heap.size (1 + a.length + b.length) (w.alloc (.cells #[.pointer none, .slice none 0 0] 99)) (Nat.le_refl _) (Bx.mk w 99 #[.pointer none, .slice none 0 0]) (by rw [alloc_size]; omega) (by omega)
      have e : ((1 + a.length + b.length : Nat) : Int) = 1 + (a.length : Int) + (b.length : Int) := by omega
      rw [e] at hGr
      clear e
      have hb := bNewW w (.cells #[.pointer none, .slice none 0 0] 99)
      clear c0 c1
      go_wp2_with fail
      refine hGr.mono ?_
      rintro _ w1 ⟨rfl, hA, hb1⟩
      replace hb := hb.trans hb1
      clear hGr hb1
      have BG := hG.below hb hG.lt
      have c0 := BG.cell 0 rfl
      have c1 := BG.cell 1 rfl
      have hW := WriteString_any w.heap.size w.heap.size [] a w1 (.inr hA) (by simp; omega) (hb.size)
      go_wp2_with fail
      refine hW.mono ?_
      rintro _ w2 ⟨rfl, hA2, hb2, -⟩
      rw [List.nil_append] at hA2
      replace hb := hb.trans hb2
      clear hW hb2 hA c0 c1 BG
      go_wp2_with fail
      go_loopw [65] (fun s65 w3 => ((s65 = .int .i64 0 ∧ Lib.BuilderAt 99 5 w.heap.size w.heap.size (.pointer (some ⟨w.heap.size, 0, none⟩)) (Lib.byteCells a) w3) ∨ (s65 = .int .i64 1 ∧ Lib.BuilderAt 99 5 w.heap.size w.heap.size (.pointer (some ⟨w.heap.size, 0, none⟩)) (Lib.byteCells (a ++ 47 :: b)) w3)) ∧ Below w.heap.size w w3) (fun s65 w3 => 1 - (iVJ s65).toNat)
      case atStart => exact ⟨.inl ⟨rfl, hA2⟩, hb⟩
      case round =>
        clear hb hA2
        obtain ⟨hrel, hb⟩ := hrel
        have BG := hG.below hb hG.lt
        have c0 := BG.cell 0 rfl
        have c1 := BG.cell 1 rfl
        rcases hrel with ⟨rfl, hA⟩ | ⟨rfl, hA⟩
        · have hW1 := WriteString_any w.heap.size w.heap.size (Lib.byteCells a) [47] wr (.inr hA) (by rw [Lib.byteCells_length, List.length_singleton]; omega) (hb.size)
          go_wp2_with fail
          refine hW1.mono ?_
          rintro _ w4 ⟨rfl, hA4, hb4, -⟩
          rw [byteCells_app] at hA4
          replace hb := hb.trans hb4
          clear hW1 hb4 hA c0 c1 BG
          have hW2 := WriteString_any w.heap.size w.heap.size (Lib.byteCells (a ++ [47])) b w4 (.inr hA4) (by rw [Lib.byteCells_length, List.length_append, List.length_singleton]; omega) (hb.size)
          go_wp2_with fail
          refine hW2.mono ?_
          rintro _ w5 ⟨rfl, hA5, hb5, -⟩
          rw [byteCells_app, List.append_assoc] at hA5
          replace hb := hb.trans hb5
          clear hW2 hb5 hA4
          go_wp2
          exact ⟨⟨.inr ⟨by first | rfl | go_num, hA5⟩, hb⟩, by decide⟩
        · have hS := BString_any w.heap.size w.heap.size (a ++ 47 :: b) wr (.inr hA) (by simp)
          clear hA c0 c1 BG
          go_wp2_with fail
          refine hS.mono ?_
          rintro _ w4 ⟨rfl, hb4, -⟩
          replace hb := hb.trans hb4
          clear hS hb4
          go_wp2
          go_ret
          exact ⟨rfl, hb⟩
/-- the library's variable that strings.Index reads holds some number -/
structure EnvM (w : World) : Prop where
  out : ∃ m : Int, w.cell? ⟨0, 0, none⟩ = some (.int .i64 m)
  lt : 0 < w.heap.size
theorem EnvM.below {w w' : World} (h : EnvM w) (hb : Below w.heap.size w w') : EnvM w' := by
  obtain ⟨m, hm⟩ := h.out
  have e := hb.block 0 h.lt
  exact ⟨⟨m, by unfold World.cell? at hm ⊢; rw [show (⟨0, 0, none⟩ : Addr).block = 0 from rfl] at *; rw [e]; exact hm⟩, Nat.lt_of_lt_of_le h.lt hb.size⟩
theorem Cut_any (s : List UInt8) (w : World) (hs : s.length ≤ 1000000) (hE : EnvM w) :
    Calls Tryz.prog 56 #[.string ⟨s.toArray⟩, .string ⟨#[47]⟩] w fun e w' => e = .returned (.tuple #[.string ⟨(Lib.cut s [47]).1.toArray⟩, .string ⟨(Lib.cut s [47]).2.1.toArray⟩, .bool (Lib.cut s [47]).2.2]) ∧ Below w.heap.size w w' := by
  obtain ⟨m, hm⟩ := hE.out
  exact (Tryz.strings_Cut ⟨s.toArray⟩ ⟨#[47]⟩ m w (show s.length < _ by omega) hm).mono fun e w' ⟨h1, n, h2⟩ => ⟨h1, by rw [h2]; exact below_drewN (Below.refl _ _) n⟩
end Go.Proofs.YthnikbladjaifaaGreatDoor
namespace Go.Proofs.YthnikbladjaifaaGreatDoor
set_option linter.unusedVariables false
set_option linter.unusedSimpArgs false
open Go.RowKit Go.Shelf
set_option maxRecDepth 100000 in
set_option maxHeartbeats 2000000 in
theorem QPrint_any (a1 a2 : List UInt8) (w : World) (hE : Env w) (l1 : a1.length ≤ 1000000) (l2 : a2.length ≤ 1000000) :
    Calls Tryz.prog 30 #[.agg #[.string ⟨a1.toArray⟩, .string ⟨a2.toArray⟩]] w fun e w' => e = .returned (.string ⟨(Rq.printB a1 a2).toArray⟩) ∧ Below w.heap.size w w' := by
  have hP : Rq.printB a1 a2 = if Rq.okB a1 a2 = true then (if a2 = [49] then a1 else a1 ++ 47 :: a2) else [] := rfl
  have hV := fun w0 hE0 => QValid_any a1 a2 w0 l1 l2 hE0
  rcases Bool.eq_false_or_eq_true (Rq.okB a1 a2) with hk | hk
  · rw [if_pos hk] at hP
    rw [hk] at hV
    by_cases h49 : a2 = [49]
    · rw [if_pos h49] at hP
      rw [hP]
      have t1 : (a2 == [49]) = true := by rw [h49]; rfl
      replace hP := trivial
      clear hk
      replace h49 := Kp.mk h49
      have hb := bNewW w (.cells #[.string ⟨a1.toArray⟩, .string ⟨a2.toArray⟩] 23)
      have BA := Bx.mk w 23 #[.string ⟨a1.toArray⟩, .string ⟨a2.toArray⟩]
      have cA0 := BA.cell 0 rfl
      have cA1 := BA.cell 1 rfl
      go_enter Tryz.func30, Tryz.ntmps30
      have hV2 := hV _ (hE.below hb)
      clear hV
      go_wp2_with fail
      refine (hV2).mono ?_
      rintro _ w1 ⟨rfl, hb1⟩
      replace hb := bCall hb hb1
      replace BA := BA.call hb1
      have cA0 := BA.cell 0 rfl
      have cA1 := BA.cell 1 rfl
      clear hV2 hb1
      go_wp2
      go_ret
      exact ⟨rfl, hb⟩
    · rw [if_neg h49] at hP
      rw [hP]
      have t1 : (a2 == [49]) = false := by simpa using h49
      replace hP := trivial
      clear hk h49
      have hb := bNewW w (.cells #[.string ⟨a1.toArray⟩, .string ⟨a2.toArray⟩] 23)
      have BA := Bx.mk w 23 #[.string ⟨a1.toArray⟩, .string ⟨a2.toArray⟩]
      have cA0 := BA.cell 0 rfl
      have cA1 := BA.cell 1 rfl
      go_enter Tryz.func30, Tryz.ntmps30
      have hV2 := hV _ (hE.below hb)
      clear hV
      go_wp2_with fail
      refine (hV2).mono ?_
      rintro _ w1 ⟨rfl, hb1⟩
      replace hb := bCall hb hb1
      replace BA := BA.call hb1
      have cA0 := BA.cell 0 rfl
      have cA1 := BA.cell 1 rfl
      clear hV2 hb1
      have hJ := Join2_any a1 a2 w1.heap.size (w1.alloc (.cells #[.string ⟨a1.toArray⟩, .string ⟨a2.toArray⟩] 9)) (Bx.mk w1 9 _) l1 l2
      replace hb := bNew hb (.cells #[.string ⟨a1.toArray⟩, .string ⟨a2.toArray⟩] 9)
      go_wp2_with fail
      refine hJ.mono ?_
      rintro _ w2 ⟨rfl, hb1⟩
      replace hb := bCall hb hb1
      clear hJ hb1
      go_wp2
      go_ret
      exact ⟨rfl, hb⟩
  · rw [if_neg (by rw [hk]; decide)] at hP
    rw [hk] at hV
    rw [hP]
    replace hP := trivial
    clear hk l1 l2
    have hb := bNewW w (.cells #[.string ⟨a1.toArray⟩, .string ⟨a2.toArray⟩] 23)
    have BA := Bx.mk w 23 #[.string ⟨a1.toArray⟩, .string ⟨a2.toArray⟩]
    have cA0 := BA.cell 0 rfl
    have cA1 := BA.cell 1 rfl
    go_enter Tryz.func30, Tryz.ntmps30
    have hV2 := hV _ (hE.below hb)
    clear hV
    go_wp2_with fail
    refine (hV2).mono ?_
    rintro _ w1 ⟨rfl, hb1⟩
    replace hb := bCall hb hb1
    replace BA := BA.call hb1
    have cA0 := BA.cell 0 rfl
    have cA1 := BA.cell 1 rfl
    clear hV2 hb1
    go_wp2
    go_ret
    exact ⟨rfl, hb⟩
set_option maxRecDepth 100000 in
set_option maxHeartbeats 4000000 in
theorem QParse_walk (s r1 r2 p c1 c2 : List UInt8) (i : Bool) (code : Int) (w : World) (hE : Env w)
    (hC : ∀ w0, Below w.heap.size w w0 → Calls Tryz.prog 56 #[.string ⟨s.toArray⟩, .string ⟨#[47]⟩] w0 fun e w' => e = .returned (.tuple #[.string ⟨c1.toArray⟩, .string ⟨c2.toArray⟩, .bool i]) ∧ Below w0.heap.size w0 w')
    (hP : ∀ w0, Env w0 → Calls Tryz.prog 30 #[.agg #[.string ⟨c1.toArray⟩, .string ⟨(if i = true then c2 else [49]).toArray⟩]] w0 fun e w' => e = .returned (.string ⟨p.toArray⟩) ∧ Below w0.heap.size w0 w')
    (hg : (p == s) = true → (s == []) = false → r1 = c1 ∧ r2 = (if i = true then c2 else [49]) ∧ code = 0) (hz : (p == s) = false ∨ (s == []) = true → r1 = [] ∧ r2 = [] ∧ code = 40) :
    Calls Tryz.prog 29 #[.string ⟨s.toArray⟩] w fun e w' => e = .returned (.tuple #[.agg #[.string ⟨r1.toArray⟩, .string ⟨r2.toArray⟩], .int .i64 code]) ∧ Below w.heap.size w w' := by
  have hb := bNew (bNewW w (.cells #[.string ⟨#[]⟩, .string ⟨#[]⟩] 23)) (.cells #[.string ⟨#[]⟩, .string ⟨#[49]⟩] 23)
  have BR := (Bx.mk w 23 #[.string ⟨#[]⟩, .string ⟨#[]⟩]).new (.cells #[.string ⟨#[]⟩, .string ⟨#[49]⟩] 23)
  have BL := Bx.mk (w.alloc (.cells #[.string ⟨#[]⟩, .string ⟨#[]⟩] 23)) 23 #[.string ⟨#[]⟩, .string ⟨#[49]⟩]
  rw [alloc_size] at BL
  have cL0 := BL.cell 0 rfl
  have cL1 := BL.cell 1 rfl
  go_enter Tryz.func29, Tryz.ntmps29
  have hC2 := hC _ hb
  clear hC
  go_wp2_with fail
  refine (hC2).mono ?_
  rintro _ w1 ⟨rfl, hb1⟩
  replace hb := bCall hb hb1
  replace BR := BR.call hb1
  replace BL := BL.call hb1
  have cL0 := BL.cell 0 rfl
  have cL1 := BL.cell 1 rfl
  clear hC2 hb1
  have fL0 := BL.frozen 0
  have fL1 := BL.frozen 1
  cases i
  · simp only [Bool.false_eq_true, if_false] at hP hg
    replace BR := BR.far (p := ⟨w.heap.size + 1, 0, none⟩) (by show w.heap.size ≠ w.heap.size + 1; omega) (.string ⟨c1.toArray⟩)
    replace BL := BL.set 0 (.string ⟨c1.toArray⟩)
    replace hb := bSet hb (p := ⟨w.heap.size + 1, 0, none⟩) (by show w.heap.size ≤ w.heap.size + 1; omega) (.string ⟨c1.toArray⟩)
    have BRx : Bx (w1.setCell ⟨w.heap.size + 1, 0, none⟩ (.string ⟨c1.toArray⟩)) w.heap.size 23 #[.string ⟨#[]⟩, .string ⟨#[]⟩] := BR
    have BLx : Bx (w1.setCell ⟨w.heap.size + 1, 0, none⟩ (.string ⟨c1.toArray⟩)) (w.heap.size + 1) 23 #[.string ⟨c1.toArray⟩, .string ⟨#[49]⟩] := BL
    have hbx : Below w.heap.size w (w1.setCell ⟨w.heap.size + 1, 0, none⟩ (.string ⟨c1.toArray⟩)) := hb
    clear BR BL hb
    go_wp2_with fail
    clear fL0 fL1 cL0 cL1
    generalize hW : (w1.setCell ⟨w.heap.size + 1, 0, none⟩ (.string ⟨c1.toArray⟩)) = W at *
    clear hW
    have BR := BRx
    have BL := BLx
    have hb := hbx
    clear BRx BLx hbx
    have c0 := BL.cell 0 rfl
    have c1' := BL.cell 1 rfl
    have hP2 := hP _ (hE.below hb)
    clear hP
    go_wp2_with fail
    refine hP2.mono ?_
    rintro _ w2 ⟨rfl, hb1⟩
    replace hb := bCall hb hb1
    replace BR := BR.call hb1
    replace BL := BL.call hb1
    clear hb1 hP2 c0 c1'
    have c0 := BL.cell 0 rfl
    have c1' := BL.cell 1 rfl
    rcases Bool.eq_false_or_eq_true (p == s) with t2 | t2
    · have t3 : (p != s) = false := by rw [bne, t2]; rfl
      rcases Bool.eq_false_or_eq_true (s == []) with t4 | t4
      · obtain ⟨rfl, rfl, rfl⟩ := hz (.inr t4)
        clear hz hg
        have kr0 := BR.cell 0 rfl
        have kr1 := BR.cell 1 rfl
        have f0 := BR.frozen 0
        have f1 := BR.frozen 1
        have BR2 := (BR.set 0 (.string ⟨#[]⟩)).set 1 (.string ⟨#[]⟩)
        have hb2 := bSet (bSet hb (p := ⟨w.heap.size, 0, none⟩) (Nat.le_refl _) (.string ⟨#[]⟩)) (p := ⟨w.heap.size, 1, none⟩) (Nat.le_refl _) (.string ⟨#[]⟩)
        go_wp2
        first | exact bodyPost_ret (results_Q rfl _ _ rfl rfl BR2) rfl ⟨rfl, hb2⟩ | exact bodyPost_ret (results_Q rfl _ _ rfl rfl BR) rfl ⟨rfl, hb⟩
      · obtain ⟨e1, e2, rfl⟩ := hg t2 t4
        subst e1 e2
        clear hz hg
        have kr0 := BR.cell 0 rfl
        have kr1 := BR.cell 1 rfl
        have f0 := BR.frozen 0
        have f1 := BR.frozen 1
        have BR2 := (BR.set 0 (.string ⟨r1.toArray⟩)).set 1 (.string ⟨[49].toArray⟩)
        have hb2 := bSet (bSet hb (p := ⟨w.heap.size, 0, none⟩) (Nat.le_refl _) (.string ⟨r1.toArray⟩)) (p := ⟨w.heap.size, 1, none⟩) (Nat.le_refl _) (.string ⟨[49].toArray⟩)
        go_wp2
        first | exact bodyPost_ret (results_Q rfl _ _ rfl rfl BR2) rfl ⟨rfl, hb2⟩ | exact bodyPost_ret (results_Q rfl _ _ rfl rfl BR) rfl ⟨rfl, hb⟩
    · have t3 : (p != s) = true := by rw [bne, t2]; rfl
      obtain ⟨rfl, rfl, rfl⟩ := hz (.inl t2)
      clear hz hg
      have kr0 := BR.cell 0 rfl
      have kr1 := BR.cell 1 rfl
      have f0 := BR.frozen 0
      have f1 := BR.frozen 1
      have BR2 := (BR.set 0 (.string ⟨#[]⟩)).set 1 (.string ⟨#[]⟩)
      have hb2 := bSet (bSet hb (p := ⟨w.heap.size, 0, none⟩) (Nat.le_refl _) (.string ⟨#[]⟩)) (p := ⟨w.heap.size, 1, none⟩) (Nat.le_refl _) (.string ⟨#[]⟩)
      go_wp2
      first | exact bodyPost_ret (results_Q rfl _ _ rfl rfl BR2) rfl ⟨rfl, hb2⟩ | exact bodyPost_ret (results_Q rfl _ _ rfl rfl BR) rfl ⟨rfl, hb⟩
  · simp only [if_true] at hP hg
    replace BR := BR.far (p := ⟨w.heap.size + 1, 0, none⟩) (by show w.heap.size ≠ w.heap.size + 1; omega) (.string ⟨c1.toArray⟩)
    replace BL := BL.set 0 (.string ⟨c1.toArray⟩)
    replace hb := bSet hb (p := ⟨w.heap.size + 1, 0, none⟩) (by show w.heap.size ≤ w.heap.size + 1; omega) (.string ⟨c1.toArray⟩)
    have fL0' := BL.frozen 0
    have cL0' := BL.cell 0 rfl
    have cL1' := BL.cell 1 rfl
    have fL1' := BL.frozen 1
    replace BR := BR.far (p := ⟨w.heap.size + 1, 1, none⟩) (by show w.heap.size ≠ w.heap.size + 1; omega) (.string ⟨c2.toArray⟩)
    replace BL := BL.set 1 (.string ⟨c2.toArray⟩)
    replace hb := bSet hb (p := ⟨w.heap.size + 1, 1, none⟩) (by show w.heap.size ≤ w.heap.size + 1; omega) (.string ⟨c2.toArray⟩)
    have BRx : Bx ((w1.setCell ⟨w.heap.size + 1, 0, none⟩ (.string ⟨c1.toArray⟩)).setCell ⟨w.heap.size + 1, 1, none⟩ (.string ⟨c2.toArray⟩)) w.heap.size 23 #[.string ⟨#[]⟩, .string ⟨#[]⟩] := BR
    have BLx : Bx ((w1.setCell ⟨w.heap.size + 1, 0, none⟩ (.string ⟨c1.toArray⟩)).setCell ⟨w.heap.size + 1, 1, none⟩ (.string ⟨c2.toArray⟩)) (w.heap.size + 1) 23 #[.string ⟨c1.toArray⟩, .string ⟨c2.toArray⟩] := BL
    have hbx : Below w.heap.size w ((w1.setCell ⟨w.heap.size + 1, 0, none⟩ (.string ⟨c1.toArray⟩)).setCell ⟨w.heap.size + 1, 1, none⟩ (.string ⟨c2.toArray⟩)) := hb
    clear BR BL hb
    go_wp2_with fail
    clear fL0 fL1 cL0 cL1 fL0' cL0' cL1' fL1'
    generalize hW : ((w1.setCell ⟨w.heap.size + 1, 0, none⟩ (.string ⟨c1.toArray⟩)).setCell ⟨w.heap.size + 1, 1, none⟩ (.string ⟨c2.toArray⟩)) = W at *
    clear hW
    have BR := BRx
    have BL := BLx
    have hb := hbx
    clear BRx BLx hbx
    have c0 := BL.cell 0 rfl
    have c1' := BL.cell 1 rfl
    have hP2 := hP _ (hE.below hb)
    clear hP
    go_wp2_with fail
    refine hP2.mono ?_
    rintro _ w2 ⟨rfl, hb1⟩
    replace hb := bCall hb hb1
    replace BR := BR.call hb1
    replace BL := BL.call hb1
    clear hb1 hP2 c0 c1'
    have c0 := BL.cell 0 rfl
    have c1' := BL.cell 1 rfl
    rcases Bool.eq_false_or_eq_true (p == s) with t2 | t2
    · have t3 : (p != s) = false := by rw [bne, t2]; rfl
      rcases Bool.eq_false_or_eq_true (s == []) with t4 | t4
      · obtain ⟨rfl, rfl, rfl⟩ := hz (.inr t4)
        clear hz hg
        have kr0 := BR.cell 0 rfl
        have kr1 := BR.cell 1 rfl
        have f0 := BR.frozen 0
        have f1 := BR.frozen 1
        have BR2 := (BR.set 0 (.string ⟨#[]⟩)).set 1 (.string ⟨#[]⟩)
        have hb2 := bSet (bSet hb (p := ⟨w.heap.size, 0, none⟩) (Nat.le_refl _) (.string ⟨#[]⟩)) (p := ⟨w.heap.size, 1, none⟩) (Nat.le_refl _) (.string ⟨#[]⟩)
        go_wp2
        first | exact bodyPost_ret (results_Q rfl _ _ rfl rfl BR2) rfl ⟨rfl, hb2⟩ | exact bodyPost_ret (results_Q rfl _ _ rfl rfl BR) rfl ⟨rfl, hb⟩
      · obtain ⟨e1, e2, rfl⟩ := hg t2 t4
        subst e1 e2
        clear hz hg
        have kr0 := BR.cell 0 rfl
        have kr1 := BR.cell 1 rfl
        have f0 := BR.frozen 0
        have f1 := BR.frozen 1
        have BR2 := (BR.set 0 (.string ⟨r1.toArray⟩)).set 1 (.string ⟨r2.toArray⟩)
        have hb2 := bSet (bSet hb (p := ⟨w.heap.size, 0, none⟩) (Nat.le_refl _) (.string ⟨r1.toArray⟩)) (p := ⟨w.heap.size, 1, none⟩) (Nat.le_refl _) (.string ⟨r2.toArray⟩)
        go_wp2
        first | exact bodyPost_ret (results_Q rfl _ _ rfl rfl BR2) rfl ⟨rfl, hb2⟩ | exact bodyPost_ret (results_Q rfl _ _ rfl rfl BR) rfl ⟨rfl, hb⟩
    · have t3 : (p != s) = true := by rw [bne, t2]; rfl
      obtain ⟨rfl, rfl, rfl⟩ := hz (.inl t2)
      clear hz hg
      have kr0 := BR.cell 0 rfl
      have kr1 := BR.cell 1 rfl
      have f0 := BR.frozen 0
      have f1 := BR.frozen 1
      have BR2 := (BR.set 0 (.string ⟨#[]⟩)).set 1 (.string ⟨#[]⟩)
      have hb2 := bSet (bSet hb (p := ⟨w.heap.size, 0, none⟩) (Nat.le_refl _) (.string ⟨#[]⟩)) (p := ⟨w.heap.size, 1, none⟩) (Nat.le_refl _) (.string ⟨#[]⟩)
      go_wp2
      first | exact bodyPost_ret (results_Q rfl _ _ rfl rfl BR2) rfl ⟨rfl, hb2⟩ | exact bodyPost_ret (results_Q rfl _ _ rfl rfl BR) rfl ⟨rfl, hb⟩
theorem QParse_good (q : Rat) (w : World) (hE : Env w) (hM : EnvM w) (hq : Rq.Fq q) :
    Calls Tryz.prog 29 #[.string ⟨(Rq.printQ q).toArray⟩] w fun e w' => e = .returned (.tuple #[QV q, .int .i64 0]) ∧ Below w.heap.size w w' := by
  obtain ⟨e1, e2⟩ := Rq.parts_print q
  have hl := Rq.print_len hq
  have hP := fun w0 hE0 => QPrint_any (Lib.itoa q.num) (Lib.itoa (q.den : Int)) w0 hE0 (fits_small hq.num) (fits_small hq.den)
  rw [Rq.printB_q hq] at hP
  rw [← e1, ← e2] at hP
  refine QParse_walk (Rq.printQ q) _ _ (Rq.printQ q) _ _ _ 0 w hE (fun w0 hb => Cut_any _ w0 (by omega) (hM.below hb)) hP (fun _ _ => ⟨e1.symm, e2.symm, rfl⟩) (fun h => ?_)
  rcases h with h | h
  · simp at h
  · exact absurd (by simpa using h) (Rq.print_ne q)
theorem printB_ne {n d : List UInt8} (h : Rq.printB n d ≠ []) : Rq.okB n d = true := by
  unfold Rq.printB at h
  by_cases hk : Rq.okB n d = true
  · exact hk
  · rw [if_neg hk] at h; exact absurd rfl h
theorem QParse_not (s : List UInt8) (w : World) (hE : Env w) (hM : EnvM w) (hs : s.length ≤ 900000) (h : Rq.parseB s = false) :
    Calls Tryz.prog 29 #[.string ⟨s.toArray⟩] w fun e w' => e = .returned (.tuple #[QZ, .int .i64 40]) ∧ Below w.heap.size w w' := by
  have l1 := Rq.numP_len s
  have l2 := Rq.denP_len s
  have hP := fun w0 hE0 => QPrint_any (Rq.numP s) (Rq.denP s) w0 hE0 (by omega) (by omega)
  refine QParse_walk s [] [] (Rq.printB (Rq.numP s) (Rq.denP s)) _ _ _ 40 w hE (fun w0 hb => Cut_any _ w0 (by omega) (hM.below hb)) hP (fun h1 h2 => ?_) (fun _ => ⟨rfl, rfl, rfl⟩)
  exfalso
  have e : Rq.printB (Rq.numP s) (Rq.denP s) = s := by simpa using h1
  have hne : Rq.printB (Rq.numP s) (Rq.denP s) ≠ [] := by rw [e]; intro h3; rw [h3] at h2; cases h2
  unfold Rq.parseB at h
  rw [printB_ne hne, h1] at h
  cases h
end Go.Proofs.YthnikbladjaifaaGreatDoor
namespace Go.Proofs.YthnikbladjaifaaGreatDoor
set_option linter.unusedVariables false
set_option linter.unusedSimpArgs false
open Go.RowKit Go.Shelf
/-- some fraction is not valid -/
noncomputable def badQ (l : List (List UInt8 × List UInt8)) : Bool := l.any fun p => !Rq.okB p.1 p.2
theorem badQ_step {l : List (List UInt8 × List UInt8)} {i : Nat} (h : i < l.length) : badQ (l.take (i + 1)) = (badQ (l.take i) || !Rq.okB l[i].1 l[i].2) := by
  unfold badQ
  rw [List.take_succ_eq_append_getElem h, List.any_append]
  simp
set_option maxRecDepth 100000 in
set_option maxHeartbeats 4000000 in
theorem check_any (l : List (List UInt8 × List UInt8)) (cap gl : Nat) (cs : Array Value) (w0 W : World) (g : Nat) (bad : Bool) (hE : Env w0) (h : Wk w0 W g bad) (hne : g ≠ gl) (hB : Bx W gl 23 cs)
    (hcs : ∀ i (hi : i < l.length), cs[i * 2]? = some (.string ⟨l[i].1.toArray⟩) ∧ cs[i * 2 + 1]? = some (.string ⟨l[i].2.toArray⟩) ∧ l[i].1.length ≤ 1000000 ∧ l[i].2.length ≤ 1000000) (hl : l.length ≤ 1000) (hlc : l.length ≤ cap) :
    Calls Tryz.prog 54 #[.pointer (some ⟨g, 0, none⟩), .slice (some ⟨gl, 0, none⟩) l.length cap] W fun e w' => (∃ v, e = .returned v) ∧ Wk w0 w' g (bad || badQ l) := by
  go_enter Tryz.func54, Tryz.ntmps54
  go_wp2_with fail
  go_loopw [5, 8] (fun s5 s8 wr => ∃ (i : Nat) (b : Bool), i ≤ l.length ∧ s8 = .int .i64 i ∧ Wk w0 wr g b ∧ Bx wr gl 23 cs ∧ Kp (b = (bad || badQ (l.take i)))) (fun s5 s8 wr => l.length - (intOf s8).toNat)
  case atStart => exact ⟨0, bad, by omega, rfl, h, hB, ⟨by simp [badQ]⟩⟩
  case round =>
    clear h hB
    obtain ⟨i, b, hi, rfl, hW, hB, hb⟩ := hrel
    by_cases hil : i < l.length
    · obtain ⟨h0, h1, l0, l1⟩ := hcs i hil
      have c0 : wr.cell? ⟨gl, i * 2, none⟩ = some (.string ⟨l[i].1.toArray⟩) := hB.cell _ h0
      have c1 : wr.cell? ⟨gl, i * 2 + 1, none⟩ = some (.string ⟨l[i].2.toArray⟩) := hB.cell _ h1
      have hst := Kp.mk (badQ_step hil)
      have hnext : ∀ b', b' = (b || !Rq.okB l[i].1 l[i].2) → Kp (b' = (bad || badQ (l.take (i + 1)))) := fun b' h => ⟨by rw [h, hb.out, hst.out, Bool.or_assoc]⟩
      have hV := fun w1 hE1 => QValid_any l[i].1 l[i].2 w1 l0 l1 hE1
      have t0 : decide (i < l.length) = true := decide_eq_true hil
      clear hst hb h0 h1 hcs
      generalize Rq.okB l[i].1 l[i].2 = ok at *
      generalize l[i].1 = p at *
      generalize l[i].2 = q at *
      have hWn := hW.call (bNewW wr (.cells #[.string ⟨p.toArray⟩, .string ⟨q.toArray⟩] 23))
      have hBn := hB.new (.cells #[.string ⟨p.toArray⟩, .string ⟨q.toArray⟩] 23)
      have Bx1 := Bx.mk wr 23 #[.string ⟨p.toArray⟩, .string ⟨q.toArray⟩]
      have x0 := Bx1.cell 0 rfl
      have x1 := Bx1.cell 1 rfl
      have hc := hWn.cell
      have hf := hWn.frozen
      cases b
      · have hVn := hV _ (hE.below hWn.hb)
        clear hV hW hB
        go_wp2_with fail
        refine hVn.mono ?_
        rintro _ w3 ⟨rfl, hb3⟩
        have hW3 := hWn.call hb3
        have hB3 := hBn.call hb3
        clear hVn hWn hBn hc hf hb3
        have hc := hW3.cell
        have hf := hW3.frozen
        have hW4 := hW3.set (!ok)
        have hB4 := hB3.far (p := ⟨g, 0, none⟩) (fun e => hne e.symm) (.bool (!ok))
        have hn := hnext (!ok) (by simp)
        clear hW3 hB3 hnext
        go_wp2
        exact ⟨⟨i + 1, !ok, by omega, by go_num, hW4, hB4, hn⟩, by simp [intOf]; omega⟩
      · have hW4 := hWn.set true
        have hB4 := hBn.far (p := ⟨g, 0, none⟩) (fun e => hne e.symm) (.bool true)
        have hn := hnext true (by simp)
        clear hV hW hB hWn hBn hnext
        go_wp2
        exact ⟨⟨i + 1, true, by omega, by go_num, hW4, hB4, hn⟩, by simp [intOf]; omega⟩
    · obtain rfl : i = l.length := by omega
      have t0 : decide (l.length < l.length) = false := decide_eq_false hil
      have hb2 : Kp (b = (bad || badQ l)) := ⟨by rw [hb.out, List.take_length]⟩
      clear hb hcs
      go_wp2
      exact bodyPost_end (results_none rfl _ _ _) rfl ⟨⟨_, rfl⟩, hb2.out ▸ hW⟩
end Go.Proofs.YthnikbladjaifaaGreatDoor
namespace Go.Proofs.YthnikbladjaifaaGreatDoor
set_option linter.unusedVariables false
set_option linter.unusedSimpArgs false
open Go.RowKit Go.Shelf
theorem Wk.new (w : World) (b : Bool) : Wk w (w.alloc (.cells #[.bool b] 64)) w.heap.size b := ⟨bNewW _ _, Nat.le_refl _, Bx.mk _ _ _⟩
set_option maxRecDepth 100000 in
set_option maxHeartbeats 2000000 in
theorem Make_ok (n d : Int) (w : World) (hn : Ig.fits n) (hf : Ig.fits d) (hd : d ≠ 0) (hE : Env w) :
    Calls Tryz.prog 20 #[.string ⟨(Lib.itoa n).toArray⟩, .string ⟨(Lib.itoa d).toArray⟩] w fun e w' => e = .returned (.tuple #[QV (Rat.divInt n d), .int .i64 0]) ∧ Below w.heap.size w w' := by
  have hV1 := fun w0 => Valid_any (Lib.itoa n) (fits_small hn) w0
  have hV2 := fun w0 => Valid_any (Lib.itoa d) (fits_small hf) w0
  rw [Ig.valid_itoa hn] at hV1
  rw [Ig.valid_itoa hf] at hV2
  have hRR := fun w2 hE2 => reduced_good n d w2 _ _ hn hf hd hE2 (Wk.new w2 false)
  unfold QV at *
  generalize Lib.itoa (Rat.divInt n d).num = sa at *
  generalize Lib.itoa ((Rat.divInt n d).den : Int) = sb at *
  generalize Lib.itoa n = sn at *
  generalize Lib.itoa d = sd at *
  clear hn hf hd
  have B := Bx.mk w 23 #[.string ⟨#[]⟩, .string ⟨#[]⟩]
  have hb := bNewW w (.cells #[.string ⟨#[]⟩, .string ⟨#[]⟩] 23)
  go_enter Tryz.func20, Tryz.ntmps20
  go_wp2_with fail
  refine (hV1 _).mono ?_
  rintro _ w1 ⟨rfl, hb1⟩
  replace hb := bCall hb hb1
  replace B := B.call hb1
  clear hV1 hb1
  go_wp2_with fail
  refine (hV2 _).mono ?_
  rintro _ w2 ⟨rfl, hb1⟩
  replace hb := bCall hb hb1
  replace B := B.call hb1
  clear hV2 hb1
  have hR := hRR w2 (hE.below hb)
  clear hRR
  go_wp2_with fail
  refine hR.mono ?_
  rintro _ w3 ⟨rfl, hb1⟩
  replace hb := bCall hb hb1
  replace B := B.call hb1
  clear hR hb1
  have r0 := B.cell 0 rfl
  have r1 := B.cell 1 rfl
  have f0 := B.frozen 0
  have f1 := B.frozen 1
  have B2 := (B.set 0 (.string ⟨sa.toArray⟩)).set 1 (.string ⟨sb.toArray⟩)
  have hb2 := bSet (bSet hb (p := ⟨w.heap.size, 0, none⟩) (Nat.le_refl _) (.string ⟨sa.toArray⟩)) (p := ⟨w.heap.size, 1, none⟩) (Nat.le_refl _) (.string ⟨sb.toArray⟩)
  go_wp2
  first
    | exact bodyPost_ret (results_Q rfl _ _ rfl rfl B2) rfl ⟨rfl, hb2⟩
    | exact bodyPost_ret (results_Q rfl _ _ rfl rfl B) rfl ⟨rfl, hb⟩
set_option maxRecDepth 100000 in
set_option maxHeartbeats 2000000 in
theorem Make_zero (n : Int) (w : World) (hn : Ig.fits n) :
    Calls Tryz.prog 20 #[.string ⟨(Lib.itoa n).toArray⟩, .string ⟨(Lib.itoa 0).toArray⟩] w fun e w' => e = .returned (.tuple #[QZ, .int .i64 40]) ∧ Below w.heap.size w w' := by
  have hV1 := fun w0 => Valid_any (Lib.itoa n) (fits_small hn) w0
  have hV2 := fun w0 => Valid_any (Lib.itoa 0) (fits_small fits_0) w0
  rw [Ig.valid_itoa hn] at hV1
  rw [Ig.valid_itoa fits_0] at hV2
  rw [itoa_0] at *
  have hRR := fun w2 => reduced_zero (Lib.itoa n) w2 _ _ (Wk.new w2 false)
  unfold QZ at *
  generalize Lib.itoa n = sn at *
  clear hn
  have B := Bx.mk w 23 #[.string ⟨#[]⟩, .string ⟨#[]⟩]
  have hb := bNewW w (.cells #[.string ⟨#[]⟩, .string ⟨#[]⟩] 23)
  go_enter Tryz.func20, Tryz.ntmps20
  go_wp2_with fail
  refine (hV1 _).mono ?_
  rintro _ w1 ⟨rfl, hb1⟩
  replace hb := bCall hb hb1
  replace B := B.call hb1
  clear hV1 hb1
  go_wp2_with fail
  refine (hV2 _).mono ?_
  rintro _ w2 ⟨rfl, hb1⟩
  replace hb := bCall hb hb1
  replace B := B.call hb1
  clear hV2 hb1
  have hR := hRR w2
  clear hRR
  go_wp2_with fail
  refine hR.mono ?_
  rintro _ w3 ⟨rfl, hb1⟩
  replace hb := bCall hb hb1
  replace B := B.call hb1
  clear hR hb1
  have r0 := B.cell 0 rfl
  have r1 := B.cell 1 rfl
  have f0 := B.frozen 0
  have f1 := B.frozen 1
  have B2 := (B.set 0 (.string ⟨#[]⟩)).set 1 (.string ⟨#[]⟩)
  have hb2 := bSet (bSet hb (p := ⟨w.heap.size, 0, none⟩) (Nat.le_refl _) (.string ⟨#[]⟩)) (p := ⟨w.heap.size, 1, none⟩) (Nat.le_refl _) (.string ⟨#[]⟩)
  go_wp2
  first
    | exact bodyPost_ret (results_Q rfl _ _ rfl rfl B2) rfl ⟨rfl, hb2⟩
    | exact bodyPost_ret (results_Q rfl _ _ rfl rfl B) rfl ⟨rfl, hb⟩
set_option maxRecDepth 100000 in
set_option maxHeartbeats 2000000 in
theorem Make_not1 (n d : List UInt8) (w : World) (hn : n.length ≤ 1000000) (h : Ig.validS n = false) :
    Calls Tryz.prog 20 #[.string ⟨n.toArray⟩, .string ⟨d.toArray⟩] w fun e w' => e = .returned (.tuple #[QZ, .int .i64 40]) ∧ Below w.heap.size w w' := by
  have hV1 := fun w0 => Valid_any n hn w0
  rw [h] at hV1
  have hRR := fun w2 => reduced_bad n d w2 _ _ (Wk.new w2 true)
  unfold QZ at *
  clear hn h
  have B := Bx.mk w 23 #[.string ⟨#[]⟩, .string ⟨#[]⟩]
  have hb := bNewW w (.cells #[.string ⟨#[]⟩, .string ⟨#[]⟩] 23)
  go_enter Tryz.func20, Tryz.ntmps20
  go_wp2_with fail
  refine (hV1 _).mono ?_
  rintro _ w1 ⟨rfl, hb1⟩
  replace hb := bCall hb hb1
  replace B := B.call hb1
  clear hV1 hb1
  have hR := hRR w1
  clear hRR
  go_wp2_with fail
  refine hR.mono ?_
  rintro _ w3 ⟨rfl, hb1⟩
  replace hb := bCall hb hb1
  replace B := B.call hb1
  clear hR hb1
  have r0 := B.cell 0 rfl
  have r1 := B.cell 1 rfl
  have f0 := B.frozen 0
  have f1 := B.frozen 1
  have B2 := (B.set 0 (.string ⟨#[]⟩)).set 1 (.string ⟨#[]⟩)
  have hb2 := bSet (bSet hb (p := ⟨w.heap.size, 0, none⟩) (Nat.le_refl _) (.string ⟨#[]⟩)) (p := ⟨w.heap.size, 1, none⟩) (Nat.le_refl _) (.string ⟨#[]⟩)
  go_wp2
  first
    | exact bodyPost_ret (results_Q rfl _ _ rfl rfl B2) rfl ⟨rfl, hb2⟩
    | exact bodyPost_ret (results_Q rfl _ _ rfl rfl B) rfl ⟨rfl, hb⟩
set_option maxRecDepth 100000 in
set_option maxHeartbeats 2000000 in
theorem Make_not2 (n d : List UInt8) (w : World) (hn : n.length ≤ 1000000) (hd : d.length ≤ 1000000) (h : Ig.validS n = true) (h' : Ig.validS d = false) :
    Calls Tryz.prog 20 #[.string ⟨n.toArray⟩, .string ⟨d.toArray⟩] w fun e w' => e = .returned (.tuple #[QZ, .int .i64 40]) ∧ Below w.heap.size w w' := by
  have hV1 := fun w0 => Valid_any n hn w0
  have hV2 := fun w0 => Valid_any d hd w0
  rw [h] at hV1
  rw [h'] at hV2
  have hRR := fun w2 => reduced_bad n d w2 _ _ (Wk.new w2 true)
  unfold QZ at *
  clear hn hd h h'
  have B := Bx.mk w 23 #[.string ⟨#[]⟩, .string ⟨#[]⟩]
  have hb := bNewW w (.cells #[.string ⟨#[]⟩, .string ⟨#[]⟩] 23)
  go_enter Tryz.func20, Tryz.ntmps20
  go_wp2_with fail
  refine (hV1 _).mono ?_
  rintro _ w1 ⟨rfl, hb1⟩
  replace hb := bCall hb hb1
  replace B := B.call hb1
  clear hV1 hb1
  go_wp2_with fail
  refine (hV2 _).mono ?_
  rintro _ w2 ⟨rfl, hb1⟩
  replace hb := bCall hb hb1
  replace B := B.call hb1
  clear hV2 hb1
  have hR := hRR w2
  clear hRR
  go_wp2_with fail
  refine hR.mono ?_
  rintro _ w3 ⟨rfl, hb1⟩
  replace hb := bCall hb hb1
  replace B := B.call hb1
  clear hR hb1
  have r0 := B.cell 0 rfl
  have r1 := B.cell 1 rfl
  have f0 := B.frozen 0
  have f1 := B.frozen 1
  have B2 := (B.set 0 (.string ⟨#[]⟩)).set 1 (.string ⟨#[]⟩)
  have hb2 := bSet (bSet hb (p := ⟨w.heap.size, 0, none⟩) (Nat.le_refl _) (.string ⟨#[]⟩)) (p := ⟨w.heap.size, 1, none⟩) (Nat.le_refl _) (.string ⟨#[]⟩)
  go_wp2
  first
    | exact bodyPost_ret (results_Q rfl _ _ rfl rfl B2) rfl ⟨rfl, hb2⟩
    | exact bodyPost_ret (results_Q rfl _ _ rfl rfl B) rfl ⟨rfl, hb⟩
end Go.Proofs.YthnikbladjaifaaGreatDoor
namespace Go.Proofs.YthnikbladjaifaaGreatDoor
set_option linter.unusedVariables false
set_option linter.unusedSimpArgs false
open Go.RowKit Go.Shelf
theorem mul_bad' (a b : List UInt8) (w0 W : World) (g : Nat) (h : Wk w0 W g true) :
    Calls Tryz.prog 55 #[.pointer (some ⟨g, 0, none⟩), .string ⟨a.toArray⟩, .string ⟨b.toArray⟩] W fun e w' => e = .returned (.string ⟨#[]⟩) ∧ Wk w0 w' g true :=
  (mul_bad a b w0 W g h).mono fun _ _ ⟨h1, h2⟩ => ⟨h1, h2 ▸ h⟩
theorem badQ_two (a b c d : List UInt8) : badQ [(a, b), (c, d)] = (!Rq.okB a b || !Rq.okB c d) := by simp [badQ]
theorem badQ_one (a b : List UInt8) : badQ [(a, b)] = (!Rq.okB a b) := by simp [badQ]
theorem two_check (a1 a2 b1 b2 : List UInt8) (W0 : World) (g : Nat) (hg : W0.heap.size = g) (la1 : a1.length ≤ 1000000) (la2 : a2.length ≤ 1000000) (lb1 : b1.length ≤ 1000000) (lb2 : b2.length ≤ 1000000) (hE : Env W0) :
    Calls Tryz.prog 54 #[.pointer (some ⟨g, 0, none⟩), .slice (some ⟨g + 1, 0, none⟩) 2 2] ((W0.alloc (.cells #[.bool false] 64)).alloc (.cells #[.string ⟨a1.toArray⟩, .string ⟨a2.toArray⟩, .string ⟨b1.toArray⟩, .string ⟨b2.toArray⟩] 23)) fun e w' => (∃ v, e = .returned v) ∧ Wk W0 w' g (!Rq.okB a1 a2 || !Rq.okB b1 b2) := by
  subst hg
  have hw := (Wk.new W0 false).call (bNewW (W0.alloc (.cells #[.bool false] 64)) (.cells #[.string ⟨a1.toArray⟩, .string ⟨a2.toArray⟩, .string ⟨b1.toArray⟩, .string ⟨b2.toArray⟩] 23))
  have hB := Bx.mk (W0.alloc (.cells #[.bool false] 64)) 23 #[.string ⟨a1.toArray⟩, .string ⟨a2.toArray⟩, .string ⟨b1.toArray⟩, .string ⟨b2.toArray⟩]
  rw [alloc_size] at hB
  have h := check_any [(a1, a2), (b1, b2)] 2 (W0.heap.size + 1) _ W0 _ _ false hE hw (by omega) hB (fun i hi => by
    rcases (show i = 0 ∨ i = 1 by simp at hi; omega) with rfl | rfl
    · exact ⟨rfl, rfl, la1, la2⟩
    · exact ⟨rfl, rfl, lb1, lb2⟩) (by simp) (by simp)
  rw [badQ_two, Bool.false_or] at h
  exact h
set_option maxRecDepth 100000 in
set_option maxHeartbeats 4000000 in
theorem Mul_walk (a1 a2 b1 b2 p q r1 r2 : List UInt8) (code : Int) (c1 c2 : Bool) (w : World) (hE : Env w) (la1 : a1.length ≤ 1000000) (la2 : a2.length ≤ 1000000) (lb1 : b1.length ≤ 1000000) (lb2 : b2.length ≤ 1000000)
    (hX1 : ∀ W0 W g, Env W0 → Wk W0 W g (!Rq.okB a1 a2 || !Rq.okB b1 b2) → Calls Tryz.prog 55 #[.pointer (some ⟨g, 0, none⟩), .string ⟨a1.toArray⟩, .string ⟨b1.toArray⟩] W fun e w' => e = .returned (.string ⟨p.toArray⟩) ∧ Wk W0 w' g c1)
    (hX2 : ∀ W0 W g, Env W0 → Wk W0 W g c1 → Calls Tryz.prog 55 #[.pointer (some ⟨g, 0, none⟩), .string ⟨a2.toArray⟩, .string ⟨b2.toArray⟩] W fun e w' => e = .returned (.string ⟨q.toArray⟩) ∧ Wk W0 w' g c2)
    (hX3 : ∀ W0 W g, Env W0 → Wk W0 W g c2 → Calls Tryz.prog 46 #[.pointer (some ⟨g, 0, none⟩), .string ⟨p.toArray⟩, .string ⟨q.toArray⟩] W fun e w' => e = .returned (.tuple #[.agg #[.string ⟨r1.toArray⟩, .string ⟨r2.toArray⟩], .int .i64 code]) ∧ Below W0.heap.size W0 w') :
    Calls Tryz.prog 33 #[.agg #[.string ⟨a1.toArray⟩, .string ⟨a2.toArray⟩], .agg #[.string ⟨b1.toArray⟩, .string ⟨b2.toArray⟩]] w fun e w' => e = .returned (.tuple #[.agg #[.string ⟨r1.toArray⟩, .string ⟨r2.toArray⟩], .int .i64 code]) ∧ Below w.heap.size w w' := by
  have hb := bNew (bNew (bNewW w (.cells #[.string ⟨a1.toArray⟩, .string ⟨a2.toArray⟩] 23)) (.cells #[.string ⟨b1.toArray⟩, .string ⟨b2.toArray⟩] 23)) (.cells #[.string ⟨#[]⟩, .string ⟨#[]⟩] 23)
  have BA := ((Bx.mk w 23 #[.string ⟨a1.toArray⟩, .string ⟨a2.toArray⟩]).new (.cells #[.string ⟨b1.toArray⟩, .string ⟨b2.toArray⟩] 23)).new (.cells #[.string ⟨#[]⟩, .string ⟨#[]⟩] 23)
  have BB := (Bx.mk (w.alloc (.cells #[.string ⟨a1.toArray⟩, .string ⟨a2.toArray⟩] 23)) 23 #[.string ⟨b1.toArray⟩, .string ⟨b2.toArray⟩]).new (.cells #[.string ⟨#[]⟩, .string ⟨#[]⟩] 23)
  have BR := Bx.mk ((w.alloc (.cells #[.string ⟨a1.toArray⟩, .string ⟨a2.toArray⟩] 23)).alloc (.cells #[.string ⟨b1.toArray⟩, .string ⟨b2.toArray⟩] 23)) 23 #[.string ⟨#[]⟩, .string ⟨#[]⟩]
  rw [alloc_size] at BB
  rw [alloc_size, alloc_size] at BR
  have hE1 := hE.below hb
  have hsz : (((w.alloc (.cells #[.string ⟨a1.toArray⟩, .string ⟨a2.toArray⟩] 23)).alloc (.cells #[.string ⟨b1.toArray⟩, .string ⟨b2.toArray⟩] 23)).alloc (.cells #[.string ⟨#[]⟩, .string ⟨#[]⟩] 23)).heap.size = w.heap.size + 3 := by rw [alloc_size, alloc_size, alloc_size]
  have cA0 := BA.cell 0 rfl
  have cA1 := BA.cell 1 rfl
  have cB0 := BB.cell 0 rfl
  have cB1 := BB.cell 1 rfl
  have hC := two_check a1 a2 b1 b2 _ _ hsz la1 la2 lb1 lb2 hE1
  clear la1 la2 lb1 lb2
  go_enter Tryz.func33, Tryz.ntmps33
  go_wp2_with fail
  generalize (((w.alloc (.cells #[.string ⟨a1.toArray⟩, .string ⟨a2.toArray⟩] 23)).alloc (.cells #[.string ⟨b1.toArray⟩, .string ⟨b2.toArray⟩] 23)).alloc (.cells #[.string ⟨#[]⟩, .string ⟨#[]⟩] 23)) = W0 at *
  replace hsz := Kp.mk hsz
  refine hC.mono ?_
  rintro _ w1 ⟨⟨v, rfl⟩, hw1⟩
  clear hC cA0 cA1 cB0 cB1
  have cA0 := ((BA.below hw1.hb BA.lt)).cell 0 rfl
  have cA1 := ((BA.below hw1.hb BA.lt)).cell 1 rfl
  have cB0 := ((BB.below hw1.hb BB.lt)).cell 0 rfl
  have cB1 := ((BB.below hw1.hb BB.lt)).cell 1 rfl
  go_wp2_with fail
  refine (hX1 W0 _ _ hE1 hw1).mono ?_
  rintro _ w2 ⟨rfl, hw2⟩
  clear hX1 hw1 cA0 cA1 cB0 cB1
  have cA0 := ((BA.below hw2.hb BA.lt)).cell 0 rfl
  have cA1 := ((BA.below hw2.hb BA.lt)).cell 1 rfl
  have cB0 := ((BB.below hw2.hb BB.lt)).cell 0 rfl
  have cB1 := ((BB.below hw2.hb BB.lt)).cell 1 rfl
  go_wp2_with fail
  refine (hX2 W0 _ _ hE1 hw2).mono ?_
  rintro _ w3 ⟨rfl, hw3⟩
  clear hX2 hw2 cA0 cA1 cB0 cB1
  go_wp2_with fail
  refine (hX3 W0 _ _ hE1 hw3).mono ?_
  rintro _ w4 ⟨rfl, hb4⟩
  clear hX3 hw3
  have B := BR.below hb4 BR.lt
  have hb5 := hb.trans (hb4.mono hb.size)
  clear BR hb4 hb BA BB
  have r0 := B.cell 0 rfl
  have q1 := B.cell 1 rfl
  have f0 := B.frozen 0
  have f1 := B.frozen 1
  have B2 := (B.set 0 (.string ⟨r1.toArray⟩)).set 1 (.string ⟨r2.toArray⟩)
  have hb2 := bSet (bSet hb5 (p := ⟨w.heap.size + 1 + 1, 0, none⟩) (by show w.heap.size ≤ w.heap.size + 1 + 1; omega) (.string ⟨r1.toArray⟩)) (p := ⟨w.heap.size + 1 + 1, 1, none⟩) (by show w.heap.size ≤ w.heap.size + 1 + 1; omega) (.string ⟨r2.toArray⟩)
  go_wp2
  exact bodyPost_ret (results_Q rfl _ _ rfl rfl B2) rfl ⟨rfl, hb2⟩
set_option maxRecDepth 100000 in
set_option maxHeartbeats 4000000 in
theorem Div_walk (a1 a2 b1 b2 p q r1 r2 : List UInt8) (code : Int) (c1 c2 : Bool) (w : World) (hE : Env w) (la1 : a1.length ≤ 1000000) (la2 : a2.length ≤ 1000000) (lb1 : b1.length ≤ 1000000) (lb2 : b2.length ≤ 1000000)
    (hX1 : ∀ W0 W g, Env W0 → Wk W0 W g (!Rq.okB a1 a2 || !Rq.okB b1 b2) → Calls Tryz.prog 55 #[.pointer (some ⟨g, 0, none⟩), .string ⟨a1.toArray⟩, .string ⟨b2.toArray⟩] W fun e w' => e = .returned (.string ⟨p.toArray⟩) ∧ Wk W0 w' g c1)
    (hX2 : ∀ W0 W g, Env W0 → Wk W0 W g c1 → Calls Tryz.prog 55 #[.pointer (some ⟨g, 0, none⟩), .string ⟨a2.toArray⟩, .string ⟨b1.toArray⟩] W fun e w' => e = .returned (.string ⟨q.toArray⟩) ∧ Wk W0 w' g c2)
    (hX3 : ∀ W0 W g, Env W0 → Wk W0 W g c2 → Calls Tryz.prog 46 #[.pointer (some ⟨g, 0, none⟩), .string ⟨p.toArray⟩, .string ⟨q.toArray⟩] W fun e w' => e = .returned (.tuple #[.agg #[.string ⟨r1.toArray⟩, .string ⟨r2.toArray⟩], .int .i64 code]) ∧ Below W0.heap.size W0 w') :
    Calls Tryz.prog 28 #[.agg #[.string ⟨a1.toArray⟩, .string ⟨a2.toArray⟩], .agg #[.string ⟨b1.toArray⟩, .string ⟨b2.toArray⟩]] w fun e w' => e = .returned (.tuple #[.agg #[.string ⟨r1.toArray⟩, .string ⟨r2.toArray⟩], .int .i64 code]) ∧ Below w.heap.size w w' := by
  have hb := bNew (bNew (bNewW w (.cells #[.string ⟨a1.toArray⟩, .string ⟨a2.toArray⟩] 23)) (.cells #[.string ⟨b1.toArray⟩, .string ⟨b2.toArray⟩] 23)) (.cells #[.string ⟨#[]⟩, .string ⟨#[]⟩] 23)
  have BA := ((Bx.mk w 23 #[.string ⟨a1.toArray⟩, .string ⟨a2.toArray⟩]).new (.cells #[.string ⟨b1.toArray⟩, .string ⟨b2.toArray⟩] 23)).new (.cells #[.string ⟨#[]⟩, .string ⟨#[]⟩] 23)
  have BB := (Bx.mk (w.alloc (.cells #[.string ⟨a1.toArray⟩, .string ⟨a2.toArray⟩] 23)) 23 #[.string ⟨b1.toArray⟩, .string ⟨b2.toArray⟩]).new (.cells #[.string ⟨#[]⟩, .string ⟨#[]⟩] 23)
  have BR := Bx.mk ((w.alloc (.cells #[.string ⟨a1.toArray⟩, .string ⟨a2.toArray⟩] 23)).alloc (.cells #[.string ⟨b1.toArray⟩, .string ⟨b2.toArray⟩] 23)) 23 #[.string ⟨#[]⟩, .string ⟨#[]⟩]
  rw [alloc_size] at BB
  rw [alloc_size, alloc_size] at BR
  have hE1 := hE.below hb
  have hsz : (((w.alloc (.cells #[.string ⟨a1.toArray⟩, .string ⟨a2.toArray⟩] 23)).alloc (.cells #[.string ⟨b1.toArray⟩, .string ⟨b2.toArray⟩] 23)).alloc (.cells #[.string ⟨#[]⟩, .string ⟨#[]⟩] 23)).heap.size = w.heap.size + 3 := by rw [alloc_size, alloc_size, alloc_size]
  have cA0 := BA.cell 0 rfl
  have cA1 := BA.cell 1 rfl
  have cB0 := BB.cell 0 rfl
  have cB1 := BB.cell 1 rfl
  have hC := two_check a1 a2 b1 b2 _ _ hsz la1 la2 lb1 lb2 hE1
  clear la1 la2 lb1 lb2
  go_enter Tryz.func28, Tryz.ntmps28
  go_wp2_with fail
  generalize (((w.alloc (.cells #[.string ⟨a1.toArray⟩, .string ⟨a2.toArray⟩] 23)).alloc (.cells #[.string ⟨b1.toArray⟩, .string ⟨b2.toArray⟩] 23)).alloc (.cells #[.string ⟨#[]⟩, .string ⟨#[]⟩] 23)) = W0 at *
  replace hsz := Kp.mk hsz
  refine hC.mono ?_
  rintro _ w1 ⟨⟨v, rfl⟩, hw1⟩
  clear hC cA0 cA1 cB0 cB1
  have cA0 := ((BA.below hw1.hb BA.lt)).cell 0 rfl
  have cA1 := ((BA.below hw1.hb BA.lt)).cell 1 rfl
  have cB0 := ((BB.below hw1.hb BB.lt)).cell 0 rfl
  have cB1 := ((BB.below hw1.hb BB.lt)).cell 1 rfl
  go_wp2_with fail
  refine (hX1 W0 _ _ hE1 hw1).mono ?_
  rintro _ w2 ⟨rfl, hw2⟩
  clear hX1 hw1 cA0 cA1 cB0 cB1
  have cA0 := ((BA.below hw2.hb BA.lt)).cell 0 rfl
  have cA1 := ((BA.below hw2.hb BA.lt)).cell 1 rfl
  have cB0 := ((BB.below hw2.hb BB.lt)).cell 0 rfl
  have cB1 := ((BB.below hw2.hb BB.lt)).cell 1 rfl
  go_wp2_with fail
  refine (hX2 W0 _ _ hE1 hw2).mono ?_
  rintro _ w3 ⟨rfl, hw3⟩
  clear hX2 hw2 cA0 cA1 cB0 cB1
  go_wp2_with fail
  refine (hX3 W0 _ _ hE1 hw3).mono ?_
  rintro _ w4 ⟨rfl, hb4⟩
  clear hX3 hw3
  have B := BR.below hb4 BR.lt
  have hb5 := hb.trans (hb4.mono hb.size)
  clear BR hb4 hb BA BB
  have r0 := B.cell 0 rfl
  have q1 := B.cell 1 rfl
  have f0 := B.frozen 0
  have f1 := B.frozen 1
  have B2 := (B.set 0 (.string ⟨r1.toArray⟩)).set 1 (.string ⟨r2.toArray⟩)
  have hb2 := bSet (bSet hb5 (p := ⟨w.heap.size + 1 + 1, 0, none⟩) (by show w.heap.size ≤ w.heap.size + 1 + 1; omega) (.string ⟨r1.toArray⟩)) (p := ⟨w.heap.size + 1 + 1, 1, none⟩) (by show w.heap.size ≤ w.heap.size + 1 + 1; omega) (.string ⟨r2.toArray⟩)
  go_wp2
  exact bodyPost_ret (results_Q rfl _ _ rfl rfl B2) rfl ⟨rfl, hb2⟩
end Go.Proofs.YthnikbladjaifaaGreatDoor
namespace Go.Proofs.YthnikbladjaifaaGreatDoor
set_option linter.unusedVariables false
set_option linter.unusedSimpArgs false
open Go.RowKit Go.Shelf
theorem fits_len' {z : Int} (h : Ig.fits z) : (Lib.itoa z).length ≤ 1000000 := fits_small h
section
variable (w : World) (hE : Env w)
theorem reduced_bad' (n d : List UInt8) (w0 W : World) (g : Nat) (h : Wk w0 W g true) :
    Calls Tryz.prog 46 #[.pointer (some ⟨g, 0, none⟩), .string ⟨n.toArray⟩, .string ⟨d.toArray⟩] W fun e w' => e = .returned (.tuple #[.agg #[.string ⟨([] : List UInt8).toArray⟩, .string ⟨([] : List UInt8).toArray⟩], .int .i64 40]) ∧ Below w0.heap.size w0 w' :=
  reduced_bad n d w0 W g h
theorem QMul_not (a1 a2 b1 b2 : List UInt8) (w : World) (hE : Env w) (la1 : a1.length ≤ 1000000) (la2 : a2.length ≤ 1000000) (lb1 : b1.length ≤ 1000000) (lb2 : b2.length ≤ 1000000) (h : Rq.okB a1 a2 = false ∨ Rq.okB b1 b2 = false) :
    Calls Tryz.prog 33 #[.agg #[.string ⟨a1.toArray⟩, .string ⟨a2.toArray⟩], .agg #[.string ⟨b1.toArray⟩, .string ⟨b2.toArray⟩]] w fun e w' => e = .returned (.tuple #[QZ, .int .i64 40]) ∧ Below w.heap.size w w' := by
  have hb : (!Rq.okB a1 a2 || !Rq.okB b1 b2) = true := by rcases h with h | h <;> simp [h]
  refine Mul_walk a1 a2 b1 b2 [] [] [] [] 40 true true w hE la1 la2 lb1 lb2 ?_ ?_ ?_
  · rw [hb]; exact fun W0 W g _ h => mul_bad' _ _ W0 W g h
  · exact fun W0 W g _ h => mul_bad' _ _ W0 W g h
  · exact fun W0 W g _ h => reduced_bad' _ _ W0 W g h
theorem QDiv_not (a1 a2 b1 b2 : List UInt8) (w : World) (hE : Env w) (la1 : a1.length ≤ 1000000) (la2 : a2.length ≤ 1000000) (lb1 : b1.length ≤ 1000000) (lb2 : b2.length ≤ 1000000) (h : Rq.okB a1 a2 = false ∨ Rq.okB b1 b2 = false) :
    Calls Tryz.prog 28 #[.agg #[.string ⟨a1.toArray⟩, .string ⟨a2.toArray⟩], .agg #[.string ⟨b1.toArray⟩, .string ⟨b2.toArray⟩]] w fun e w' => e = .returned (.tuple #[QZ, .int .i64 40]) ∧ Below w.heap.size w w' := by
  have hb : (!Rq.okB a1 a2 || !Rq.okB b1 b2) = true := by rcases h with h | h <;> simp [h]
  refine Div_walk a1 a2 b1 b2 [] [] [] [] 40 true true w hE la1 la2 lb1 lb2 ?_ ?_ ?_
  · rw [hb]; exact fun W0 W g _ h => mul_bad' _ _ W0 W g h
  · exact fun W0 W g _ h => mul_bad' _ _ W0 W g h
  · exact fun W0 W g _ h => reduced_bad' _ _ W0 W g h
end
section
variable (a b : Rat) (w : World)
theorem QMul_good (hE : Env w) (ha : Rq.Fq a) (hb : Rq.Fq b) (hn : Ig.fits (a.num * b.num)) (hd : Ig.fits ((a.den : Int) * b.den)) :
    Calls Tryz.prog 33 #[QV a, QV b] w fun e w' => e = .returned (.tuple #[QV (a * b), .int .i64 0]) ∧ Below w.heap.size w w' := by
  have hk : (!Rq.okB (Lib.itoa a.num) (Lib.itoa (a.den : Int)) || !Rq.okB (Lib.itoa b.num) (Lib.itoa (b.den : Int))) = false := by rw [Rq.okB_q ha, Rq.okB_q hb]; rfl
  refine Mul_walk _ _ _ _ (Lib.itoa (a.num * b.num)) (Lib.itoa ((a.den : Int) * b.den)) (Lib.itoa (a * b).num) (Lib.itoa ((a * b).den : Int)) 0 false false w hE (fits_len' ha.num) (fits_len' ha.den) (fits_len' hb.num) (fits_len' hb.den) ?_ ?_ ?_
  · rw [hk]; exact fun W0 W g hE h => (mul_good _ _ W0 W g ha.num hb.num hn hE h).mono fun _ _ ⟨h1, h2, _⟩ => ⟨h1, h2⟩
  · exact fun W0 W g hE h => (mul_good _ _ W0 W g ha.den hb.den hd hE h).mono fun _ _ ⟨h1, h2, _⟩ => ⟨h1, h2⟩
  · intro W0 W g hE h
    have := reduced_good _ _ W0 W g hn hd (Int.mul_ne_zero (Rq.den_ne' a) (Rq.den_ne' b)) hE h
    rw [Rq.mul_is] at this
    exact this
theorem QMul_over (hE : Env w) (ha : Rq.Fq a) (hb : Rq.Fq b) (hn : ¬ (Ig.fits (a.num * b.num) ∧ Ig.fits ((a.den : Int) * b.den))) :
    Calls Tryz.prog 33 #[QV a, QV b] w fun e w' => e = .returned (.tuple #[QZ, .int .i64 40]) ∧ Below w.heap.size w w' := by
  have hk : (!Rq.okB (Lib.itoa a.num) (Lib.itoa (a.den : Int)) || !Rq.okB (Lib.itoa b.num) (Lib.itoa (b.den : Int))) = false := by rw [Rq.okB_q ha, Rq.okB_q hb]; rfl
  by_cases h1 : Ig.fits (a.num * b.num)
  · have h2 : ¬ Ig.fits ((a.den : Int) * b.den) := fun h => hn ⟨h1, h⟩
    refine Mul_walk _ _ _ _ (Lib.itoa (a.num * b.num)) [] [] [] 40 false true w hE (fits_len' ha.num) (fits_len' ha.den) (fits_len' hb.num) (fits_len' hb.den) ?_ ?_ ?_
    · rw [hk]; exact fun W0 W g hE h => (mul_good _ _ W0 W g ha.num hb.num h1 hE h).mono fun _ _ ⟨h1, h2, _⟩ => ⟨h1, h2⟩
    · exact fun W0 W g hE h => (mul_over _ _ W0 W g ha.den hb.den h2 hE h).mono fun _ _ ⟨h1, h2, _⟩ => ⟨h1, h2⟩
    · exact fun W0 W g _ h => reduced_bad' _ _ W0 W g h
  · refine Mul_walk _ _ _ _ [] [] [] [] 40 true true w hE (fits_len' ha.num) (fits_len' ha.den) (fits_len' hb.num) (fits_len' hb.den) ?_ ?_ ?_
    · rw [hk]; exact fun W0 W g hE h => (mul_over _ _ W0 W g ha.num hb.num h1 hE h).mono fun _ _ ⟨h1, h2, _⟩ => ⟨h1, h2⟩
    · exact fun W0 W g _ h => mul_bad' _ _ W0 W g h
    · exact fun W0 W g _ h => reduced_bad' _ _ W0 W g h
theorem QDiv_good (hE : Env w) (ha : Rq.Fq a) (hb : Rq.Fq b) (hn : Ig.fits (a.num * b.den)) (hd : Ig.fits ((a.den : Int) * b.num)) (h0 : b ≠ 0) :
    Calls Tryz.prog 28 #[QV a, QV b] w fun e w' => e = .returned (.tuple #[QV (a / b), .int .i64 0]) ∧ Below w.heap.size w w' := by
  have hk : (!Rq.okB (Lib.itoa a.num) (Lib.itoa (a.den : Int)) || !Rq.okB (Lib.itoa b.num) (Lib.itoa (b.den : Int))) = false := by rw [Rq.okB_q ha, Rq.okB_q hb]; rfl
  have hb0 : b.num ≠ 0 := fun h => h0 (Rat.num_eq_zero.1 h)
  refine Div_walk _ _ _ _ (Lib.itoa (a.num * b.den)) (Lib.itoa ((a.den : Int) * b.num)) (Lib.itoa (a / b).num) (Lib.itoa ((a / b).den : Int)) 0 false false w hE (fits_len' ha.num) (fits_len' ha.den) (fits_len' hb.num) (fits_len' hb.den) ?_ ?_ ?_
  · rw [hk]; exact fun W0 W g hE h => (mul_good _ _ W0 W g ha.num hb.den hn hE h).mono fun _ _ ⟨h1, h2, _⟩ => ⟨h1, h2⟩
  · exact fun W0 W g hE h => (mul_good _ _ W0 W g ha.den hb.num hd hE h).mono fun _ _ ⟨h1, h2, _⟩ => ⟨h1, h2⟩
  · intro W0 W g hE h
    have := reduced_good _ _ W0 W g hn hd (Int.mul_ne_zero (Rq.den_ne' a) hb0) hE h
    rw [Rq.div_is] at this
    exact this
theorem QDiv_over (hE : Env w) (ha : Rq.Fq a) (hb : Rq.Fq b) (hn : ¬ (Ig.fits (a.num * b.den) ∧ Ig.fits ((a.den : Int) * b.num)) ∨ b = 0) :
    Calls Tryz.prog 28 #[QV a, QV b] w fun e w' => e = .returned (.tuple #[QZ, .int .i64 40]) ∧ Below w.heap.size w w' := by
  have hk : (!Rq.okB (Lib.itoa a.num) (Lib.itoa (a.den : Int)) || !Rq.okB (Lib.itoa b.num) (Lib.itoa (b.den : Int))) = false := by rw [Rq.okB_q ha, Rq.okB_q hb]; rfl
  by_cases h1 : Ig.fits (a.num * b.den)
  · by_cases h2 : Ig.fits ((a.den : Int) * b.num)
    · have h0 : b = 0 := by
        rcases hn with h | h
        · exact absurd ⟨h1, h2⟩ h
        · exact h
      have e : (a.den : Int) * b.num = 0 := by rw [h0]; exact Int.mul_zero _
      refine Div_walk _ _ _ _ (Lib.itoa (a.num * b.den)) (Lib.itoa ((a.den : Int) * b.num)) [] [] 40 false false w hE (fits_len' ha.num) (fits_len' ha.den) (fits_len' hb.num) (fits_len' hb.den) ?_ ?_ ?_
      · rw [hk]; exact fun W0 W g hE h => (mul_good _ _ W0 W g ha.num hb.den h1 hE h).mono fun _ _ ⟨h1, h2, _⟩ => ⟨h1, h2⟩
      · exact fun W0 W g hE h => (mul_good _ _ W0 W g ha.den hb.num h2 hE h).mono fun _ _ ⟨h1, h2, _⟩ => ⟨h1, h2⟩
      · intro W0 W g hE h
        rw [e, itoa_0]
        exact reduced_zero _ W0 W g h
    · refine Div_walk _ _ _ _ (Lib.itoa (a.num * b.den)) [] [] [] 40 false true w hE (fits_len' ha.num) (fits_len' ha.den) (fits_len' hb.num) (fits_len' hb.den) ?_ ?_ ?_
      · rw [hk]; exact fun W0 W g hE h => (mul_good _ _ W0 W g ha.num hb.den h1 hE h).mono fun _ _ ⟨h1, h2, _⟩ => ⟨h1, h2⟩
      · exact fun W0 W g hE h => (mul_over _ _ W0 W g ha.den hb.num h2 hE h).mono fun _ _ ⟨h1, h2, _⟩ => ⟨h1, h2⟩
      · exact fun W0 W g _ h => reduced_bad' _ _ W0 W g h
  · refine Div_walk _ _ _ _ [] [] [] [] 40 true true w hE (fits_len' ha.num) (fits_len' ha.den) (fits_len' hb.num) (fits_len' hb.den) ?_ ?_ ?_
    · rw [hk]; exact fun W0 W g hE h => (mul_over _ _ W0 W g ha.num hb.den h1 hE h).mono fun _ _ ⟨h1, h2, _⟩ => ⟨h1, h2⟩
    · exact fun W0 W g _ h => mul_bad' _ _ W0 W g h
    · exact fun W0 W g _ h => reduced_bad' _ _ W0 W g h
end
end Go.Proofs.YthnikbladjaifaaGreatDoor
namespace Rq
theorem itoa_pow (k : Nat) : Go.Lib.itoa ((10 ^ k : Nat) : Int) = 49 :: List.replicate k 48 := by
  rw [Ig.itoa_nonneg (Int.natCast_nonneg _), Int.natAbs_natCast]
  induction k with
  | zero => decide +kernel
  | succ k ih =>
    have hpos : 0 < 10 ^ k := Nat.pow_pos (by decide)
    rw [Ig.dec_big (by rw [Nat.pow_succ]; omega), show 10 ^ (k + 1) / 10 = 10 ^ k by rw [Nat.pow_succ]; omega, show 10 ^ (k + 1) % 10 = 0 by rw [Nat.pow_succ]; omega, ih]
    rw [List.replicate_succ']
    rfl
theorem fits_pow {k : Nat} (h : k < 200) : Ig.fits ((10 ^ k : Nat) : Int) := by
  unfold Ig.fits
  rw [Int.natAbs_natCast]
  exact Nat.pow_lt_pow_right (by decide) h
theorem fits_next {n d : Int} (hn : Ig.fits n) (hd : 0 < d) (hr : n % d ≠ 0) : Ig.fits (n / d + 1) := by
  have hd2 : 2 ≤ d := by
    rcases Int.lt_or_le d 2 with h | h
    · obtain rfl : d = 1 := by omega
      exact absurd (Int.emod_one n) hr
    · exact h
  have h1 := Int.mul_ediv_add_emod n d
  have h2 := Int.emod_nonneg n (show d ≠ 0 by omega)
  have h3 := Int.emod_lt_of_pos n hd
  unfold Ig.fits at *
  have h4 : (n / d + 1).natAbs ≤ n.natAbs := by
    rcases Int.lt_or_le (n / d) 0 with h | h
    · have := Int.natAbs_ediv_le_natAbs n d
      omega
    · have : 2 * (n / d) ≤ d * (n / d) := Int.mul_le_mul_of_nonneg_right hd2 h
      omega
  omega
end Rq

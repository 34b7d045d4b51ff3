/- pieces of dialtoneref37. -/
import Derived.Test.YtfebcokmnhdbmaaGreatDoorTRefC
import Derived.Test.YtfebcokmnhdbmaaGreatDoorTBord
import Derived.Test.YtfebcokmnhdbmaaGreatDoorTPieP
import Derived.Test.YtfebcokmnhdbmaaGreatDoorQ05
import Derived.Test.YtfebcokmnhdbmaaGreatDoorQ07
namespace Go.Proofs.YtfebcokmnhdbmaaGreatDoor
set_option linter.unusedVariables false
set_option linter.unusedSimpArgs false
open Go.RowKit Go.Shelf
theorem RowZ.weaken {e : TypeId} {size B B' n : Nat} {flat : List Value} {v : Value} {W : World} (h : RowZ e size B n flat v W) (hB : B' ≤ B) : RowZ e size B' n flat v W := by
  rcases h with h | ⟨cap, ⟨g, cells, h1, h2, h3⟩, hm⟩
  · exact .inl h
  · exact .inr ⟨cap, ⟨g, cells, h1, Nat.le_trans hB h2, h3⟩, hm⟩
set_option maxRecDepth 100000 in
set_option maxHeartbeats 8000000 in
theorem pieces_any (base : Int) (L : List Tp.Rate) (A : Option Addr) (cap : Nat) (off a b : Int) (w : World) (hT : Tar w base L A cap) (hv : Tp.valid base L = true) (ho : -50400 ≤ off ∧ off ≤ 50400) (h0 : 0 ≤ a) (hab : a ≤ b) (hb7 : b ≤ 15000000) :
    Calls Tryz.prog 62 #[.agg #[.slice A L.length cap, .int .i64 base], .int .i64 off, .agg #[.int .i64 a, .int .i64 b]] w fun e w' => (∃ l v, e = .returned v ∧ Tp.Chain (Tp.price base L off) a l b ∧ RowZ 64 3 (w.heap.size + 2) l.length (l.flatMap pcC) v w') ∧ Below w.heap.size w w' := by
  have hok := (Tp.valid_iff.1 hv).2.2
  have hB := Tp.bds_l hok (Tp.valid_iff.1 hv).2.1
  have hb := bNew (bNewW w (.cells #[.slice A L.length cap, .int .i64 base] 26)) (.cells #[.int .i64 a, .int .i64 b] 28)
  have BX := (Bx.mk w 26 #[.slice A L.length cap, .int .i64 base]).new (.cells #[.int .i64 a, .int .i64 b] 28)
  have BS := Bx.mk (w.alloc (.cells #[.slice A L.length cap, .int .i64 base] 26)) 28 #[.int .i64 a, .int .i64 b]
  rw [alloc_size] at BS
  have hBo := Borders_any base L A cap _ (hT.call hb) hv
  have c0 := BX.cell 0 rfl
  have c1 := BX.cell 1 rfl
  obtain ⟨o1, o2⟩ := ho
  go_enter Tryz.func62, Tryz.ntmps62
  go_wp2_with fail
  refine hBo.mono ?_
  rintro _ w1 ⟨⟨v8, rfl, b8, o8, c8, rfl, hA8, hle8, hcm8⟩, hb1⟩
  have hn := hb.size
  replace hb := bCall hb hb1
  replace BX := BX.call hb1
  replace BS := BS.call hb1
  clear hBo c0 c1 hb1
  have hlen := hB.len
  have hlen2 := hB.len2
  obtain ⟨b8', o8', e8, hb8, hc8⟩ := hA8 (by omega)
  cases e8
  have cB : ∀ m, (h : m < (Tp.bds L).length) → ∀ W, Below w1.heap.size w1 W → W.cell? ⟨b8, o8 + m, none⟩ = some (.int .i64 (Tp.bds L)[m]) := fun m h W hW => (hW.cell (p := ⟨b8, o8 + m, none⟩) hb8).trans (by have := hc8 m _ (List.getElem?_eq_getElem h) 0 _ rfl; simpa using this)
  clear hc8 hA8
  replace cB := Kp.mk cB
  have hT1 := hT.call hb
  generalize Tp.bds L = bl at *
  obtain ⟨st0, hst0⟩ : ∃ s, a - (a + off + 604800) % 86400 = s := ⟨_, rfl⟩
  have hal0 : (st0 + off + 604800) % 86400 = 0 ∧ st0 ≤ a ∧ a - 86400 < st0 := by omega
  have hc0 : Kp (Tp.Chain (Tp.price base L off) a [] (Tp.cl a b st0)) := ⟨by show a = Tp.cl a b st0; unfold Tp.cl; omega⟩
  have s0 := BS.cell 0 rfl
  have hsz1 : w.heap.size + 2 ≤ w1.heap.size := by have := BS.lt; omega
  go_wp2_with fail
  clear s0 hst0
  go_loopw [8, 9] (fun s8 s9 wr => ∃ (st : Int) (l : List Tp.Pc), s9 = .int .i64 st ∧ RowZ 64 3 w1.heap.size l.length (l.flatMap pcC) s8 wr ∧ Kp (Tp.Chain (Tp.price base L off) a l (Tp.cl a b st)) ∧ Kp ((st + off + 604800) % 86400 = 0) ∧ a - 86400 < st ∧ st < b + 86401 ∧ Below w1.heap.size w1 wr) (fun _ s9 _ => (b + 86401 - intOf s9).toNat)
  case atStart => exact ⟨st0, [], rfl, .inl ⟨rfl, rfl, rfl⟩, hc0, ⟨hal0.1⟩, hal0.2.2, by omega, Below.refl _ _⟩
  case round =>
    clear hc0 hal0
    obtain ⟨st, l, rfl, hrow, hch, hal, hs1, hs2, hbw⟩ := hrel
    have s1 := (BS.below hbw BS.lt).cell 1 rfl
    by_cases hlt : st < b
    · have tk : decide (st < b) = true := by simp; omega
      have hdy0 : 0 ≤ (st + off + 604800) / 86400 % 7 ∧ (st + off + 604800) / 86400 % 7 < 7 := by omega
      have hrel0 : Kp (Tp.Chain (Tp.price base L off) a l (Tp.cl a b (st + bl[0]'(by omega)))) := ⟨by rw [hB.first, Int.add_zero]; exact hch.out⟩
      go_wp2_with fail
      clear s1
      go_loopw [8, 11] (fun s8 s11 wr2 => ∃ (k : Nat) (hk : k < bl.length) (l : List Tp.Pc), s11 = .int .i64 k ∧ RowZ 64 3 w1.heap.size l.length (l.flatMap pcC) s8 wr2 ∧ Kp (Tp.Chain (Tp.price base L off) a l (Tp.cl a b (st + bl[k]))) ∧ Below w1.heap.size w1 wr2) (fun _ s11 _ => bl.length - (intOf s11).toNat)
      case atStart => exact ⟨0, by omega, l, rfl, hrow, hrel0, hbw⟩
      case round =>
        clear hrow hrel0 hbw hch
        obtain ⟨k, hk, l, rfl, hrow, hch, hbw⟩ := hrel
        by_cases hk1 : k + 1 < bl.length
        · have tk1 : decide ((k : Int) + 1 < (bl.length : Int)) = true := by simp; omega
          have hstep := Kp.mk (Tp.piece_step hB hk1 hab hal.out (by omega) hch.out)
          have rg1 := hB.rg bl[k] (List.getElem_mem hk)
          have rg2 := hB.rg bl[k + 1] (List.getElem_mem hk1)
          have rg3 : bl[k] < bl[k + 1] := hB.lt (Nat.lt_succ_self k) hk1
          have cA := fun W (hW : Below wr.heap.size wr W) => cB.out k hk W (hbw.trans (hW.mono hbw.size))
          have cC := fun W (hW : Below wr.heap.size wr W) => cB.out (k + 1) hk1 W (hbw.trans (hW.mono hbw.size))
          generalize bl[k] = x1 at *
          generalize hx2 : bl[k + 1] = x2 at *
          replace hx2 := Kp.mk hx2
          obtain ⟨pr, hpr⟩ := exK (Tp.rated base L (86400 * ((st + off + 604800) / 86400 % 7) + x1))
          obtain ⟨ff, hfr⟩ : ∃ m, max (st + x1) a = m := ⟨_, rfl⟩
          obtain ⟨tt, hto⟩ : ∃ m, min (st + x2) b = m := ⟨_, rfl⟩
          have hfb : -100000 ≤ ff ∧ ff ≤ 20000000 := by omega
          have htb : -100000 ≤ tt ∧ tt ≤ 20000000 := by omega
          rw [hfr, hto, hpr.out] at hstep
          go_upto_region 10 with fail
          have BSr := BS.below hbw BS.lt
          have hszr := hbw.size
          refine RS.wp_region_rgl (RS.cls_KF (wr.heap.size) 28 #[.int .i64 ff, .int .i64 tt]) [(21, 20)] [RS.Eqv (.int .i64 st), RS.Eqv (.slice (some ⟨b8, o8, none⟩) bl.length c8), RS.Eqv (.int .i64 k), RS.Eqv (.pointer (some ⟨b8, o8 + k, none⟩)), RS.Eqv (.int .i64 x1), RS.Eqv (.int .i64 (st + x1)), RS.Eqv (.pointer (some ⟨w.heap.size + 1, 0, none⟩)), RS.Eqv (.int .i64 a), RS.Eqv (.int .i64 ff), RS.Eqv (.int .i64 st), RS.Eqv (.slice (some ⟨b8, o8, none⟩) bl.length c8), RS.Eqv (.int .i64 k), RS.Eqv (.int .i64 (↑k + 1)), RS.Eqv (.pointer (some ⟨b8, o8 + (k + 1), none⟩)), RS.Eqv (.int .i64 x2), RS.Eqv (.int .i64 (st + x2)), RS.Eqv (.pointer (some ⟨w.heap.size + 1, 1, none⟩)), RS.Eqv (.int .i64 b), RS.Eqv (.int .i64 tt), RS.Eqv (.agg #[.int .i64 ff, .int .i64 tt]), RS.PtrR (wr.heap.size) 28 #[.int .i64 ff, .int .i64 tt], RS.StoR (wr.heap.size) 28 #[.int .i64 ff, .int .i64 tt]] 22 81 (by kernel_rfl) rfl rfl (by kernel_rfl) (by kernel_rfl) ?_ ?_ ?_
          · simp only [RS.AllS]
            exact ⟨RS.stab_eqv _, RS.stab_eqv _, RS.stab_eqv _, RS.stab_eqv _, RS.stab_eqv _, RS.stab_eqv _, RS.stab_eqv _, RS.stab_eqv _, RS.stab_eqv _, RS.stab_eqv _, RS.stab_eqv _, RS.stab_eqv _, RS.stab_eqv _, RS.stab_eqv _, RS.stab_eqv _, RS.stab_eqv _, RS.stab_eqv _, RS.stab_eqv _, RS.stab_eqv _, RS.stab_eqv _, RS.stab_ptr _ _ _, RS.stab_sto _ _ _, trivial⟩
          · simp only [RS.UsersG, List.take, List.length]
            refine ⟨?_, ?_, ?_, ?_, ?_, ?_, ?_, ?_, ?_, ?_, ?_, ?_, ?_, ?_, ?_, ?_, ?_, ?_, ?_, ?_, ?_, ?_, trivial⟩
            all_goals (intro vs w2 hb2 hd; simp only [RS.putD, Act.put, List.nil_append, List.cons_append, List.setIfInBounds_toArray, List.set_cons_succ, List.set_cons_zero, Nat.reduceAdd])
            · clear hd cA cC; go_wp2; first | exact ⟨RS.KF.rf _ _ _ _, rfl⟩ | exact ⟨RS.KF.rf _ _ _ _, by simp [RS.Eqv]⟩ | (simp [RS.Eqv])
            · clear hd cA cC; go_wp2; first | exact ⟨RS.KF.rf _ _ _ _, rfl⟩ | exact ⟨RS.KF.rf _ _ _ _, by simp [RS.Eqv]⟩ | (simp [RS.Eqv])
            · clear hd cA cC; go_wp2; first | exact ⟨RS.KF.rf _ _ _ _, rfl⟩ | exact ⟨RS.KF.rf _ _ _ _, by simp [RS.Eqv]⟩ | (simp [RS.Eqv])
            · have e0 := hd 1 rfl; change vs 1 = _ at e0; have e1 := hd 2 rfl; change vs 2 = _ at e1; clear hd cA cC; rw [e0, e1]; go_wp2; first | exact ⟨RS.KF.rf _ _ _ _, rfl⟩ | exact ⟨RS.KF.rf _ _ _ _, by simp [RS.Eqv]⟩ | (simp [RS.Eqv])
            · have e0 := hd 3 rfl; change vs 3 = _ at e0; have q9 := cA w2 hb2.1; clear hd cA cC; rw [e0]; go_wp2; first | exact ⟨RS.KF.rf _ _ _ _, rfl⟩ | exact ⟨RS.KF.rf _ _ _ _, by simp [RS.Eqv]⟩ | (simp [RS.Eqv])
            · have e0 := hd 0 rfl; change vs 0 = _ at e0; have e1 := hd 4 rfl; change vs 4 = _ at e1; clear hd cA cC; rw [e0, e1]; go_wp2; first | exact ⟨RS.KF.rf _ _ _ _, rfl⟩ | exact ⟨RS.KF.rf _ _ _ _, by simp [RS.Eqv]⟩ | (simp [RS.Eqv])
            · clear hd cA cC; go_wp2; first | exact ⟨RS.KF.rf _ _ _ _, rfl⟩ | exact ⟨RS.KF.rf _ _ _ _, by simp [RS.Eqv]⟩ | (simp [RS.Eqv])
            · have e0 := hd 6 rfl; change vs 6 = _ at e0; have q0 := (BSr.below hb2.1 BSr.lt).cell 0 rfl; clear hd cA cC; rw [e0]; go_wp2; first | exact ⟨RS.KF.rf _ _ _ _, rfl⟩ | exact ⟨RS.KF.rf _ _ _ _, by simp [RS.Eqv]⟩ | (simp [RS.Eqv])
            · have e0 := hd 5 rfl; change vs 5 = _ at e0; have e1 := hd 7 rfl; change vs 7 = _ at e1; clear hd cA cC; rw [e0, e1]; go_wp2; first | exact ⟨RS.KF.rf _ _ _ _, rfl⟩ | exact ⟨RS.KF.rf _ _ _ _, by simp [RS.Eqv]⟩ | (simp [RS.Eqv])
            · clear hd cA cC; go_wp2; first | exact ⟨RS.KF.rf _ _ _ _, rfl⟩ | exact ⟨RS.KF.rf _ _ _ _, by simp [RS.Eqv]⟩ | (simp [RS.Eqv])
            · clear hd cA cC; go_wp2; first | exact ⟨RS.KF.rf _ _ _ _, rfl⟩ | exact ⟨RS.KF.rf _ _ _ _, by simp [RS.Eqv]⟩ | (simp [RS.Eqv])
            · clear hd cA cC; go_wp2; first | exact ⟨RS.KF.rf _ _ _ _, rfl⟩ | exact ⟨RS.KF.rf _ _ _ _, by simp [RS.Eqv]⟩ | (simp [RS.Eqv])
            · have e0 := hd 11 rfl; change vs 11 = _ at e0; clear hd cA cC; rw [e0]; go_wp2; first | exact ⟨RS.KF.rf _ _ _ _, rfl⟩ | exact ⟨RS.KF.rf _ _ _ _, by simp [RS.Eqv]⟩ | (simp [RS.Eqv])
            · have e0 := hd 10 rfl; change vs 10 = _ at e0; have e1 := hd 12 rfl; change vs 12 = _ at e1; clear hd cA cC; rw [e0, e1]; go_wp2; first | exact ⟨RS.KF.rf _ _ _ _, rfl⟩ | exact ⟨RS.KF.rf _ _ _ _, by simp [RS.Eqv]⟩ | (simp [RS.Eqv])
            · have e0 := hd 13 rfl; change vs 13 = _ at e0; have q9 := cC w2 hb2.1; clear hd cA cC; rw [e0]; go_wp2; first | exact ⟨RS.KF.rf _ _ _ _, rfl⟩ | exact ⟨RS.KF.rf _ _ _ _, by simp [RS.Eqv]⟩ | (simp [RS.Eqv])
            · have e0 := hd 9 rfl; change vs 9 = _ at e0; have e1 := hd 14 rfl; change vs 14 = _ at e1; clear hd cA cC; rw [e0, e1]; go_wp2; first | exact ⟨RS.KF.rf _ _ _ _, rfl⟩ | exact ⟨RS.KF.rf _ _ _ _, by simp [RS.Eqv]⟩ | (simp [RS.Eqv])
            · clear hd cA cC; go_wp2; first | exact ⟨RS.KF.rf _ _ _ _, rfl⟩ | exact ⟨RS.KF.rf _ _ _ _, by simp [RS.Eqv]⟩ | (simp [RS.Eqv])
            · have e0 := hd 16 rfl; change vs 16 = _ at e0; have q1 := (BSr.below hb2.1 BSr.lt).cell 1 rfl; clear hd cA cC; rw [e0]; go_wp2; first | exact ⟨RS.KF.rf _ _ _ _, rfl⟩ | exact ⟨RS.KF.rf _ _ _ _, by simp [RS.Eqv]⟩ | (simp [RS.Eqv])
            · have e0 := hd 15 rfl; change vs 15 = _ at e0; have e1 := hd 17 rfl; change vs 17 = _ at e1; clear hd cA cC; rw [e0, e1]; go_wp2; first | exact ⟨RS.KF.rf _ _ _ _, rfl⟩ | exact ⟨RS.KF.rf _ _ _ _, by simp [RS.Eqv]⟩ | (simp [RS.Eqv])
            · have e0 := hd 8 rfl; change vs 8 = _ at e0; have e1 := hd 18 rfl; change vs 18 = _ at e1; clear hd cA cC; rw [e0, e1]; go_wp2; first | exact ⟨RS.KF.rf _ _ _ _, rfl⟩ | exact ⟨RS.KF.rf _ _ _ _, by simp [RS.Eqv]⟩ | (simp [RS.Eqv])
            · clear hd cA cC; go_wp2; exact hb2.new (Nat.le_refl _) #[.int .i64 0, .int .i64 0] rfl _
            · have e0 := hd 19 rfl; change vs 19 = _ at e0; obtain ⟨g, c, eg, hg, hcs, hB⟩ := hd 20 rfl; change vs 20 = _ at eg; obtain ⟨a', b', rfl⟩ := RS.two_cells hcs; have q0 := hB.cell 0 rfl; have q1 := hB.cell 1 rfl; have q2 := hB.frozen 0; have q3 := hB.frozen 1; clear hd cA cC; rw [eg, e0]; go_wp2; exact RS.KF.store2 hg hB _ eg _
          · intro vs wa hba hR2
            simp only [RS.AllR, RS.Eqv] at hR2
            obtain ⟨e0, e1, e2, e3, e4, e5, e6, e7, e8, e9, e10, e11, e12, e13, e14, e15, e16, e17, e18, e19, e20, e21, -⟩ := hR2
            obtain ⟨gS, egS, hgS, BS⟩ := e21
            change vs 20 = _ at egS
            clear e20
            simp only [List.drop, List.take, List.map, RS.putD, Act.put, List.setIfInBounds_toArray, List.set_cons_succ, List.set_cons_zero, Nat.reduceAdd]
            rw [e0, e1, e2, e3, e4, e5, e6, e7, e8, e9, e10, e11, e12, e13, e14, e15, e16, e17, e18, e19, egS]
            clear e0 e1 e2 e3 e4 e5 e6 e7 e8 e9 e10 e11 e12 e13 e14 e15 e16 e17 e18 e19
            replace hfr := Kp.mk hfr
            replace hto := Kp.mk hto
            have BP := BS
            have hwa := hba.1
            clear BS hba
            have d0 := BP.cell 0 rfl
            have d1 := BP.cell 1 rfl
            by_cases hft : ff < tt
            · have tf : decide (ff < tt) = true := by simp; omega
              obtain ⟨i, zz, hi1, hzz, hs1', hz1, hby⟩ := pricedI
              obtain ⟨A7, c7, rfl⟩ := hrow.shape
              have hll := Tp.chain_len hch.out
              have hclb : Tp.cl a b (st + x1) ≤ b := by unfold Tp.cl; omega
              have hl9 : l.length ≤ 20000000 := by omega
              have hch2 := Kp.mk (hstep.out.1 hft)
              go_upto_region 12 with fail
              clear d0 d1 hstep
              have cA2 := fun W (hW : Below wa.heap.size wa W) => cA W (hwa.trans (hW.mono hwa.size))
              have hTa := hT1.call (Below.trans (hbw.mono (Nat.le_refl _)) (hwa.mono hszr))
              have BXr := BX.below (hbw.trans (hwa.mono hszr)) BX.lt
              have hOn := fun W (hW : Below wa.heap.size wa W) => on_any base L A cap ((st + off + 604800) / 86400 % 7) x1 W (hTa.call hW).at_ hT.cap hT.len hok hdy0 (by omega)
              rw [hpr.out] at hOn
              refine wp_region_rgl [Eqv (.slice A7 l.length c7), Eqv (.agg #[.int .i64 ff, .int .i64 tt]), Eqv (.agg #[.slice A L.length cap, .int .i64 base]), Eqv (.int .i64 ((st + off + 604800) / 86400 % 7)), Eqv (.slice (some ⟨b8, o8, none⟩) bl.length c8), Eqv (.int .i64 k), Eqv (.pointer (some ⟨b8, o8 + k, none⟩)), Eqv (.int .i64 x1), Eqv (.int .i64 pr), Eqv (.agg #[.int .i64 ff, .int .i64 tt, .int .i64 pr]), RowC 64 3 wa.heap.size 1 1 [.int .i64 ff, .int .i64 tt, .int .i64 pr]] 11 81 (by kernel_rfl) rfl rfl (by kernel_rfl) ?_ ?_ ?_
              · simp only [AllS]
                repeat' apply And.intro
                all_goals first | exact stab_eqv _ | exact stab_rowC _ _ _ _ _ _ | trivial
              · simp only [Users, List.take, List.length]
                refine ⟨?_, ?_, ?_, ?_, ?_, ?_, ?_, ?_, ?_, ?_, ?_, trivial⟩
                all_goals (intro vs w5 hb5 hd; have q9 := cA2 w5 hb5; have hC := hOn w5 hb5; have p0 := (BP.call hb5).cell 0 rfl; have p1 := (BP.call hb5).cell 1 rfl; have z0 := (BXr.call hb5).cell 0 rfl; have z1 := (BXr.call hb5).cell 1 rfl; clear cA2 hOn cA cC; simp only [putD, Act.put, List.nil_append, List.cons_append, List.setIfInBounds_toArray, List.set_cons_succ, List.set_cons_zero, Nat.reduceAdd])
                · clear hd hC; go_wp2; exact ⟨Below.refl _ _, rfl⟩
                · clear hd hC; go_wp2; exact ⟨Below.refl _ _, rfl⟩
                · clear hd hC; go_wp2; exact ⟨Below.refl _ _, rfl⟩
                · clear hd hC; go_wp2; exact ⟨Below.refl _ _, rfl⟩
                · clear hd hC; go_wp2; exact ⟨Below.refl _ _, rfl⟩
                · clear hd hC; go_wp2; exact ⟨Below.refl _ _, rfl⟩
                · have e4 := hd 4 rfl; change vs 4 = _ at e4; have e5 := hd 5 rfl; change vs 5 = _ at e5; clear hd hC; rw [e4, e5]; go_wp2; exact ⟨Below.refl _ _, rfl⟩
                · have e6 := hd 6 rfl; change vs 6 = _ at e6; clear hd hC; rw [e6]; go_wp2; exact ⟨Below.refl _ _, rfl⟩
                · have e2 := hd 2 rfl; change vs 2 = _ at e2; have e3 := hd 3 rfl; change vs 3 = _ at e3; have e7 := hd 7 rfl; change vs 7 = _ at e7; clear hd; rw [e2, e3, e7]
                  go_wp2_with fail
                  refine hC.mono ?_
                  rintro _ w9 ⟨rfl, hb9⟩
                  clear hC
                  go_wp2
                  first | exact ⟨hb9, rfl⟩ | rfl
                · have e1 := hd 1 rfl; change vs 1 = _ at e1; have e8 := hd 8 rfl; change vs 8 = _ at e8; clear hd hC; rw [e1, e8]; go_wp2; exact ⟨Below.refl _ _, rfl⟩
                · have e9 := hd 9 rfl; change vs 9 = _ at e9; clear hd hC; rw [e9]; go_wp2; exact ⟨(Below.refl _ _).alloc (Nat.le_refl _) _, _, _, rfl, hb5.size, Nat.le_refl _, Bx.mk _ _ _, rfl, rfl⟩
              · clear cA2 hOn cA cC
                intro vs w5 hb5 hR
                simp only [AllR, Eqv] at hR
                obtain ⟨e0, e1, e2, e3, e4, e5, e6, e7, e8, e9, h10, -⟩ := hR
                have hsrc := RowC.src (P := Tryz.prog) (t := 47) (fun u hu => by simp at hu; rcases hu with rfl | rfl | rfl <;> rfl) Tryz.underlying47 h10
                obtain ⟨g10, k10, e10, -⟩ := h10
                rw [e10] at hsrc
                have hw5 := hwa.trans (hb5.mono hwa.size)
                have hrow5 := stab_rowZ _ _ _ _ _ _ _ _ hrow hw5
                have hsz5 := Nat.le_trans hszr hw5.size
                simp only [List.drop, List.take, List.map, putD, Act.put, List.setIfInBounds_toArray, List.set_cons_succ, List.set_cons_zero, Nat.reduceAdd]
                rw [e0, e1, e2, e3, e4, e5, e6, e7, e8, e9, e10]
                clear e0 e1 e2 e3 e4 e5 e6 e7 e8 e9 e10 BXr BSr BP
                refine wpList_append_rowZ rfl (.tmp 68) (.tmp 78) 47 64 rfl i zz 3 w1.heap.size l.length 1 (l.flatMap pcC) [.int .i64 ff, .int .i64 tt, .int .i64 pr] _ _ Tryz.underlying47 hi1 hzz hs1' hz1 rfl rfl hrow5 hsz5 hsrc (by omega) (by unfold maxLen; omega) (by rw [hby]; omega) ?_
                intro v' w' f1 f2
                have hbE := (hbw.trans (hw5.mono hszr)).trans f1
                have f3 : RowZ 64 3 w1.heap.size (l ++ [(⟨ff, tt, pr⟩ : Tp.Pc)]).length ((l ++ [(⟨ff, tt, pr⟩ : Tp.Pc)]).flatMap pcC) v' w' := by
                  rw [List.length_append, List.length_singleton, List.flatMap_append, List.flatMap_singleton]; exact f2
                replace f3 := Kp.mk f3
                clear f2 hrow5 hrow hsrc
                go_wp2
                exact ⟨⟨k + 1, hk1, l ++ [⟨ff, tt, pr⟩], by go_num, f3.out, ⟨by rw [hx2.out]; exact hch2.out⟩, hbE⟩, by simp [intOf]; omega⟩
            · have tf : decide (ff < tt) = false := by simp; omega
              have hch2 := Kp.mk (hstep.out.2 hft)
              have hrow5 := stab_rowZ _ _ _ _ _ _ _ _ hrow hwa
              have hbE := hbw.trans (hwa.mono hszr)
              clear hstep hrow cA cC
              replace hrow5 := Kp.mk hrow5
              go_wp2
              exact ⟨⟨k + 1, hk1, l, by go_num, hrow5.out, ⟨by rw [hx2.out]; exact hch2.out⟩, hbE⟩, by simp [intOf]; omega⟩
        · have tk1 : decide ((k : Int) + 1 < (bl.length : Int)) = false := by simp; omega
          have hl86 := hB.last (show k + 1 = bl.length by omega)
          rw [hl86] at hch
          have hal2 : Kp ((st + 86400 + off + 604800) % 86400 = 0) := ⟨by have := hal.out; omega⟩
          replace hl86 := Kp.mk hl86
          go_wp2
          exact ⟨⟨st + 86400, l, rfl, hrow, hch, hal2, by omega, by omega, hbw⟩, by simp [intOf]; omega⟩
    · have tk : decide (st < b) = false := by simp; omega
      have e : Tp.cl a b st = b := by unfold Tp.cl; omega
      rw [e] at hch
      have hfin := hb.trans (hbw.mono hb.size)
      have hrw := hrow.weaken hsz1
      replace hrw := Kp.mk hrw
      clear e hrow
      go_wp2
      go_ret
      exact ⟨⟨l, _, rfl, hch.out, hrw.out⟩, hfin⟩
end Go.Proofs.YtfebcokmnhdbmaaGreatDoor

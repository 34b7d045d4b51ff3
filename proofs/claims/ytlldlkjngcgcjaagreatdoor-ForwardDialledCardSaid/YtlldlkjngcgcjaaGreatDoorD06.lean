/- dialtoneref13.combine: some map of at most 40 blocks. -/
import Derived.Test.YtlldlkjngcgcjaaGreatDoorD05
namespace Go.Proofs.YtlldlkjngcgcjaaGreatDoor
set_option linter.unusedVariables false
set_option linter.unusedSimpArgs false
open Go.RowKit Go.Shelf
attribute [local go_sem] Oper.semAt_some
theorem blI : ∃ i z, Tryz.prog.info? 103 = some i ∧ i.zero = some z ∧ i.size = 3 ∧ z.cells.size = 3 ∧ i.bytes = 24 := by
  have h : (Tryz.prog.info? 103).map (fun i => (i.size, i.bytes, i.zero.map (·.cells.size))) = some (3, 24, some 3) := by kernel_rfl
  cases hi : Tryz.prog.info? 103 with
  | none => rw [hi] at h; cases h
  | some i =>
    rw [hi] at h
    simp only [Option.map_some, Option.some.injEq, Prod.mk.injEq] at h
    obtain ⟨h1, h2, h3⟩ := h
    cases hz : i.zero with
    | none => rw [hz] at h3; cases h3
    | some z => rw [hz] at h3; simp only [Option.map_some, Option.some.injEq] at h3; exact ⟨i, z, rfl, hz, h1, h3, h2⟩
theorem blC_one (c : Blk3) : ∀ u ∈ blC c, u.oneCell' = true := fun u hu => by
  simp only [blC, List.mem_cons, List.not_mem_nil, or_false] at hu
  rcases hu with rfl | rfl | rfl <;> rfl
def OneB (B : Nat) (b : Blk3) : Value → World → Prop := fun v w => ∃ g, v = .slice (some ⟨g, 0, none⟩) 1 1 ∧ B ≤ g ∧ Bx w g 103 (blC b).toArray
theorem stab_OneB (B : Nat) (b : Blk3) : Stab (OneB B b) := fun v w w' ⟨g, h1, h2, h3⟩ h => ⟨g, h1, h2, h3.call h⟩
/-- a row of blocks of one's own, as a slice; its last block -/
theorem BlR.sl {B m : Nat} {v : Value} {W : World} (h : BlR B m v W) : ∃ A cp, v = .slice A m cp ∧ m ≤ cp ∧ cp ≤ maxLen ∧ (0 < m → ∃ g off f t c, A = some ⟨g, off, none⟩ ∧ Kp (off = 0) ∧ B ≤ g ∧ g < W.heap.size ∧ (∃ cs, Bx W g 103 cs) ∧ W.cell? ⟨g, off + (m - 1) * 3, none⟩ = some (.int .i64 f) ∧ W.cell? ⟨g, off + (m - 1) * 3 + 1, none⟩ = some (.int .i64 t) ∧ W.cell? ⟨g, off + (m - 1) * 3 + 2, none⟩ = some (.int .i64 c)) := by
  obtain ⟨bs, rfl, h⟩ := h
  obtain ⟨A, cp, e1, e2, e3, e4⟩ := RowZ.at (p := bs) (f := blC) (fun _ => rfl) h
  refine ⟨A, cp, e1, e3, e4, fun hm => ?_⟩
  obtain ⟨b, off, f, t, c, rfl, hb, c0, c1, c2⟩ := bl_cell e2 (show bs.length - 1 < bs.length by omega)
  refine ⟨b, off, f, t, c, rfl, ?_, ?_, hb, ?_, c0, c1, c2⟩
  · rcases h with ⟨e, -⟩ | ⟨cap', ⟨g', cs, e, -⟩, -⟩
    · rw [e] at e1; cases e1
    · rw [e] at e1; cases e1; exact ⟨rfl⟩
  · rcases h with ⟨e, -⟩ | ⟨cap', ⟨g', cs, e, hg, -⟩, -⟩
    · rw [e] at e1; cases e1
    · rw [e] at e1; cases e1; exact hg
  · rcases h with ⟨e, -⟩ | ⟨cap', ⟨g', cs, e, -, -, hB, -⟩, -⟩
    · rw [e] at e1; cases e1
    · rw [e] at e1; cases e1; exact ⟨cs, hB⟩
theorem inz_cell {m : Nat} {zs : List Int} {A : Option Addr} {g : Nat} {w : World} (hA : At 1 inC w g A zs) {k : Nat} (hk : k + 1 < zs.length) : ∃ b off x y, A = some ⟨b, off, none⟩ ∧ b < g ∧ w.cell? ⟨b, off + k, none⟩ = some (.int .i64 x) ∧ w.cell? ⟨b, off + (k + 1), none⟩ = some (.int .i64 y) := by
  obtain ⟨b, off, x, rfl, hb, h1⟩ := in_cell hA (show k < zs.length by omega)
  obtain ⟨b', off', y, e, hb', h2⟩ := in_cell hA hk
  simp only [Option.some.injEq, Addr.mk.injEq, and_true] at e
  obtain ⟨rfl, rfl⟩ := e
  exact ⟨b, off, x, y, rfl, hb, h1, h2⟩
set_option maxRecDepth 100000 in
set_option maxHeartbeats 4000000 in
theorem r13combine_any (la lb : List Blk3) (A B : Option Addr) (ca cb g : Nat) (way fr tt : Int) (w : World) (hA : At 3 blC w g A la) (hB : At 3 blC w g B lb) (hgw : w.heap.size = g) (hna : la.length ≤ ca) (hnb : lb.length ≤ cb) (hla : la.length ≤ 40) (hlb : lb.length ≤ 40) :
    Calls Tryz.prog 70 #[.slice A la.length ca, .slice B lb.length cb, .int .i64 way, .int .i64 fr, .int .i64 tt] w fun e w' => ∃ v z, e = .returned (.tuple #[v, .int .i64 z]) ∧ Below g w w' ∧ BlZ 40 v w' := by
  have hE := r13edges_any la lb A B ca cb g w hA hB hgw hna hnb hla hlb
  go_enter Tryz.func70, Tryz.ntmps70
  go_wp2_with fail
  refine hE.mono ?_
  rintro _ w1 ⟨v1, rfl, hb1, hz⟩
  clear hE
  obtain ⟨zs, E, ce, rfl, hE, hce, hcm, hlz⟩ := hz
  have hg1 : g ≤ w1.heap.size := by rw [← hgw]; exact hb1.size
  obtain ⟨g1, hg1'⟩ : ∃ g1, g1 = w1.heap.size := ⟨_, rfl⟩
  rw [← hg1'] at hE hg1
  go_wp2
  go_loopw [14, 13] (fun s14 s13 wr => ∃ (k j : Nat), k ≤ zs.length ∧ j ≤ k ∧ s14 = .int .i64 k ∧ Below g1 w1 wr ∧ BlR g1 j s13 wr) (fun s14 _ _ => zs.length - (intOf s14).toNat)
  case atStart => exact ⟨0, 0, Nat.zero_le _, Nat.le_refl _, rfl, Below.refl _ _, [], rfl, .inl ⟨rfl, rfl, rfl⟩⟩
  case round =>
    obtain ⟨k, j, hk, hj, rfl, hb, hr⟩ := hrel
    obtain ⟨W, hW⟩ : ∃ W, W = wr := ⟨_, rfl⟩
    have hgr : g1 ≤ wr.heap.size := by rw [hg1']; exact hb.size
    by_cases hlt : k + 1 < zs.length
    · obtain ⟨b, off, x, y, rfl, hbB, c0, c1⟩ := inz_cell (m := 0) (hE.below hb) hlt
      have hA' : At 3 blC wr wr.heap.size A la := ((hA.below hb1).more hg1).below hb |>.more hgr
      have hB' : At 3 blC wr wr.heap.size B lb := ((hB.below hb1).more hg1).below hb |>.more hgr
      have h1 := r13holder_any la A ca x wr hA' hna (by omega)
      have h2 := r13holder_any lb B cb x wr hB' hnb (by omega)
      clear hA' hB' hA hB hE
      have hg9 : Kp (w.heap.size = g) := ⟨hgw⟩
      have hg8 : Kp (g1 = w1.heap.size) := ⟨hg1'⟩
      clear hgw hg1' hna hnb
      go_upto_region 7 with (go_at_call 112; refine h1.mono ?_; rintro _ _ ⟨⟨z1, rfl⟩, e9c⟩; replace e9c := e9c.symm; subst e9c)
      clear h1
      go_upto_region 8 with (go_at_call 112; refine h2.mono ?_; rintro _ _ ⟨⟨z2, rfl⟩, e9c⟩; replace e9c := e9c.symm; subst e9c)
      clear h2
      subst hW
      go_cut [61] from 40 to 61 (fun s61 wx => (∃ z, s61 = .bool z) ∧ wx = W)
      case first =>
        clear hr c0 c1 hb
        obtain ⟨b1, t1⟩ : ∃ b, (way == 0) = b := ⟨_, rfl⟩
        obtain ⟨b2, t2⟩ : ∃ b, (way == 1) = b := ⟨_, rfl⟩
        obtain ⟨b3, t3⟩ : ∃ b, (way == 2) = b := ⟨_, rfl⟩
        obtain ⟨b4, t4⟩ : ∃ b, decide (0 ≤ z2) = b := ⟨_, rfl⟩
        obtain ⟨b5, t5⟩ : ∃ b, decide (z2 < 0) = b := ⟨_, rfl⟩
        cases b1 <;> cases b2 <;> cases b3 <;> cases b4 <;> cases b5
        all_goals
          go_wp2
          go_meet
          exact ⟨⟨_, rfl⟩, rfl⟩
      case rest =>
        obtain ⟨⟨b6, rfl⟩, hwc⟩ := hcut
        replace hwc := hwc.symm
        subst hwc
        go_upto_if 61 with fail
        go_cut [15] from 21 to 134 (fun s15 wx => (∃ z : Int, s15 = .int .i64 z) ∧ wx = W)
        case first =>
          clear hr c0 c1 hb
          cases b6
          all_goals
            go_wp2
            go_meet
            exact ⟨⟨_, rfl⟩, rfl⟩
        case rest =>
        obtain ⟨⟨z, rfl⟩, hwc⟩ := hcut
        replace hwc := hwc.symm
        subst hwc
        go_upto_region 10 with fail
        go_cut [68] from 21 to 134 (fun s68 wx => (∃ z : Bool, s68 = .bool z) ∧ wx = W)
        case first =>
          clear hr c0 c1 hb
          obtain ⟨b2, t2⟩ : ∃ b, (way == 1) = b := ⟨_, rfl⟩
          obtain ⟨b4, t4⟩ : ∃ b, decide (0 ≤ z2) = b := ⟨_, rfl⟩
          cases b2 <;> cases b4
          all_goals
            go_wp2
            go_meet
            exact ⟨⟨_, rfl⟩, rfl⟩
        case rest =>
        obtain ⟨⟨b6, rfl⟩, hwc⟩ := hcut
        replace hwc := hwc.symm
        subst hwc
        cases b6
        · go_upto_region 12 with fail
          go_cut [75] from 21 to 134 (fun s75 wx => (∃ z : Bool, s75 = .bool z) ∧ wx = W)
          case first =>
            clear hr c0 c1 hb
            obtain ⟨b2, t2⟩ : ∃ b, (z == fr) = b := ⟨_, rfl⟩
            obtain ⟨b4, t4⟩ : ∃ b, decide (0 ≤ z) = b := ⟨_, rfl⟩
            cases b2 <;> cases b4
            all_goals
              go_wp2
              go_meet
              exact ⟨⟨_, rfl⟩, rfl⟩
          case rest =>
          obtain ⟨⟨b6, rfl⟩, hwc⟩ := hcut
          replace hwc := hwc.symm
          subst hwc
          go_upto_if 75 with fail
          go_cut [15] from 21 to 134 (fun s15 wx => (∃ z : Int, s15 = .int .i64 z) ∧ wx = W)
          case first =>
            clear hr c0 c1 hb
            cases b6
            all_goals
              go_wp2
              go_meet
              exact ⟨⟨_, rfl⟩, rfl⟩
          case rest =>
          obtain ⟨⟨x9, rfl⟩, hwc⟩ := hcut
          replace hwc := hwc.symm
          subst hwc
          by_cases hx9 : x9 < 0
          · have t9 : decide (x9 < 0) = true := decide_eq_true hx9
            clear c0 c1
            go_wp2
            exact ⟨⟨k + 1, j, by omega, by omega, by go_num, hb, hr⟩, by simp [intOf]; omega⟩
          · have t9 : decide (x9 < 0) = false := decide_eq_false hx9
            obtain ⟨A0, cp, rfl, hjc, hcp, hlast⟩ := hr.sl
            replace hr := Kp.mk hr
            go_upto_region 16 with fail
            clear t9 hx9
            go_cut [108] from 21 to 134 (fun s108 wx => (∃ z : Bool, s108 = .bool z ∧ (z = true → 0 < j)) ∧ Below W.heap.size W wx)
            case first =>
              clear hr c1 hb
              rcases Nat.eq_zero_or_pos j with h0 | h0
              · subst h0
                have t0 : decide ((0 : Int) < ((0 : Nat) : Int)) = false := rfl
                clear hlast c0
                refine wp_region_quiet_below (by kernel_rfl) (by kernel_rfl) ?_
                repeat (go_big_quiet_step (fail))
                refine wpQuiet_nil ?_
                rintro _ ⟨q, rfl⟩
                go_wp2
                go_meet
                exact ⟨⟨_, rfl, by simp⟩, below_regrown W q.d q.os⟩
              · obtain ⟨g9, o9, f9, tt9, c9, rfl, -, -, -, -, d0, d1, d2⟩ := hlast h0
                have t0 : decide ((0 : Int) < (j : Int)) = true := decide_eq_true (by omega)
                have y1 : 0 < (j : Int) := by omega
                have y2 : 0 ≤ (j : Int) - 1 := by omega
                have y3 : (j : Int) - 1 < j := by omega
                have y4 : max ((j : Int) - 1) 0 = (j : Int) - 1 := by omega
                replace c0 := cell_regrown c0
                replace d1 := cell_regrown d1
                replace d2 := cell_regrown d2
                clear hlast d0
                obtain ⟨b2, t2⟩ : ∃ b, (tt9 == x) = b := ⟨_, rfl⟩
                obtain ⟨b3, t3⟩ : ∃ b, (c9 == x9) = b := ⟨_, rfl⟩
                cases b2 <;> cases b3
                all_goals
                  refine wp_region_quiet_below (by kernel_rfl) (by kernel_rfl) ?_
                  repeat (go_big_quiet_step (fail))
                  refine wpQuiet_nil ?_
                  rintro _ ⟨q, rfl⟩
                  go_wp2
                  go_meet
                  exact ⟨⟨_, rfl, fun _ => h0⟩, below_regrown W q.d q.os⟩
            case rest =>
            obtain ⟨⟨b7, rfl, hb7⟩, hbw⟩ := hcut
            replace hb := hb.trans (hbw.mono hgr)
            replace hr := hr.out.call hbw
            have hbw0 : b < W.heap.size := by omega
            replace c0 := (hbw.cell (p := ⟨b, _, none⟩) hbw0).trans c0
            replace c1 := (hbw.cell (p := ⟨b, _, none⟩) hbw0).trans c1
            have hsz := hbw.size
            cases b7
            · clear hb7 hlast hbw
              generalize wc = wq at *
              have hbw : b < wq.heap.size := by omega
              replace hb := Kp.mk hb
              obtain ⟨bs, hbl, hrow⟩ := hr
              go_upto_region 18 with fail
              refine wp_region_rgl [Eqv (.slice A0 j cp), Eqv (.slice (some ⟨b, off, none⟩) zs.length ce), Eqv (.int .i64 k), Eqv (.pointer (some ⟨b, off + k, none⟩)), Eqv (.int .i64 x), Eqv (.slice (some ⟨b, off, none⟩) zs.length ce), Eqv (.int .i64 k), Eqv (.int .i64 (k + 1)), Eqv (.pointer (some ⟨b, off + (k + 1), none⟩)), Eqv (.int .i64 y), Eqv (.agg #[.int .i64 x, .int .i64 y]), Eqv (.int .i64 x9), Eqv (.agg #[.int .i64 x, .int .i64 y, .int .i64 x9]), OneB wq.heap.size ⟨x, y, x9⟩] 14 139 (by kernel_rfl) rfl rfl (by kernel_rfl) ?_ ?_ ?_
              · simp only [AllS]
                exact ⟨stab_eqv _, stab_eqv _, stab_eqv _, stab_eqv _, stab_eqv _, stab_eqv _, stab_eqv _, stab_eqv _, stab_eqv _, stab_eqv _, stab_eqv _, stab_eqv _, stab_eqv _, stab_OneB _ _, trivial⟩
              · simp only [Users, List.take, List.length]
                refine ⟨?_, ?_, ?_, ?_, ?_, ?_, ?_, ?_, ?_, ?_, ?_, ?_, ?_, ?_, trivial⟩
                all_goals (intro vs w2 hb2 hd; simp only [putD, Act.put, List.nil_append, List.cons_append, List.setIfInBounds_toArray, List.set_cons_succ, List.set_cons_zero, Nat.reduceAdd])
                · clear hd c0 c1 hrow; go_wp2; first | exact ⟨Below.refl _ _, rfl⟩ | exact ⟨Below.refl _ _, by simp [Eqv]⟩ | (simp [Eqv])
                · clear hd c0 c1 hrow; go_wp2; first | exact ⟨Below.refl _ _, rfl⟩ | exact ⟨Below.refl _ _, by simp [Eqv]⟩ | (simp [Eqv])
                · clear hd c0 c1 hrow; go_wp2; first | exact ⟨Below.refl _ _, rfl⟩ | exact ⟨Below.refl _ _, by simp [Eqv]⟩ | (simp [Eqv])
                · have e0 := hd 1 rfl; change vs 1 = _ at e0; have e1 := hd 2 rfl; change vs 2 = _ at e1; clear hd c0 c1 hrow; rw [e0, e1]; go_wp2; first | exact ⟨Below.refl _ _, rfl⟩ | exact ⟨Below.refl _ _, by simp [Eqv]⟩ | (simp [Eqv])
                · have e0 := hd 3 rfl; change vs 3 = _ at e0; have x0 := (hb2.cell (p := ⟨b, _, none⟩) hbw).trans c0; clear hd c0 c1 hrow; rw [e0]; go_wp2; first | exact ⟨Below.refl _ _, rfl⟩ | exact ⟨Below.refl _ _, by simp [Eqv]⟩ | (simp [Eqv])
                · clear hd c0 c1 hrow; go_wp2; first | exact ⟨Below.refl _ _, rfl⟩ | exact ⟨Below.refl _ _, by simp [Eqv]⟩ | (simp [Eqv])
                · clear hd c0 c1 hrow; go_wp2; first | exact ⟨Below.refl _ _, rfl⟩ | exact ⟨Below.refl _ _, by simp [Eqv]⟩ | (simp [Eqv])
                · have e0 := hd 6 rfl; change vs 6 = _ at e0; clear hd c0 c1 hrow; rw [e0]; go_wp2; first | exact ⟨Below.refl _ _, rfl⟩ | exact ⟨Below.refl _ _, by simp [Eqv]⟩ | (simp [Eqv])
                · have e0 := hd 5 rfl; change vs 5 = _ at e0; have e1 := hd 7 rfl; change vs 7 = _ at e1; clear hd c0 c1 hrow; rw [e0, e1]; go_wp2; first | exact ⟨Below.refl _ _, rfl⟩ | exact ⟨Below.refl _ _, by simp [Eqv]⟩ | (simp [Eqv])
                · have e0 := hd 8 rfl; change vs 8 = _ at e0; have x0 := (hb2.cell (p := ⟨b, _, none⟩) hbw).trans c1; clear hd c0 c1 hrow; rw [e0]; go_wp2; first | exact ⟨Below.refl _ _, rfl⟩ | exact ⟨Below.refl _ _, by simp [Eqv]⟩ | (simp [Eqv])
                · have e0 := hd 4 rfl; change vs 4 = _ at e0; have e1 := hd 9 rfl; change vs 9 = _ at e1; clear hd c0 c1 hrow; rw [e0, e1]; go_wp2; first | exact ⟨Below.refl _ _, rfl⟩ | exact ⟨Below.refl _ _, by simp [Eqv]⟩ | (simp [Eqv])
                · clear hd c0 c1 hrow; go_wp2; first | exact ⟨Below.refl _ _, rfl⟩ | exact ⟨Below.refl _ _, by simp [Eqv]⟩ | (simp [Eqv])
                · have e0 := hd 10 rfl; change vs 10 = _ at e0; have e1 := hd 11 rfl; change vs 11 = _ at e1; clear hd c0 c1 hrow; rw [e0, e1]; go_wp2; first | exact ⟨Below.refl _ _, rfl⟩ | exact ⟨Below.refl _ _, by simp [Eqv]⟩ | (simp [Eqv])
                · have e3 : vs 12 = _ := hd 12 rfl
                  have hsz := hb2.size
                  clear hd c0 c1 hrow
                  rw [e3]
                  go_wp2
                  exact ⟨bNew (Below.refl _ _) _, _, rfl, hsz, Bx.mk w2 _ _⟩
              · intro vs wa hba hR2
                simp only [AllR, Eqv] at hR2
                obtain ⟨e0, -, -, -, -, -, -, -, -, -, -, -, -, e13, -⟩ := hR2
                simp only [List.drop, List.take, List.map, putD, Act.put, List.setIfInBounds_toArray, List.set_cons_succ, List.set_cons_zero, Nat.reduceAdd]
                obtain ⟨g3, e13, hg3, hB3⟩ := e13
                rw [e0, e13]
                have hrow9 := stab_rowZ _ _ _ _ _ _ _ _ hrow hba
                have hsrc : Src Tryz.prog 3 28 (.slice (some ⟨g3, 0, none⟩) 1 1) 1 (blC ⟨x, y, x9⟩) wa := RowC.src (P := Tryz.prog) (B := wq.heap.size) (cap := 1) (e := 103) (t := 28) (blC_one _) Tryz.underlying28 (show RowC 103 3 wq.heap.size 1 1 (blC ⟨x, y, x9⟩) (.slice (some ⟨g3, 0, none⟩) 1 1) wa from ⟨g3, _, rfl, hg3, Nat.le_refl _, hB3, rfl, rfl⟩)
                have hwa := hba.size
                have hgq : g1 ≤ wq.heap.size := by omega
                have hg9 : g1 ≤ wa.heap.size := by omega
                obtain ⟨ti, tz, hti, hzz, hs1, hz1, hby⟩ := blI
                clear c0 c1 hB3 hg3 hrow e13 e0
                go_wp2_with (at_builtin; refine wpList_append_rowF rfl (.tmp 120) (.tmp 133) 28 103 rfl ti tz 3 g1 j 1 (bs.flatMap blC) (blC ⟨x, y, x9⟩) _ (.slice (some ⟨g3, 0, none⟩) 1 1) Tryz.underlying28 hti hzz hs1 hz1 rfl rfl hrow9 hg9 hsrc (by decide) (by unfold maxLen; omega) (by rw [hby]; omega) ?_; intro v' w9 q1 q2 q3; replace q1 := Kp.mk q1; replace q2 := Kp.mk q2; replace q3 := Kp.mk q3)
                exact ⟨⟨k + 1, j + 1, by omega, by omega, by go_num, (hb.out.trans (hba.mono hgq)).trans q1.out, bs ++ [⟨x, y, x9⟩], by simp [hbl], by rw [List.flatMap_append, List.flatMap_singleton]; exact q3.out⟩, by simp [intOf]; omega⟩
            · obtain ⟨g9, o9, f9, tt9, c9, rfl, ho, hg9, hl9, ⟨cs, hB9⟩, d0, d1, d2⟩ := hlast (hb7 rfl)
              have d1' := (hbw.cell (p := ⟨g9, _, none⟩) hl9).trans d1
              have f1 := (hB9.call hbw).frozen (o9 + (j - 1) * 3 + 1)
              have j0 := hb7 rfl
              have y2 : 0 ≤ (j : Int) - 1 := by omega
              have y3 : (j : Int) - 1 < j := by omega
              replace hb := Kp.mk hb
              replace hr := Kp.mk hr
              clear hlast d0 d1 d2 hbw hB9 hb7 c0
              go_wp2
              have hb9 := hb.out.setCell (p := ⟨g9, o9 + (j - 1) * 3 + 1, none⟩) hg9 (.int .i64 y)
              obtain rfl := ho.out
              have hr9 := hr.out.set (i := 0 + (j - 1) * 3 + 1) (k := y)
              exact ⟨⟨k + 1, j, by omega, by omega, by go_num, hb9, hr9⟩, by simp [intOf]; omega⟩
        · clear c0 c1
          go_wp2
          exact ⟨⟨k + 1, j, by omega, by omega, by go_num, hb, hr⟩, by simp [intOf]; omega⟩
    · obtain ⟨bs, A9, c9, rfl, hA9, hn9, hc9, hl9⟩ := hr.z
      subst hW
      have hV := r13Valid_any bs A9 c9 _ W hA9 rfl hn9 (by omega)
      have hbx : Below g w W := (hb1.trans (hb.mono hg1))
      have hgW : g ≤ W.heap.size := by omega
      have t1 : decide ((k : Int) + 1 < (zs.length : Int)) = false := decide_eq_false (by omega)
      clear hA hB hE hr hb hb1 hgw hg1'
      go_wp2_with fail
      refine hV.mono ?_
      rintro _ w5 ⟨⟨r, rfl, hr40⟩, hb5⟩
      clear hV
      have hby := hbx.trans (hb5.mono hgW)
      cases r
      · go_wp2
        exact bodyPost_ret (results_tmp2 rfl _ _ _) rfl ⟨_, _, rfl, hby, blZ_nil 40 _⟩
      · go_wp2
        exact bodyPost_ret (results_tmp2 rfl _ _ _) rfl ⟨_, _, rfl, hby, bs, A9, c9, rfl, (hA9.below hb5).more hb5.size, hn9, hc9, by first | exact hr40 rfl | exact hr40 trivial⟩
end Go.Proofs.YtlldlkjngcgcjaaGreatDoor

/- dialtoneref13: pick, Piece, Range, carrier, one, holder. dialtoneref13.Piece: some range. dialtoneref13: holder (some number), Valid (a Bool, and if it is true at most 40 blocks). -/
import Derived.Test.YtlldlkjngcgcjaaGreatDoorD01
import Derived.Test.YtlldlkjngcgcjaaGreatDoorQ08
import Derived.BigQuiet
namespace Go.Proofs.YtlldlkjngcgcjaaGreatDoor
set_option linter.unusedVariables false
set_option linter.unusedSimpArgs false
open Go.RowKit Go.Shelf
attribute [local go_sem] Oper.semAt_some
theorem r13pick_any (c n : Int) (h0 : 0 < n) (h : I6 c) (w : World) :
    Calls Tryz.prog 27 #[.int .i64 c, .int .i64 n] w fun e w' => e = .returned (.int .i64 (Tw.pick c n)) ∧ w = w' := by
  obtain ⟨h1, h2⟩ := h
  by_cases hc : c < 0
  · have hm : 0 ≤ -(c+1) := by omega
    go_enter Tryz.func27, Tryz.ntmps27
    go_wp2
    go_ret
    refine ⟨ret_int ?_, rfl⟩
    rw [pickT_neg hc, ← Int.neg_tmod]
    exact Int.tmod_eq_emod_of_nonneg hm
  · have hm : 0 ≤ c := by omega
    go_enter Tryz.func27, Tryz.ntmps27
    go_wp2
    go_ret
    exact ⟨ret_int (pickT_pos hm).symm, rfl⟩
theorem pick_in (c n : Int) (h0 : 0 < n) : 0 ≤ Tw.pick c n ∧ Tw.pick c n < n := by
  unfold Tw.pick
  split
  · exact ⟨Int.emod_nonneg _ (by omega), Int.emod_lt_of_pos _ h0⟩
  · exact ⟨Int.emod_nonneg _ (by omega), Int.emod_lt_of_pos _ h0⟩
theorem r13Range_any (f t : Int) (w : World) :
    Calls Tryz.prog 68 #[.agg #[.int .i64 f, .int .i64 t]] w fun e w' => e = .returned (.bool (rgB f t)) ∧ Below w.heap.size w w' := by
  have B := Bx.mk w 72 #[.int .i64 f, .int .i64 t]
  have hb := bNx w (.cells #[.int .i64 f, .int .i64 t] 72)
  have c0 := B.cell 0 rfl
  have c1 := B.cell 1 rfl
  clear B
  unfold rgB
  by_cases h1 : 0 ≤ f
  · have t1 : decide (0 ≤ f) = true := decide_eq_true h1
    by_cases h2 : f < t
    · have t2 : decide (f < t) = true := decide_eq_true h2
      by_cases h3 : t ≤ 100000000
      · have t3 : decide (t ≤ 100000000) = true := decide_eq_true h3
        rw [t1, t2, t3]
        go_enter Tryz.func68, Tryz.ntmps68
        go_wp2
        go_ret
        exact ⟨ret_bool (by simp), hb⟩
      · have t3 : decide (t ≤ 100000000) = false := decide_eq_false h3
        rw [t1, t2, t3]
        go_enter Tryz.func68, Tryz.ntmps68
        go_wp2
        go_ret
        exact ⟨ret_bool (by simp), hb⟩
    · have t2 : decide (f < t) = false := decide_eq_false h2
      rw [t1, t2]
      go_enter Tryz.func68, Tryz.ntmps68
      go_wp2
      go_ret
      exact ⟨ret_bool (by simp), hb⟩
  · have t1 : decide (0 ≤ f) = false := decide_eq_false h1
    rw [t1]
    go_enter Tryz.func68, Tryz.ntmps68
    go_wp2
    go_ret
    exact ⟨ret_bool (by simp), hb⟩
theorem r13carrier_any (c : Int) (w : World) :
    Calls Tryz.prog 69 #[.int .i64 c] w fun e w' => e = .returned (.bool (caB c)) ∧ w = w' := by
  unfold caB
  by_cases h1 : 0 ≤ c <;> by_cases h2 : c ≤ 7
  all_goals
    go_enter Tryz.func69, Tryz.ntmps69
    go_wp2
    go_ret
    exact ⟨by simp [*] <;> omega, rfl⟩
end Go.Proofs.YtlldlkjngcgcjaaGreatDoor
namespace Go.Proofs.YtlldlkjngcgcjaaGreatDoor
set_option linter.unusedVariables false
set_option linter.unusedSimpArgs false
open Go.RowKit Go.Shelf
attribute [local go_sem] Oper.semAt_some
theorem results_Rg {fn : Func} {t : Tmp} {g : Nat} {a b : Value} (h : fn.results = #[.cell t 72]) (tmps : Array Value) (w : World) (ht : tmps.getD t undef = .pointer (some ⟨g, 0, none⟩)) (hB : Bx w g 72 #[a, b]) :
    (results fn tmps).run Tryz.prog w = .ok (.agg #[a, b]) w := by
  have h0 := hB.cell 0 rfl
  have h1 := hB.cell 1 rfl
  have ht' : tmps[t]?.getD undef = .pointer (some ⟨g, 0, none⟩) := by simpa using ht
  simp only [results, h]
  simp [go_sem, ht', h0, h1, loadVar]
set_option maxHeartbeats 4000000 in
theorem r13Piece_any (c d : Int) (h1 : I6 c) (h2 : I6 d) (g0 : Nat) (w : World) (hg : w.heap.size = g0) :
    Calls Tryz.prog 26 #[.int .i64 c, .int .i64 d] w fun e w' => ∃ f t : Int, e = .returned (.agg #[.int .i64 f, .int .i64 t]) ∧ Below g0 w w' := by
  have p1 := fun w0 => r13pick_any c 60 (by omega) h1 w0
  have p3 := fun w0 => r13pick_any c 8 (by omega) h1 w0
  obtain ⟨f, hf⟩ : ∃ f, f = Tw.pick c 60 := ⟨_, rfl⟩
  have i1 := pick_in c 60 (by omega)
  rw [← hf] at p1 i1
  have p2 := fun w0 => r13pick_any d (60 - f) (by omega) h2 w0
  obtain ⟨g, hg⟩ : ∃ g, g = Tw.pick d (60 - f) := ⟨_, rfl⟩
  have i2 := pick_in d (60 - f) (by omega)
  rw [← hg] at p2 i2
  obtain ⟨q, hq⟩ : ∃ q, q = Tw.pick c 8 := ⟨_, rfl⟩
  rw [← hq] at p3
  clear hf hg hq h1 h2
  obtain ⟨i1, i1'⟩ := i1
  obtain ⟨i2, i2'⟩ := i2
  have j1 : 0 ≤ 60 - f := by omega
  have j2 : 60 - f ≤ 60 := by omega
  have j3 : 0 ≤ f + 1 + g := by omega
  have j4 : f + 1 + g ≤ 60 := by omega
  have B1 := (Bx.mk w 72 #[.int .i64 0, .int .i64 0])
  have hb1 := bNx w (.cells #[.int .i64 0, .int .i64 0] 72)
  have hs1 : (w.alloc (.cells #[.int .i64 0, .int .i64 0] 72)).heap.size = w.heap.size + 1 := World.size_alloc ..
  go_enter Tryz.func26, Tryz.ntmps26
  go_upto_region 2 with (first
    | (go_at_call 27; refine (p1 _).mono ?_; rintro _ _ ⟨rfl, rfl⟩)
    | fail)
  generalize w.alloc (.cells #[.int .i64 0, .int .i64 0] 72) = w1 at *
  try simp only [hg] at B1 hb1 hs1
  go_upto_region 3 with (first
    | (go_at_call 27; refine (p2 _).mono ?_; rintro _ _ ⟨rfl, rfl⟩)
    | fail)
  have B2 := (Bx.mk w1 72 #[.int .i64 f, .int .i64 (f + 1 + g)])
  replace B1 := B1.new (.cells #[.int .i64 f, .int .i64 (f + 1 + g)] 72)
  replace hb1 := hb1.alloc (by omega) (.cells #[.int .i64 f, .int .i64 (f + 1 + g)] 72)
  rw [hs1] at B2
  generalize w1.alloc (.cells #[.int .i64 f, .int .i64 (f + 1 + g)] 72) = w2 at *
  clear hs1 p1 p2 j1 j2 hg
  have c0 := B2.cell 0 rfl
  have c1 := B2.cell 1 rfl
  have f0 := B2.frozen 0
  have f1 := B2.frozen 1
  have u0 := B1.frozen 0
  have u1 := B1.frozen 1
  have d0 := B1.cell 0 rfl
  have d1 := B1.cell 1 rfl
  by_cases h7 : q = 7
  · have m1 : 0 ≤ 1666666 * f := by omega
    have m2 : 1666666 * f ≤ 100000000 := by omega
    have m3 : 0 ≤ 1666666 * (f + 1 + g) := by omega
    have m4 : 1666666 * (f + 1 + g) ≤ 99999960 := by omega
    subst h7
    go_upto_region 5 with (first
      | (go_at_call 27; refine (p3 _).mono ?_; rintro _ _ ⟨rfl, rfl⟩)
      | fail)
    replace B1 := (B1.far (p := ⟨g0 + 1, 0, none⟩) (show g0 ≠ g0 + 1 by omega) (.int .i64 (1666666 * f))).far (p := ⟨g0 + 1, 1, none⟩) (show g0 ≠ g0 + 1 by omega) (.int .i64 (1666666 * (f + 1 + g) + 40))
    replace B2 := (B2.set 0 (.int .i64 (1666666 * f))).set 1 (.int .i64 (1666666 * (f + 1 + g) + 40))
    replace hb1 := (hb1.setCell (p := ⟨g0 + 1, 0, none⟩) (show g0 ≤ g0 + 1 by omega) (.int .i64 (1666666 * f))).setCell (p := ⟨g0 + 1, 1, none⟩) (show g0 ≤ g0 + 1 by omega) (.int .i64 (1666666 * (f + 1 + g) + 40))
    clear c0 c1 f0 f1 u0 u1 d0 d1
    generalize (w2.setCell ⟨g0 + 1, 0, none⟩ (.int .i64 (1666666 * f))).setCell ⟨g0 + 1, 1, none⟩ (.int .i64 (1666666 * (f + 1 + g) + 40)) = w3 at *
    have c0 := B2.cell 0 rfl
    have c1 := B2.cell 1 rfl
    have u0 := B1.frozen 0
    have u1 := B1.frozen 1
    have d0 := B1.cell 0 rfl
    have d1 := B1.cell 1 rfl
    go_wp2
    replace hb1 := (hb1.setCell (p := ⟨g0, 0, none⟩) (Nat.le_refl g0) (.int .i64 (1666666 * f))).setCell (p := ⟨g0, 1, none⟩) (Nat.le_refl g0) (.int .i64 (1666666 * (f + 1 + g) + 40))
    replace B1 := (B1.set 0 (.int .i64 (1666666 * f))).set 1 (.int .i64 (1666666 * (f + 1 + g) + 40))
    clear c0 c1 u0 u1 d0 d1
    generalize (w3.setCell ⟨g0, 0, none⟩ (.int .i64 (1666666 * f))).setCell ⟨g0, 1, none⟩ (.int .i64 (1666666 * (f + 1 + g) + 40)) = w9 at *
    exact bodyPost_ret (results_Rg rfl _ _ rfl B1) rfl ⟨_, _, rfl, hb1⟩
  · go_upto_region 5 with (first
      | (go_at_call 27; refine (p3 _).mono ?_; rintro _ _ ⟨rfl, rfl⟩)
      | fail)
    go_wp2
    replace hb1 := (hb1.setCell (p := ⟨g0, 0, none⟩) (Nat.le_refl g0) (.int .i64 (f))).setCell (p := ⟨g0, 1, none⟩) (Nat.le_refl g0) (.int .i64 (f + 1 + g))
    replace B1 := (B1.set 0 (.int .i64 (f))).set 1 (.int .i64 (f + 1 + g))
    clear c0 c1 u0 u1 d0 d1
    generalize (w2.setCell ⟨g0, 0, none⟩ (.int .i64 (f))).setCell ⟨g0, 1, none⟩ (.int .i64 (f + 1 + g)) = w9 at *
    exact bodyPost_ret (results_Rg rfl _ _ rfl B1) rfl ⟨_, _, rfl, hb1⟩
end Go.Proofs.YtlldlkjngcgcjaaGreatDoor
namespace Go.Proofs.YtlldlkjngcgcjaaGreatDoor
set_option linter.unusedVariables false
set_option linter.unusedSimpArgs false
open Go.RowKit Go.Shelf
attribute [local go_sem] Oper.semAt_some
set_option maxRecDepth 100000 in
set_option maxHeartbeats 4000000 in
theorem r13holder_any (bs : List Blk3) (A : Option Addr) (cap : Nat) (n : Int) (w : World) (hA : At 3 blC w w.heap.size A bs) (hn : bs.length ≤ cap) (hl : bs.length ≤ 9223372036854775807) :
    Calls Tryz.prog 112 #[.slice A bs.length cap, .int .i64 n] w fun e w' => (∃ z : Int, e = .returned (.int .i64 z)) ∧ w' = w := by
  go_enter Tryz.func112, Tryz.ntmps112
  go_wp2
  go_loopw [5] (fun s5 wr => ∃ (k : Nat), k ≤ bs.length ∧ s5 = .int .i64 k ∧ wr = w) (fun s5 _ => bs.length - (intOf s5).toNat)
  case atStart => exact ⟨0, Nat.zero_le _, rfl, rfl⟩
  case round =>
    obtain ⟨k, hk, rfl, rfl⟩ := hrel
    by_cases hlt : k < bs.length
    · obtain ⟨b, off, rfl, hbB, hcell⟩ := hA (by omega)
      have hck : bs[k]? = some bs[k] := List.getElem?_eq_getElem hlt
      have hcl := hcell k _ hck
      have hcl0 := hcl 0 _ rfl
      have hcl1 := hcl 1 _ rfl
      have hcl2 := hcl 2 _ rfl
      simp only [Nat.add_zero] at hcl0
      clear hcell hck hcl hbB
      generalize bs[k] = x at *
      obtain ⟨xf, xt, xc⟩ := x
      dsimp only at hcl0 hcl1 hcl2
      by_cases q1 : xf ≤ n
      · by_cases q2 : n < xt
        · go_wp2
          go_ret
          exact ⟨⟨_, rfl⟩, rfl⟩
        · go_wp2
          exact ⟨⟨k + 1, by omega, by go_num, trivial⟩, by simp [intOf]; omega⟩
      · go_wp2
        exact ⟨⟨k + 1, by omega, by go_num, trivial⟩, by simp [intOf]; omega⟩
    · clear hA
      go_wp2
      go_ret
      exact ⟨⟨_, rfl⟩, rfl⟩
theorem bl_cell {bs : List Blk3} {A : Option Addr} {B : Nat} {w : World} (hA : At 3 blC w B A bs) {k : Nat} (hk : k < bs.length) : ∃ b off f t c, A = some ⟨b, off, none⟩ ∧ b < B ∧ w.cell? ⟨b, off + k * 3, none⟩ = some (.int .i64 f) ∧ w.cell? ⟨b, off + k * 3 + 1, none⟩ = some (.int .i64 t) ∧ w.cell? ⟨b, off + k * 3 + 2, none⟩ = some (.int .i64 c) := by
  obtain ⟨b, off, rfl, hbB, hcell⟩ := hA (by omega)
  have hck : bs[k]? = some bs[k] := List.getElem?_eq_getElem hk
  have hcl := hcell k _ hck
  exact ⟨b, off, _, _, _, rfl, hbB, hcl 0 _ rfl, hcl 1 _ rfl, hcl 2 _ rfl⟩
set_option maxRecDepth 100000 in
set_option maxHeartbeats 4000000 in
theorem r13Valid_any (bs : List Blk3) (A : Option Addr) (cap g : Nat) (w : World) (hA : At 3 blC w g A bs) (hgw : w.heap.size = g) (hn : bs.length ≤ cap) (hl : bs.length ≤ 9223372036854775807) :
    Calls Tryz.prog 67 #[.slice A bs.length cap] w fun e w' => (∃ r : Bool, e = .returned (.bool r) ∧ (r = true → bs.length ≤ 40)) ∧ Below g w w' := by
  go_enter Tryz.func67, Tryz.ntmps67
  by_cases h40 : bs.length ≤ 40
  · go_wp2
    go_loopw [3] (fun s3 wr => ∃ (k : Nat), k ≤ bs.length ∧ s3 = .int .i64 k ∧ Below g w wr) (fun s3 _ => bs.length - (intOf s3).toNat)
    case atStart => exact ⟨0, Nat.zero_le _, rfl, Below.refl _ _⟩
    case round =>
      obtain ⟨k, hk, rfl, hb⟩ := hrel
      by_cases hlt : k < bs.length
      · have hA' := hA.below hb
        obtain ⟨b, off, f, t, c, rfl, hbB, c0, c1, c2⟩ := bl_cell hA' hlt
        have hgr : g ≤ wr.heap.size := by rw [← hgw]; exact hb.size
        have h1 := r13Range_any f t wr
        have h2 := fun w0 => r13carrier_any c w0
        generalize rgB f t = r1 at *
        generalize caB c = r2 at *
        clear hA
        go_upto_region 6 with fail
        go_wp2_with (first
          | (go_at_call 68; refine h1.mono ?_; rintro _ w1 ⟨rfl, hb1⟩; replace hb := hb.trans (hb1.mono hgr); replace c0 := (hb1.cell (p := ⟨b, _, none⟩) (Nat.lt_of_lt_of_le hbB hgr)).trans c0; replace c1 := (hb1.cell (p := ⟨b, _, none⟩) (Nat.lt_of_lt_of_le hbB hgr)).trans c1; replace c2 := (hb1.cell (p := ⟨b, _, none⟩) (Nat.lt_of_lt_of_le hbB hgr)).trans c2; replace hA' := hA'.below (hb1.mono hgr); clear h1 hb1 hgr; cases r1)
          | (go_at_call 69; refine (h2 _).mono ?_; rintro _ _ ⟨rfl, rfl⟩; clear h2; cases r2)
          | fail)
        · go_ret
          exact ⟨⟨_, rfl, by simp⟩, hb⟩
        · go_ret
          exact ⟨⟨_, rfl, by simp⟩, hb⟩
        · rcases Nat.eq_zero_or_pos k with h0 | h0
          · subst h0
            have t0 : decide ((0 : Int) < ((0 : Nat) : Int)) = false := rfl
            clear hA'
            refine wp_region_quiet_below (by kernel_rfl) (by kernel_rfl) ?_
            repeat (go_big_quiet_step (fail))
            refine wpQuiet_nil ?_
            rintro _ ⟨q, rfl⟩
            replace hb := hb.trans ((below_regrown w1 q.d q.os).mono (hgw ▸ hb.size))
            go_wp2
            first
              | exact ⟨⟨0 + 1, by omega, by go_num, hb⟩, by simp [intOf]; omega⟩
              | (go_ret; exact ⟨⟨_, rfl, by simp⟩, hb⟩)
              | (go_ret; exact ⟨.inl rfl, hb⟩)
          · have t0 : decide ((0 : Int) < (k : Int)) = true := decide_eq_true (by omega)
            have z1 : 0 < (k : Int) := by omega
            have z2 : 0 ≤ (k : Int) - 1 := by omega
            have z3 : (k : Int) - 1 < bs.length := by omega
            obtain ⟨b', off', pf, pt, pc, e9, -, d0, d1, d2⟩ := bl_cell hA' (show k - 1 < bs.length by omega)
            simp only [Option.some.injEq, Addr.mk.injEq, and_true] at e9
            obtain ⟨rfl, rfl⟩ := e9
            clear hA' d0
            replace c0 := cell_regrown c0
            replace c2 := cell_regrown c2
            replace d1 := cell_regrown d1
            replace d2 := cell_regrown d2
            clear c1
            by_cases q1 : f < pt
            · have t1 : decide (f < pt) = true := decide_eq_true q1
              refine wp_region_quiet_below (by kernel_rfl) (by kernel_rfl) ?_
              repeat (go_big_quiet_step (fail))
              refine wpQuiet_nil ?_
              rintro _ ⟨q, rfl⟩
              replace hb := hb.trans ((below_regrown w1 q.d q.os).mono (hgw ▸ hb.size))
              go_wp2
              first
                | exact ⟨⟨k + 1, by omega, by go_num, hb⟩, by simp [intOf]; omega⟩
                | (go_ret; exact ⟨⟨_, rfl, by simp⟩, hb⟩)
                | (go_ret; exact ⟨.inl rfl, hb⟩)
            · have t1 : decide (f < pt) = false := decide_eq_false q1
              by_cases q2 : pt = f
              · have t2 : (pt == f) = true := by simpa using q2
                by_cases q3 : pc = c
                · have t3 : (pc == c) = true := by simpa using q3
                  refine wp_region_quiet_below (by kernel_rfl) (by kernel_rfl) ?_
                  repeat (go_big_quiet_step (fail))
                  refine wpQuiet_nil ?_
                  rintro _ ⟨q, rfl⟩
                  replace hb := hb.trans ((below_regrown w1 q.d q.os).mono (hgw ▸ hb.size))
                  go_wp2
                  first
                    | exact ⟨⟨k + 1, by omega, by go_num, hb⟩, by simp [intOf]; omega⟩
                    | (go_ret; exact ⟨⟨_, rfl, by simp⟩, hb⟩)
                    | (go_ret; exact ⟨.inl rfl, hb⟩)
                · have t3 : (pc == c) = false := by simpa using q3
                  refine wp_region_quiet_below (by kernel_rfl) (by kernel_rfl) ?_
                  repeat (go_big_quiet_step (fail))
                  refine wpQuiet_nil ?_
                  rintro _ ⟨q, rfl⟩
                  replace hb := hb.trans ((below_regrown w1 q.d q.os).mono (hgw ▸ hb.size))
                  go_wp2
                  first
                    | exact ⟨⟨k + 1, by omega, by go_num, hb⟩, by simp [intOf]; omega⟩
                    | (go_ret; exact ⟨⟨_, rfl, by simp⟩, hb⟩)
                    | (go_ret; exact ⟨.inl rfl, hb⟩)
              · have t2 : (pt == f) = false := by simpa using q2
                refine wp_region_quiet_below (by kernel_rfl) (by kernel_rfl) ?_
                repeat (go_big_quiet_step (fail))
                refine wpQuiet_nil ?_
                rintro _ ⟨q, rfl⟩
                replace hb := hb.trans ((below_regrown w1 q.d q.os).mono (hgw ▸ hb.size))
                go_wp2
                first
                  | exact ⟨⟨k + 1, by omega, by go_num, hb⟩, by simp [intOf]; omega⟩
                  | (go_ret; exact ⟨⟨_, rfl, by simp⟩, hb⟩)
                  | (go_ret; exact ⟨.inl rfl, hb⟩)
      · clear hA
        go_wp2
        go_ret
        exact ⟨⟨_, rfl, fun _ => h40⟩, hb⟩
  · go_wp2
    go_ret
    exact ⟨⟨_, rfl, by simp⟩, Below.refl _ _⟩
end Go.Proofs.YtlldlkjngcgcjaaGreatDoor

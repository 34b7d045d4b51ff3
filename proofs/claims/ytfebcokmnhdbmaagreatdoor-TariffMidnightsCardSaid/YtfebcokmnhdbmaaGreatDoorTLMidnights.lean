/- TariffMidnights of package dialtonelaw37 returns true. -/
import Derived.Test.YtfebcokmnhdbmaaGreatDoorQ16
import Derived.Test.YtfebcokmnhdbmaaGreatDoorQ17
namespace Go.Proofs.YtfebcokmnhdbmaaGreatDoor
set_option linter.unusedVariables false
set_option linter.unusedSimpArgs false
open Go.RowKit Go.Shelf
theorem Mids_ok (off a b : Int) (w : World) (ho : -50400 ≤ off ∧ off ≤ 50400) (h0 : 0 ≤ a) (hab : a ≤ b) (hb : b ≤ 10000000) (l : List Int) (n : Nat) (hl : midsOf off a b = l) (hn : l.length = n) :
    Calls Tryz.prog 32 #[.int .i64 off, .agg #[.int .i64 a, .int .i64 b]] w fun e w' => (∃ C cc, e = .returned (.tuple #[.slice C n cc, .int .i64 0]) ∧ Kp (At 1 intC w' w'.heap.size C l ∧ n ≤ cc)) ∧ Below w.heap.size w w' := by
  subst hl; subst hn
  have h := Midnights_any off a b w
  have e2 : isZone off = true := Tp.within_iff.2 ho
  have e3 : isSpell a b = true := by
    unfold isSpell
    rw [Tp.within_iff.2 ⟨hab, hb⟩]
    simpa using h0
  rw [e2, e3, Bool.and_self] at h
  exact h.mono fun e w' ⟨⟨v, h1, h2⟩, h4⟩ => by
    rw [if_pos rfl] at h1 h2
    obtain ⟨C, cc, rfl, k1, k2, k3⟩ := RowZ.at (f := intC) (fun _ => rfl) h2
    exact ⟨⟨C, cc, h1, ⟨k1, k2⟩⟩, h4⟩
set_option maxRecDepth 100000 in
set_option maxHeartbeats 8000000 in
theorem tariffMidnights_any (off from_ long : Int) (w : World) (ho : I64 off) (hf : I64 from_) (hl : I64 long) (hE : Env w) :
    Calls Tryz.prog 12 #[.int .i64 off, .int .i64 from_, .int .i64 long] w fun e w' => e = .returned (.bool true) ∧ Below w.heap.size w w' := by
  obtain ⟨bs, L, z, a, b, hP⟩ := LP.ex 0 [] off from_ long
  have hv := hP.v
  have hz := hP.zz
  have ha0 := hP.a0
  have ha1 := hP.a1
  have hab := hP.ab
  have hb1' := hP.b1
  have hbs := hP.b0
  obtain ⟨l, hml⟩ := exK (midsOf z a b)
  obtain ⟨l2, hm2⟩ := exK (midsOf z a (a + 86400))
  obtain ⟨n, hnl⟩ := exK l.length
  have hday : Kp (l2.length = 1) := ⟨by rw [← hm2.out]; exact Tp.mids_day z a⟩
  have hmany := Tp.mids_many (off := z) hab (by omega)
  have e1 : ((Tp.mids 200 (Tp.first z a) b).length : Int) = (n : Int) := by rw [← hnl.out, ← hml.out]; rfl
  rw [e1] at hmany
  have hat : Kp (∀ (i : Nat) (x : Int), l[i]? = some x → a ≤ x ∧ x < b ∧ (x + z + 604800) % 86400 = 0 ∧ x = Tp.first z a + 86400 * i) := ⟨fun i x h => Tp.mids_at (by rw [← hml.out] at h; exact h)⟩
  clear e1 hbs hv
  go_enter Tryz.func12, Tryz.ntmps12
  go_wp2_with fail
  refine (sane_any w hE).mono ?_
  rintro _ w1 ⟨rfl, hb1⟩
  have hE1 := hE.below hb1
  have st : TS w w1 0 [] none 0 := ⟨hb1, ⟨At.nil, Nat.le_refl _, Nat.zero_le _, ⟨by decide, by decide⟩, fun r hr => by cases hr⟩, hE1⟩
  clear hb1 hE1
  have hZ := fun w0 => zoned_any off w0 ho
  rw [hP.ez.out] at hZ
  go_wp2_with fail
  refine (hZ _).mono ?_
  rintro _ _ ⟨rfl, rfl⟩
  have hD := fun w0 => during_any from_ long w0 hf hl
  rw [hP.ea.out, hP.eh.out] at hD
  go_wp2_with fail
  refine (hD _).mono ?_
  rintro _ w2 ⟨rfl, hb1⟩
  replace st := st.call hb1
  clear hb1
  go_upto_region 5 with fail
  have BS := Bx.mk w2 28 #[.int .i64 a, .int .i64 b]
  replace st := st.call (bNewW w2 (.cells #[.int .i64 a, .int .i64 b] 28))
  have lS := BS.lt
  generalize w2.alloc (.cells #[.int .i64 a, .int .i64 b] 28) = w3 at *
  generalize w2.heap.size = gS at *
  have cS0 := BS.cell 0 rfl
  have cS1 := BS.cell 1 rfl
  go_wp2_with fail
  refine (Mids_ok z a b _ hz ha0 hab (by omega) l n hml.out hnl.out).mono ?_
  rintro _ w4 ⟨⟨C, cc, rfl, hAt⟩, hb1⟩
  replace st := st.call hb1
  replace BS := BS.call hb1
  clear hb1
  clear cS0 cS1
  have cS0 := BS.cell 0 rfl
  have cS1 := BS.cell 1 rfl
  go_wp2_with fail
  refine (Mids_ok z a (a + 86400) _ hz ha0 (by omega) (by omega) l2 1 hm2.out hday.out).mono ?_
  rintro _ w5 ⟨⟨C2, cc2, rfl, hAt2⟩, hb1⟩
  replace st := st.call hb1
  replace BS := BS.call hb1
  replace hAt := Kp.mk (And.intro ((hAt.out.1.below hb1).more hb1.size) hAt.out.2)
  clear hAt2
  clear hb1
  clear cS0 cS1
  go_wp2_with fail
  go_loopw [13] (fun s13 wr => ∃ k : Nat, k ≤ n ∧ s13 = .int .i64 k ∧ Below w5.heap.size w5 wr) (fun s13 _ => n - (intOf s13).toNat)
  case atStart => exact ⟨0, Nat.zero_le _, rfl, Below.refl _ _⟩
  case round =>
    obtain ⟨k, hk, rfl, hb⟩ := hrel
    by_cases hlt : k < n
    · obtain ⟨hA0, hAc⟩ := hAt.out
      have hkl : k < l.length := by rw [hnl.out]; exact hlt
      obtain ⟨b9, o9, rfl, hb9, hcell⟩ := hA0 (by omega)
      have hx := List.getElem?_eq_getElem hkl
      have hxx := hat.out k _ hx
      have g0 : ∀ d os, (Sort.grow (redrawn wr d) os).cell? ⟨b9, o9 + k, none⟩ = some (.int .i64 l[k]) := fun d os => ((below_regrown wr d os).cell (p := ⟨b9, o9 + k, none⟩) (Nat.lt_of_lt_of_le hb9 hb.size)).trans ((hb.cell (p := ⟨b9, o9 + k, none⟩) hb9).trans (by have := hcell k _ hx 0 _ rfl; simpa using this))
      have s0 := fun d os => ((BS.below hb BS.lt).again d os).cell 0 rfl
      have s1 := fun d os => ((BS.below hb BS.lt).again d os).cell 1 rfl
      cases k with
      | zero =>
        simp only [Nat.add_zero] at g0
        generalize l[0] = x at *
        obtain ⟨x1, x2, x3, x4⟩ := hxx
        replace x4 := Kp.mk x4
        have t1 : decide (x < a) = false := by simp; omega
        have t2 : decide (x ≥ b) = false := by simp; omega
        clear hcell hx hA0
        go_wp2_with fail
        refine wp_region_quiet_below (by kernel_rfl) (by kernel_rfl) ?_
        repeat (go_big_quiet_step (fail))
        refine wpQuiet_nil ?_
        rintro _ ⟨q, rfl⟩
        clear g0 s0 s1
        go_wp2
        exact ⟨⟨1, by omega, by go_num, hb.trans ((below_regrown wr q.d q.os).mono hb.size)⟩, by simp [intOf]; omega⟩
      | succ m =>
        have hml2 : m < l.length := by omega
        have hy := List.getElem?_eq_getElem hml2
        have hyy := hat.out m _ hy
        have g1 : ∀ d os, (Sort.grow (redrawn wr d) os).cell? ⟨b9, o9 + m, none⟩ = some (.int .i64 l[m]) := fun d os => ((below_regrown wr d os).cell (p := ⟨b9, o9 + m, none⟩) (Nat.lt_of_lt_of_le hb9 hb.size)).trans ((hb.cell (p := ⟨b9, o9 + m, none⟩) hb9).trans (by have := hcell m _ hy 0 _ rfl; simpa using this))
        generalize l[m + 1] = x at *
        generalize l[m] = y at *
        obtain ⟨x1, x2, x3, x4⟩ := hxx
        obtain ⟨y1, y2, y3, y4⟩ := hyy
        have hxy : x - y = 86400 := by rw [x4, y4, Int.natCast_add]; omega
        replace x4 := Kp.mk x4
        replace y4 := Kp.mk y4
        have t1 : decide (x < a) = false := by simp; omega
        have t2 : decide (x ≥ b) = false := by simp; omega
        have hmb : m ≤ 1000000 := by omega
        clear hcell hx hA0 hy
        go_wp2_with fail
        refine wp_region_quiet_below (by kernel_rfl) (by kernel_rfl) ?_
        repeat (go_big_quiet_step (fail))
        refine wpQuiet_nil ?_
        rintro _ ⟨q, rfl⟩
        clear g0 g1 s0 s1
        go_wp2
        exact ⟨⟨m + 2, by omega, by go_num, hb.trans ((below_regrown wr q.d q.os).mono hb.size)⟩, by simp [intOf]; omega⟩
    · obtain rfl : k = n := by omega
      have s0 := (BS.below hb BS.lt).cell 0 rfl
      have s1 := (BS.below hb BS.lt).cell 1 rfl
      have hfin := bCall st.bl hb
      rcases hmany with h | h
      · go_wp2
        go_ret
        exact ⟨rfl, hfin⟩
      · go_wp2
        go_ret
        exact ⟨rfl, hfin⟩
end Go.Proofs.YtfebcokmnhdbmaaGreatDoor

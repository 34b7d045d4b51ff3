/- dialtoneref12.Bent: some plan. Printed by gen_pd.py. -/
import Derived.Test.YtpifllonlchhhaaGreatDoorP13
import Derived.Test.YtpifllonlchhhaaGreatDoorP14
namespace Go.Proofs.YtpifllonlchhhaaGreatDoor
set_option linter.unusedVariables false
set_option linter.unusedSimpArgs false
open Go.RowKit
/-- one string or number of an own row of codes written anew -/
theorem RowC.setCode {B cap g i r : Nat} {p : List Pl.Cd} {w : World} {u : Value} {c' : Pl.Cd} (h : RowC 29 3 B cap p.length (p.flatMap codeC) (.slice (some ⟨g, 0, none⟩) p.length cap) w) (hi : i < p.length) (hr : r < 3) (hu : codeC c' = (codeC p[i]).set r u) :
    RowC 29 3 B cap (p.set i c').length ((p.set i c').flatMap codeC) (.slice (some ⟨g, 0, none⟩) (p.set i c').length cap) (w.setCell ⟨g, i * 3 + r, none⟩ u) := by
  obtain ⟨g', cs, e, hg, hc, hB, hs, hf⟩ := h
  simp only [Value.slice.injEq, Option.some.injEq, Addr.mk.injEq, and_true, true_and] at e
  subst e
  have hfl : (p.flatMap codeC).length = p.length * 3 := flat_len (f := codeC) (size := 3) (fun _ => rfl) p
  have hfl2 : ((p.set i c').flatMap codeC).length = p.length * 3 := by rw [flat_len (f := codeC) (size := 3) (fun _ => rfl), List.length_set]
  rw [List.length_set]
  refine ⟨g, _, rfl, hg, hc, hB.set (i * 3 + r) u, by simpa using hs, flat_of hfl2 (by simp only [Array.size_setIfInBounds]; rw [hs]; omega) fun j hj => ?_⟩
  obtain ⟨q, k, rfl, hk⟩ : ∃ q k, j = q * 3 + k ∧ k < 3 := ⟨j / 3, j % 3, by omega, Nat.mod_lt _ (by decide)⟩
  have hq : q < p.length := by omega
  have hcj : cs[q * 3 + k]? = (codeC p[q])[k]? := by
    rw [flat_cells hfl hf hj, flat_get (f := codeC) (size := 3) (fun _ => rfl) p q k p[q] (List.getElem?_eq_getElem hq) hk]
  have hq' : q < (p.set i c').length := by rw [List.length_set]; exact hq
  rw [flat_get (f := codeC) (size := 3) (fun _ => rfl) (p.set i c') q k (p.set i c')[q] (List.getElem?_eq_getElem hq') hk, Array.getElem?_setIfInBounds]
  by_cases e1 : q = i
  · subst e1
    rw [List.getElem_set_self, hu]
    by_cases e2 : k = r
    · subst e2
      rw [if_pos rfl, if_pos (by rw [hs]; omega), List.getElem?_set_self (by simpa [codeC] using hk)]
    · rw [if_neg (by omega), hcj, List.getElem?_set_ne (by omega)]
  · rw [List.getElem_set_ne (by omega), if_neg (by omega), hcj]
/-- what a plan bent is -/
def BeV (v : Value) (w : World) : Prop := ∃ q : List Pl.Cd, PlanV q v w ∧ q.length ≤ 9 ∧ Small q
theorem small_set {p : List Pl.Cd} {i : Nat} {c : Pl.Cd} (h : Small p) (hc : c.old.length ≤ 1000 ∧ c.new.length ≤ 1000 ∧ -9223372036854775808 ≤ c.len ∧ c.len ≤ 9223372036854775807) : Small (p.set i c) := fun x hx => by
  rcases List.mem_or_eq_of_mem_set hx with h1 | h1
  · exact h x h1
  · rw [h1]; exact hc
theorem beV_set {B cap g i : Nat} {p : List Pl.Cd} {w : World} {c : Pl.Cd} (h : RowC 29 3 B cap (p.set i c).length ((p.set i c).flatMap codeC) (.slice (some ⟨g, 0, none⟩) (p.set i c).length cap) w) (hm : cap ≤ maxLen) (hl : p.length ≤ 8) (hs : Small (p.set i c)) : BeV (.slice (some ⟨g, 0, none⟩) p.length cap) w := by
  obtain ⟨A, e1, e2, e3⟩ := RowC.at (f := codeC) (fun _ => rfl) h
  refine ⟨p.set i c, ⟨A, cap, ?_, e2, e3, hm⟩, by rw [List.length_set]; omega, hs⟩
  rw [List.length_set] at e1 ⊢
  exact e1
set_option maxRecDepth 100000 in
set_option maxHeartbeats 4000000 in
theorem Bent_any (p : List Pl.Cd) (A : Option Addr) (cap : Nat) (how n a : Int) (w : World) (hA : At 3 codeC w w.heap.size A p) (hn : p.length ≤ cap) (hp8 : p.length ≤ 8) (hsm : ∀ c ∈ p, c.old.length ≤ 100 ∧ c.new.length ≤ 100 ∧ -9223372036854775808 ≤ c.len ∧ c.len ≤ 9223372036854775807) (h1 : I64 how) (h2 : I64 n) (h3 : I64 a) :
    Calls Tryz.prog 7 #[.slice A p.length cap, .int .i64 how, .int .i64 n, .int .i64 a] w fun e w' => ∃ v, e = .returned v ∧ Below w.heap.size w w' ∧ BeV v w' := by
  obtain ⟨ti, tz, hti, hzz, hs1, hz1, hby⟩ := codeI
  have hsp : Small p := fun c hc => by have := hsm c hc; omega
  have hb := bNx w (.cells #[] 29)
  have hR9 := roE_new (B := w.heap.size) (e := 29) w (Nat.le_refl _) undef
  have hsrc := At.src (P := Tryz.prog) (e := 29) (t := 24) (f := codeC) (fun _ => rfl) codeC_one Tryz.underlying24 (hA.call hb) cap
  have hsz := hb.size
  go_enter Tryz.func7, Tryz.ntmps7
  go_upto_region 2 with (at_builtin; refine wpList_append_E rfl (.tmp 11) (.tmp 12) 24 29 rfl ti tz 3 w.heap.size p.length (p.flatMap codeC) (.slice (some ⟨w.heap.size, 0, none⟩) 0 0) (.slice A p.length cap) undef Tryz.underlying24 hti hzz hs1 hz1 rfl rfl hR9 hsz hsrc (by unfold maxLen; omega) (by rw [hby]; omega) ?_; intro v' w1 q1 q2; replace q1 := Kp.mk q1; replace q2 := Kp.mk q2)
  replace hb := bCall hb q1.out
  have hrow := q2.out
  clear q1 q2 hR9 hsrc hsz hA
  rcases Nat.eq_zero_or_pos p.length with h0 | h0
  · obtain rfl : p = [] := List.length_eq_zero_iff.1 h0
    clear h0 hsm hsp hn hp8
    obtain ⟨A1, c1, rfl, hA1, hc1, hm1⟩ := RowZ.at (p := ([] : List Pl.Cd)) (f := codeC) (fun _ => rfl) hrow
    simp only [List.length_nil, List.flatMap_nil] at hrow
    go_upto_region 3 with fail
    have hbA : Below w1.heap.size w1 (w1.alloc (.cells #[.string ⟨#[]⟩, .string ⟨#[]⟩, .int .i64 n] 29)) := bNew (Below.refl _ _) _
    have hRowA := stab_rowZ _ _ _ _ _ _ _ _ hrow hbA
    have hsrc : Src Tryz.prog 3 24 (.slice (some ⟨w1.heap.size, 0, none⟩) 1 1) 1 (codeC (⟨[], [], n⟩ : Pl.Cd)) (w1.alloc (.cells #[.string ⟨#[]⟩, .string ⟨#[]⟩, .int .i64 n] 29)) := RowC.src (P := Tryz.prog) (B := 0) (cap := 1) (e := 29) (t := 24) (codeC_one _) Tryz.underlying24 ⟨w1.heap.size, _, rfl, Nat.zero_le _, Nat.le_refl _, Bx.mk _ _ _, rfl, rfl⟩
    have hbx := hb.trans (hbA.mono hb.size)
    have hsz := hbx.size
    go_wp2_with (at_builtin; refine wpList_append_rowF rfl (.tmp 17) (.tmp 20) 24 29 rfl ti tz 3 w.heap.size 0 1 [] (codeC (⟨[], [], n⟩ : Pl.Cd)) _ (.slice (some ⟨w1.heap.size, 0, none⟩) 1 1) Tryz.underlying24 hti hzz hs1 hz1 rfl rfl hRowA hsz hsrc (by decide) (by unfold maxLen; omega) (by rw [hby]; omega) ?_; intro v9 w2 e1 e0 e4; replace e1 := Kp.mk e1; replace e0 := Kp.mk e0; replace e4 := Kp.mk e4)
    replace hrow := e4.out
    replace hb := hbx.trans e1.out
    clear hRowA hsrc hbx hsz e1 e0 e4 hbA
    go_ret
    obtain ⟨A5, c5, e5, hA5, hc5, hm5⟩ := RowZ.at (p := [(⟨[], [], n⟩ : Pl.Cd)]) (f := codeC) (fun _ => rfl) (show RowZ 29 3 w.heap.size [(⟨[], [], n⟩ : Pl.Cd)].length ([(⟨[], [], n⟩ : Pl.Cd)].flatMap codeC) v9 w2 from hrow)
    exact ⟨_, rfl, hb, [⟨[], [], n⟩], ⟨A5, c5, e5, hA5, hc5, hm5⟩, by simp, fun c hc => by rw [List.mem_singleton.1 hc]; exact ⟨by simp, by simp, h2.1, h2.2⟩⟩
  · rcases hrow with ⟨-, h9, -⟩ | ⟨c1, hrow, hm1⟩
    · omega
    obtain ⟨g, cs, rfl, hg, hc1, hB, hcs, hfl⟩ := hrow
    have hrow : RowC 29 3 w.heap.size c1 p.length (p.flatMap codeC) (.slice (some ⟨g, 0, none⟩) p.length c1) w1 := ⟨g, cs, rfl, hg, hc1, hB, hcs, hfl⟩
    have t1 : ((p.length : Int) == 0) = false := beq_eq_false_iff_ne.2 (by omega)
    have hpa := fun w0 => pickRef_any a p.length (by omega) h3.1 h3.2 w0
    have hph := fun w0 => pickRef_any how 6 (by decide) h1.1 h1.2 w0
    have ha0 := Pl.pick_lt' a p.length (by omega)
    have hh0 := Pl.pick_lt' how 6 (by decide)
    generalize Pl.pick a p.length = ai at *
    generalize Pl.pick how 6 = hw at *
    obtain ⟨i, rfl⟩ := Int.eq_ofNat_of_zero_le ha0.1
    have hip : i < p.length := by omega
    have hci : p[i]? = some p[i] := List.getElem?_eq_getElem hip
    obtain ⟨A5, e5, hA5, -⟩ := RowC.at (f := codeC) (fun _ => rfl) hrow
    cases e5
    obtain ⟨b5, o5, e6, hb5, hc5⟩ := hA5 h0
    cases e6
    have c0 := hc5 i _ hci 0 _ rfl
    have c1' := hc5 i _ hci 1 _ rfl
    have hd0 := hc5 0 p[0] (List.getElem?_eq_getElem h0) 0 _ rfl
    have hd1 := hc5 0 p[0] (List.getElem?_eq_getElem h0) 1 _ rfl
    have hd2 := hc5 0 p[0] (List.getElem?_eq_getElem h0) 2 _ rfl
    have hsi := hsm p[i] (List.getElem_mem hip)
    have hs0 := hsm p[0] (List.getElem_mem h0)
    have hset := fun (r : Nat) (u : Value) (c' : Pl.Cd) (hr : r < 3) (hu : codeC c' = (codeC p[i]).set r u) => RowC.setCode hrow hip hr hu
    have hrz : RowZ 29 3 w.heap.size p.length (p.flatMap codeC) (.slice (some ⟨g, 0, none⟩) p.length c1) w1 := .inr ⟨c1, hrow, hm1⟩
    have f0 := hB.frozen (i * 3)
    have f1 := hB.frozen (i * 3 + 1)
    have f2 := hB.frozen (i * 3 + 2)
    have c2' := hc5 i _ hci 2 _ rfl
    simp only [Nat.zero_add, Nat.add_zero, Nat.zero_mul] at c0 c1' c2' hd0 hd1 hd2
    have hB9 := hB
    have hset9 : ∀ (W : World), Below w1.heap.size w1 W → ∀ (u : List UInt8), RowC 29 3 w.heap.size c1 (p.set i ⟨u, p[i].new, p[i].len⟩).length ((p.set i ⟨u, p[i].new, p[i].len⟩).flatMap codeC) (.slice (some ⟨g, 0, none⟩) (p.set i ⟨u, p[i].new, p[i].len⟩).length c1) (W.setCell ⟨g, i * 3, none⟩ (.string ⟨u.toArray⟩)) := fun W hW u => RowC.setCode (r := 0) (stab_rowC _ _ _ _ _ _ _ _ _ hrow hW) hip (by decide) rfl
    clear hci hA5 hc5 hsm hcs hfl hrow hb5 hB
    generalize hci9 : p[i] = ci at *
    generalize hc09 : p[0] = cz at *
    obtain ⟨o, nw, l⟩ := ci
    obtain ⟨oz, nz, lz⟩ := cz
    dsimp only at c0 c1' c2' hd0 hd1 hd2 hsi hs0
    clear hci9 hc09
    go_upto_region 4 with fail
    clear t1
    have y0 : (0 : Int) ≤ (i : Int) := by omega
    have y1 : (i : Int) < (p.length : Int) := by omega
    go_wp2_with fail
    refine (hpa _).mono ?_
    rintro _ _ ⟨rfl, rfl⟩
    go_wp2_with fail
    refine (hph _).mono ?_
    rintro _ _ ⟨rfl, rfl⟩
    clear hpa hph
    have hset2 := hset 2 (.int .i64 n) ⟨o, nw, n⟩ (by decide) rfl
    have hset1 := fun (u : List UInt8) => hset 1 (.string ⟨u.toArray⟩) ⟨o, u, l⟩ (by decide) rfl
    have hset0 := fun (u : List UInt8) => hset 0 (.string ⟨u.toArray⟩) ⟨u, nw, l⟩ (by decide) rfl
    simp only [Nat.add_zero] at hset0
    have hbs := fun (r : Nat) (u : Value) => hb.setCell (p := ⟨g, r, none⟩) hg u
    clear hset
    rcases (show hw = 0 ∨ hw = 1 ∨ hw = 2 ∨ hw = 3 ∨ hw = 4 ∨ hw = 5 by omega) with rfl | rfl | rfl | rfl | rfl | rfl
    · have hq := hset2
      clear hset0 hset1 hset2 hrz hd0 hd1 hd2 c0 c1'
      go_wp2
      go_ret
      exact ⟨_, rfl, hbs _ _, beV_set hq hm1 hp8 (small_set hsp ⟨by dsimp only; omega, by dsimp only; omega, h2.1, h2.2⟩)⟩
    · have hz := Pl.pick_lt' n 1000 (by decide)
      have hpn := fun w0 => calls_below (pickRef_any n 1000 (by decide) h2.1 h2.2 w0)
      generalize Pl.pick n 1000 = z at *
      have hpx := fun w0 => prefix_any z 3 hz.1 (by omega) (by decide) (by decide) w0
      have hul : (Pl.pref z.toNat (3 : Int).toNat).length = 3 := pref_len _ _
      generalize Pl.pref z.toNat (3 : Int).toNat = u at *
      have hq := fun (W : World) (hW : Below w1.heap.size w1 W) => hset9 W hW (o ++ u)
      clear hset0 hset1 hset2 hrz hd0 hd1 hd2 c1' c2' hbs f1 f2
      have hc9 : ¬ 9223372036854775807 < o.length + u.length := by omega
      have hglt : g < w1.heap.size := hB9.lt
      go_upto_region 10 with fail
      refine wp_region_rgl [Eqv (.pointer (some ⟨g, i * 3, none⟩)), Eqv (.pointer (some ⟨g, i * 3, none⟩)), Eqv (.pointer (some ⟨g, i * 3, none⟩)), Eqv (.pointer (some ⟨g, i * 3, none⟩)), Eqv (.string ⟨o.toArray⟩), Eqv (.int .i64 n), Eqv (.int .i64 z), Eqv (.string ⟨u.toArray⟩), Eqv (.string ⟨(o ++ u).toArray⟩), Eqv (.pointer (some ⟨g, i * 3, none⟩)), Eqv (.pointer (some ⟨g, i * 3, none⟩))] 11 80 (by kernel_rfl) rfl rfl (by kernel_rfl) ?_ ?_ ?_
      · simp only [AllS]
        exact ⟨stab_eqv _, stab_eqv _, stab_eqv _, stab_eqv _, stab_eqv _, stab_eqv _, stab_eqv _, stab_eqv _, stab_eqv _, stab_eqv _, stab_eqv _, trivial⟩
      · simp only [Users, List.take, List.length]
        refine ⟨?_, ?_, ?_, ?_, ?_, ?_, ?_, ?_, ?_, ?_, ?_, trivial⟩
        all_goals (intro vs w2 hb2 hd; simp only [putD, Act.put, List.nil_append, List.cons_append, List.setIfInBounds_toArray, List.set_cons_succ, List.set_cons_zero, Nat.reduceAdd])
        · clear hd hq c0 hpn hpx hB9; go_wp2; first | exact ⟨Below.refl _ _, rfl⟩ | exact ⟨Below.refl _ _, by simp [Eqv]⟩ | (simp [Eqv])
        · clear hd hq c0 hpn hpx hB9; go_wp2; first | exact ⟨Below.refl _ _, rfl⟩ | exact ⟨Below.refl _ _, by simp [Eqv]⟩ | (simp [Eqv])
        · have e0 := hd 1 rfl; change vs 1 = _ at e0; clear hd hq c0 hpn hpx hB9; rw [e0]; go_wp2; first | exact ⟨Below.refl _ _, rfl⟩ | exact ⟨Below.refl _ _, by simp [Eqv]⟩ | (simp [Eqv])
        · have e0 := hd 2 rfl; change vs 2 = _ at e0; clear hd hq c0 hpn hpx hB9; rw [e0]; go_wp2; first | exact ⟨Below.refl _ _, rfl⟩ | exact ⟨Below.refl _ _, by simp [Eqv]⟩ | (simp [Eqv])
        · have e0 := hd 3 rfl; change vs 3 = _ at e0; have x0 := (hb2.cell (p := ⟨g, _, none⟩) hglt).trans c0; clear hd hq c0 hpn hpx hB9; rw [e0]; go_wp2; first | exact ⟨Below.refl _ _, rfl⟩ | exact ⟨Below.refl _ _, by simp [Eqv]⟩ | (simp [Eqv])
        · clear hd hq c0 hpn hpx hB9; go_wp2; first | exact ⟨Below.refl _ _, rfl⟩ | exact ⟨Below.refl _ _, by simp [Eqv]⟩ | (simp [Eqv])
        · have e0 := hd 5 rfl; change vs 5 = _ at e0; have hC := hpn w2; clear hd hq c0 hpn hpx hB9; rw [e0]
          go_wp2_with fail
          refine hC.mono ?_
          rintro _ w9 ⟨rfl, hb9⟩
          clear hC
          go_wp2
          first | exact ⟨hb9, rfl⟩ | exact ⟨Below.refl _ _, rfl⟩ | rfl
        · have e0 := hd 6 rfl; change vs 6 = _ at e0; have hC := hpx w2; clear hd hq c0 hpn hpx hB9; rw [e0]
          go_wp2_with fail
          refine hC.mono ?_
          rintro _ w9 ⟨rfl, hb9⟩
          clear hC
          go_wp2
          first | exact ⟨hb9, rfl⟩ | exact ⟨Below.refl _ _, rfl⟩ | rfl
        · have e0 := hd 4 rfl; change vs 4 = _ at e0; have e1 := hd 7 rfl; change vs 7 = _ at e1; clear hd hq c0 hpn hpx hB9; rw [e0, e1]; go_wp2; first | exact ⟨Below.refl _ _, rfl⟩ | exact ⟨Below.refl _ _, by simp [Eqv]⟩ | (simp [Eqv])
        · have e0 := hd 0 rfl; change vs 0 = _ at e0; clear hd hq c0 hpn hpx hB9; rw [e0]; go_wp2; first | exact ⟨Below.refl _ _, rfl⟩ | exact ⟨Below.refl _ _, by simp [Eqv]⟩ | (simp [Eqv])
        · have e0 := hd 9 rfl; change vs 9 = _ at e0; clear hd hq c0 hpn hpx hB9; rw [e0]; go_wp2; first | exact ⟨Below.refl _ _, rfl⟩ | exact ⟨Below.refl _ _, by simp [Eqv]⟩ | (simp [Eqv])
      · intro vs wa hba hR2
        simp only [AllR, Eqv] at hR2
        obtain ⟨-, -, -, -, -, -, -, -, e8, -, e10, -⟩ := hR2
        simp only [List.drop, List.take, List.map, putD, Act.put, List.setIfInBounds_toArray, List.set_cons_succ, List.set_cons_zero, Nat.reduceAdd]
        rw [e8, e10]
        have F9 := (hB9.call hba).frozen (i * 3)
        have C9 := (hba.cell (p := ⟨g, _, none⟩) hglt).trans c0
        have hq9 := hq wa hba
        have hb9 := (bCall hb hba).setCell (p := ⟨g, i * 3, none⟩) hg (.string ⟨(o ++ u).toArray⟩)
        clear hpn hpx hq hB9
        go_wp2
        go_ret
        exact ⟨_, rfl, hb9, beV_set hq9 hm1 hp8 (small_set hsp ⟨by dsimp only; rw [List.length_append]; omega, by dsimp only; omega, by dsimp only; omega, by dsimp only; omega⟩)⟩
    · have hq := hset1 (nw ++ [120])
      clear hset0 hset1 hset2 hrz hd0 hd1 hd2 c0
      have hc9 : ¬ 9223372036854775807 < nw.length + 1 := by omega
      go_wp2
      go_ret
      exact ⟨_, rfl, hbs _ _, beV_set hq hm1 hp8 (small_set hsp ⟨by dsimp only; omega, by dsimp only; rw [List.length_append, List.length_singleton]; omega, by dsimp only; omega, by dsimp only; omega⟩)⟩
    · have hq := hset1 o
      clear hset0 hset1 hset2 hrz hd0 hd1 hd2
      go_wp2
      go_ret
      exact ⟨_, rfl, hbs _ _, beV_set hq hm1 hp8 (small_set hsp ⟨by dsimp only; omega, by dsimp only; omega, by dsimp only; omega, by dsimp only; omega⟩)⟩
    · have hq := hset0 []
      clear hset0 hset1 hset2 hrz hd0 hd1 hd2 c1'
      go_wp2
      go_ret
      exact ⟨_, rfl, hbs _ _, beV_set hq hm1 hp8 (small_set hsp ⟨by simp, by dsimp only; omega, by dsimp only; omega, by dsimp only; omega⟩)⟩
    · clear hset0 hset1 hset2 c0 c1' c2' f0 f1 f2
      have y2 : (0 : Int) < (p.length : Int) := by omega
      go_upto_region 6 with fail
      have hbA : Below w1.heap.size w1 (w1.alloc (.cells #[.string ⟨oz.toArray⟩, .string ⟨nz.toArray⟩, .int .i64 lz] 29)) := bNew (Below.refl _ _) _
      have hRowA := stab_rowZ _ _ _ _ _ _ _ _ hrz hbA
      have hsrc : Src Tryz.prog 3 24 (.slice (some ⟨w1.heap.size, 0, none⟩) 1 1) 1 (codeC (⟨oz, nz, lz⟩ : Pl.Cd)) (w1.alloc (.cells #[.string ⟨oz.toArray⟩, .string ⟨nz.toArray⟩, .int .i64 lz] 29)) := RowC.src (P := Tryz.prog) (B := 0) (cap := 1) (e := 29) (t := 24) (codeC_one _) Tryz.underlying24 ⟨w1.heap.size, _, rfl, Nat.zero_le _, Nat.le_refl _, Bx.mk _ _ _, rfl, rfl⟩
      have hbx := hb.trans (hbA.mono hb.size)
      have hsz := hbx.size
      go_wp2_with (at_builtin; refine wpList_append_rowF rfl (.tmp 30) (.tmp 34) 24 29 rfl ti tz 3 w.heap.size p.length 1 (p.flatMap codeC) (codeC (⟨oz, nz, lz⟩ : Pl.Cd)) _ (.slice (some ⟨w1.heap.size, 0, none⟩) 1 1) Tryz.underlying24 hti hzz hs1 hz1 rfl rfl hRowA hsz hsrc (by decide) (by unfold maxLen; omega) (by rw [hby]; omega) ?_; intro v9 w2 e1 e0 e4; replace e1 := Kp.mk e1; replace e0 := Kp.mk e0; replace e4 := Kp.mk e4)
      replace hrz := e4.out
      replace hb := hbx.trans e1.out
      clear hRowA hsrc hbx hsz e1 e0 e4 hbA
      go_ret
      obtain ⟨A6, c6, e6, hA6, hc6, hm6⟩ := RowZ.at (p := p ++ [(⟨oz, nz, lz⟩ : Pl.Cd)]) (f := codeC) (fun _ => rfl) (show RowZ 29 3 w.heap.size (p ++ [(⟨oz, nz, lz⟩ : Pl.Cd)]).length ((p ++ [(⟨oz, nz, lz⟩ : Pl.Cd)]).flatMap codeC) v9 w2 by rw [List.length_append, List.length_singleton, List.flatMap_append, List.flatMap_singleton]; exact hrz)
      refine ⟨v9, rfl, hb, p ++ [⟨oz, nz, lz⟩], ⟨A6, c6, e6, hA6, hc6, hm6⟩, by simp; omega, fun c hc => ?_⟩
      rcases List.mem_append.1 hc with h | h
      · exact hsp c h
      · rw [List.mem_singleton.1 h]; exact ⟨by dsimp only; omega, by dsimp only; omega, by dsimp only; omega, by dsimp only; omega⟩
end Go.Proofs.YtpifllonlchhhaaGreatDoor

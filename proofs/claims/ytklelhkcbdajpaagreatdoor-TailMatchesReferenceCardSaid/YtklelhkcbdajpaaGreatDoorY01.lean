/- digits of dialtoneref03. Valid of dialtoneref03. checked of dialtoneref03. sum of dialtoneref03. Compare, Add, Sub of dialtoneref03. FromInt (not negative) of dialtoneref03. FromInt (negative) of dialtoneref03. The product of two lists of digits, as dialtoneref03.times makes it: plain. -/
import Derived.Test.YtklelhkcbdajpaaGreatDoorY00
import Derived.Test.YtklelhkcbdajpaaGreatDoorX10
import Derived.Test.YtklelhkcbdajpaaGreatDoorX05
set_option linter.unusedVariables false
set_option linter.unusedSimpArgs false
set_option maxRecDepth 100000
set_option maxHeartbeats 8000000
namespace Go.Proofs.YtklelhkcbdajpaaGreatDoor
open Go.RowKit Go.Shelf
def rdig (d : List UInt8) (r : Nat) : List Int := (d.drop r).reverse.map fun c => (c.toNat : Int) - 48
theorem rdig_step {d : List UInt8} {r : Nat} (h : r < d.length) : rdig d r = rdig d (r + 1) ++ [(d[r].toNat : Int) - 48] := by
  unfold rdig
  rw [List.drop_eq_getElem_cons h, List.reverse_cons, List.map_append, List.map_singleton]
theorem rdig_end (d : List UInt8) : rdig d d.length = [] := by simp [rdig]
theorem rdig_all {n : Nat} (h : n ≠ 0) : rdig (Lib.decDigits n) 0 = Dx.grp n := by
  unfold rdig
  rw [List.drop_zero, Dx.dec_grp h, ← List.map_reverse, List.reverse_reverse, List.map_map]
  conv => rhs; rw [← List.map_id (Dx.grp n)]
  refine List.map_congr_left fun g hg => ?_
  have := Dx.gr_grp n g hg
  show ((Ig.dg g.toNat).toNat : Int) - 48 = g
  rw [Ig.dg_nat (by omega)]; omega
theorem dec_byte {n : Nat} {r : Nat} (h : r < (Lib.decDigits n).length) : 48 ≤ ((Lib.decDigits n)[r]).toNat ∧ ((Lib.decDigits n)[r]).toNat ≤ 57 := by
  have := List.all_eq_true.1 (Ig.dec_digits n) _ (List.getElem_mem h)
  simpa [Ig.isD] using this
theorem dec_not0 {n : Nat} (h : n ≠ 0) : Lib.decDigits n ≠ [48] := fun e => by
  have := Ig.nv_dec n
  rw [e] at this
  exact h this.symm
theorem dg_own {W : World} {B n : Nat} {v : Value} {o : List Int} (h : W.ownsRow B 3 1 v o.length (o.flatMap intC)) (ho : o = Dx.grp n) : DgAt W n v := by
  subst ho
  obtain ⟨A, cap, rfl, hA, hc, hm, -⟩ := own_at h
  exact ⟨A, cap, rfl, hA, hc, hm⟩
theorem rdigits_neg (z : Int) (n : Nat) (s : List UInt8) (w : World) (hz0 : z < 0) (hs : s = 45 :: Lib.decDigits n) (hn : n ≠ 0) (hlen : 0 < (Lib.decDigits n).length ∧ (Lib.decDigits n).length ≤ 1000000) :
    Calls Tryz.prog 115 #[.string ⟨s.toArray⟩] w fun e w' => ∃ v, e = .returned (.tuple #[.bool (decide (z < 0)), v]) ∧ DgAt w' n v ∧ Below w.heap.size w w' := by
  obtain ⟨d, hd⟩ := exK (Lib.decDigits n)
  have hby := fun r (h : r < (Lib.decDigits n).length) => dec_byte h
  have hend := Kp.mk (rdig_all hn)
  have hne := Kp.mk (dec_not0 hn)
  rw [hd.out] at hs hby hend hne hlen
  have hz := Kp.mk hn
  clear hd hn
  have hzn : decide (z < 0) = true := decide_eq_true hz0
  subst hs
  have hownI := World.ownsRow_nil w w.heap.size 3 1
  go_enter Tryz.func115, Tryz.ntmps115
  go_wp2_with fail
  go_loopw [5, 6] (fun s5 s6 wr => ∃ (r : Nat) (o : List Int), r ≤ d.length ∧ s6 = .int .i64 ((r : Int) - 1) ∧ Kp (o = rdig d r) ∧ Kp (o.length = d.length - r) ∧ wr.ownsRow w.heap.size 3 1 s5 o.length (o.flatMap intC) ∧ Below w.heap.size w wr) (fun s5 s6 wr => (intOf s6 + 1).toNat)
  case atStart => exact ⟨d.length, [], Nat.le_refl _, by go_num, ⟨(rdig_end _).symm⟩, ⟨by simp⟩, hownI, Below.refl _ _⟩
  case round =>
    clear hownI
    obtain ⟨r, o, hr, rfl, ho, hol, hown, hb⟩ := hrel
    cases r with
    | zero =>
      rw [show (((0 : Nat) : Int) - 1) = -1 from rfl]
      have hfin := dg_own hown (ho.out.trans hend.out)
      clear hown ho hend hby
      go_wp2
      go_ret2
      exact ⟨_, by rw [hzn]; rfl, hfin, hb⟩
    | succ r =>
      rw [show (((r + 1 : Nat) : Int) - 1) = (r : Int) by omega]
      have hrl : r < d.length := by omega
      have hx := hby r hrl
      have hst := Kp.mk (rdig_step hrl)
      have q1 : (d == [48]) = false := by simpa using hne.out
      have q2 : (d != [48]) = true := by simpa using hne.out
      have hol2 := hol.out
      have hol3 : o.length ≤ 1000000 := by omega
      clear hol2
      obtain ⟨i0, z0, hi, hz2, hs1, hz1, hbys⟩ := intI
      clear hend hby
      generalize hxx : d[r].toNat = x at *
      have hbn := bNewW wr (.cells #[.int .i64 ((x : Int) - 48)] 3)
      have hown1 := own_callG hown hbn
      go_wp2_with (at_builtin; refine wpList_append_own _ rfl (.tmp 24) (.tmp 30) 27 rfl w.heap.size 3 i0 z0 1 8 Tryz.underlying27 hi hz2 hs1 hbys hz1 (by decide) _ _ _ rfl hown1 ⟨wr.heap.size, 0, none⟩ 1 1 [.int .i64 ((x : Int) - 48)] rfl rfl ?_ ?_ ?_ ?_ ?_ ?_)
      all_goals first
        | (intro j u hj; rcases j with _ | j <;> simp at hj <;> subst hj <;> simp [Addr.add])
        | (intro u hu; simp at hu; subst hu; rfl)
        | rfl
        | (unfold maxLen; omega)
        | omega
        | (have := hbn.size; have := hb.size; omega)
        | skip
      intro v' w2 hown' hgrow _
      have hb' := (bCall hb hbn).grown hgrow (by have := hbn.size; have := hb.size; omega) (fun k hk => (hown1.lt k hk).1)
      clear hown1 hown hi hz2 hs1 hz1 hbys hgrow
      go_wp2
      refine ⟨⟨r, o ++ [(x : Int) - 48], by omega, by go_num, ⟨?_⟩, ⟨?_⟩, ?_, hb'⟩, by simp [intOf]⟩
      · rw [hst.out, ho.out]
      · rw [List.length_append, List.length_singleton, hol.out]; omega
      · rw [List.length_append, List.length_singleton, List.flatMap_append]
        exact hown'
theorem rdigits_pos (z : Int) (n : Nat) (s : List UInt8) (w : World) (hz0 : ¬ z < 0) (hs : s = Lib.decDigits n) (hn : n ≠ 0) (hlen : 0 < (Lib.decDigits n).length ∧ (Lib.decDigits n).length ≤ 1000000) :
    Calls Tryz.prog 115 #[.string ⟨s.toArray⟩] w fun e w' => ∃ v, e = .returned (.tuple #[.bool (decide (z < 0)), v]) ∧ DgAt w' n v ∧ Below w.heap.size w w' := by
  obtain ⟨d, hd⟩ := exK (Lib.decDigits n)
  have hby := fun r (h : r < (Lib.decDigits n).length) => dec_byte h
  have hend := Kp.mk (rdig_all hn)
  have hne := Kp.mk (dec_not0 hn)
  rw [hd.out] at hs hby hend hne hlen
  have hz := Kp.mk hn
  clear hd hn
  have hzn : decide (z < 0) = false := decide_eq_false hz0
  obtain rfl := hs
  have hpos : 0 < s.length := by omega
  have hnm : ¬ s[0].toNat = 45 := fun h => by have := (hby 0 hpos).1; omega
  have t9 : decide (((s[0].toNat : Nat) : Int) = 45) = false := decide_eq_false (by omega)
  have t9' : (((s[0].toNat : Nat) : Int) == 45) = false := by simp; omega
  have hownI := World.ownsRow_nil w w.heap.size 3 1
  go_enter Tryz.func115, Tryz.ntmps115
  go_wp2_with fail
  go_loopw [5, 6] (fun s5 s6 wr => ∃ (r : Nat) (o : List Int), r ≤ s.length ∧ s6 = .int .i64 ((r : Int) - 1) ∧ Kp (o = rdig s r) ∧ Kp (o.length = s.length - r) ∧ wr.ownsRow w.heap.size 3 1 s5 o.length (o.flatMap intC) ∧ Below w.heap.size w wr) (fun s5 s6 wr => (intOf s6 + 1).toNat)
  case atStart => exact ⟨s.length, [], Nat.le_refl _, by go_num, ⟨(rdig_end _).symm⟩, ⟨by simp⟩, hownI, Below.refl _ _⟩
  case round =>
    clear hownI
    obtain ⟨r, o, hr, rfl, ho, hol, hown, hb⟩ := hrel
    cases r with
    | zero =>
      rw [show (((0 : Nat) : Int) - 1) = -1 from rfl]
      have hfin := dg_own hown (ho.out.trans hend.out)
      clear hown ho hend hby
      go_wp2
      go_ret2
      exact ⟨_, by rw [hzn]; rfl, hfin, hb⟩
    | succ r =>
      rw [show (((r + 1 : Nat) : Int) - 1) = (r : Int) by omega]
      have hrl : r < s.length := by omega
      have hx := hby r hrl
      have hst := Kp.mk (rdig_step hrl)
      have q1 : (s == [48]) = false := by simpa using hne.out
      have q2 : (s != [48]) = true := by simpa using hne.out
      have hol2 := hol.out
      have hol3 : o.length ≤ 1000000 := by omega
      clear hol2
      obtain ⟨i0, z0, hi, hz2, hs1, hz1, hbys⟩ := intI
      clear hend hby
      generalize hxx : s[r].toNat = x at *
      have hbn := bNewW wr (.cells #[.int .i64 ((x : Int) - 48)] 3)
      have hown1 := own_callG hown hbn
      go_wp2_with (at_builtin; refine wpList_append_own _ rfl (.tmp 24) (.tmp 30) 27 rfl w.heap.size 3 i0 z0 1 8 Tryz.underlying27 hi hz2 hs1 hbys hz1 (by decide) _ _ _ rfl hown1 ⟨wr.heap.size, 0, none⟩ 1 1 [.int .i64 ((x : Int) - 48)] rfl rfl ?_ ?_ ?_ ?_ ?_ ?_)
      all_goals first
        | (intro j u hj; rcases j with _ | j <;> simp at hj <;> subst hj <;> simp [Addr.add])
        | (intro u hu; simp at hu; subst hu; rfl)
        | rfl
        | (unfold maxLen; omega)
        | omega
        | (have := hbn.size; have := hb.size; omega)
        | skip
      intro v' w2 hown' hgrow _
      have hb' := (bCall hb hbn).grown hgrow (by have := hbn.size; have := hb.size; omega) (fun k hk => (hown1.lt k hk).1)
      clear hown1 hown hi hz2 hs1 hz1 hbys hgrow
      go_wp2
      refine ⟨⟨r, o ++ [(x : Int) - 48], by omega, by go_num, ⟨?_⟩, ⟨?_⟩, ?_, hb'⟩, by simp [intOf]⟩
      · rw [hst.out, ho.out]
      · rw [List.length_append, List.length_singleton, hol.out]; omega
      · rw [List.length_append, List.length_singleton, List.flatMap_append]
        exact hown'
theorem rdigits_zero (w : World) : Calls Tryz.prog 115 #[.string ⟨#[48]⟩] w fun e w' => ∃ v, e = .returned (.tuple #[.bool false, v]) ∧ DgAt w' 0 v ∧ Below w.heap.size w w' := by
  have hfin : ∀ wr : World, DgAt wr 0 (.slice none 0 0) := fun wr => ⟨none, 0, by rw [Dx.grp_zero]; rfl, by rw [Dx.grp_zero]; exact At.nil, by rw [Dx.grp_zero]; exact Nat.le_refl _, Nat.zero_le _⟩
  go_enter Tryz.func115, Tryz.ntmps115
  go_wp2_with fail
  go_loopw [5, 6] (fun s5 s6 wr => s5 = .slice none 0 0 ∧ s6 = .int .i64 0 ∧ wr = w) (fun s5 s6 wr => 0)
  case atStart => exact ⟨rfl, rfl, rfl⟩
  case round =>
    obtain ⟨rfl, rfl, rfl⟩ := hrel
    go_wp2
    go_ret2
    exact ⟨_, rfl, hfin _, Below.refl _ _⟩
theorem rdigits_any (z : Int) (w : World) (hz : (Lib.decDigits z.natAbs).length ≤ 1000000) :
    Calls Tryz.prog 115 #[.string ⟨(Lib.itoa z).toArray⟩] w fun e w' => ∃ v, e = .returned (.tuple #[.bool (decide (z < 0)), v]) ∧ DgAt w' z.natAbs v ∧ Below w.heap.size w w' := by
  have hpos : 0 < (Lib.decDigits z.natAbs).length := by
    have := Ig.dec_ne z.natAbs
    cases h : Lib.decDigits z.natAbs with
    | nil => exact absurd h this
    | cons a l => simp
  by_cases h0 : z = 0
  · subst h0
    have e : Lib.itoa 0 = [48] := by rw [Ig.itoa_nonneg (by decide), show Int.natAbs 0 = 0 from rfl, Ig.dec_small (by decide)]; rfl
    have e2 : decide ((0 : Int) < 0) = false := rfl
    rw [e, e2]
    exact rdigits_zero w
  · by_cases hn : z < 0
    · exact rdigits_neg z z.natAbs _ w hn (Ig.itoa_neg hn) (by omega) ⟨hpos, hz⟩
    · exact rdigits_pos z z.natAbs _ w hn (Ig.itoa_nonneg (by omega)) (by omega) ⟨hpos, hz⟩
end Go.Proofs.YtklelhkcbdajpaaGreatDoor
namespace Go.Proofs.YtklelhkcbdajpaaGreatDoor
open Go.RowKit Go.Shelf
def dvalid (d : List UInt8) : Bool := !d.isEmpty && decide (d.length ≤ 200) && d.all Ig.isD && (d == [48] || !(d.head? == some 48))
theorem valid_neg {d : List UInt8} (h : d ≠ [48]) : Ig.validS (45 :: d) = dvalid d := by
  unfold Ig.validS dvalid
  have e : Ig.unsg (45 :: d) = d := by unfold Ig.unsg; rw [if_pos (by rfl)]; rfl
  have e1 : (45 :: d == [48]) = false := by
    rw [beq_eq_false_iff_ne]; intro h2; cases h2
  have e2 : (d == [48]) = false := by simpa using h
  rw [e, e1, e2]
theorem valid_pos {s : List UInt8} (h : s.head? ≠ some 45) : Ig.validS s = dvalid s := by
  unfold Ig.validS dvalid
  have e : Ig.unsg s = s := by
    unfold Ig.unsg
    rw [if_neg]
    intro h2
    cases s with
    | nil => cases h2
    | cons a l => simp at h2 h; exact h h2.symm
  rw [e]
theorem dvalid_bad {d : List UInt8} {r : Nat} (h : r < d.length) (hx : d[r].toNat < 48 ∨ 57 < d[r].toNat) : dvalid d = false := by
  have : d.all Ig.isD = false := by
    rw [Bool.eq_false_iff]
    intro h2
    have h3 := List.all_eq_true.1 h2 _ (List.getElem_mem h)
    simp [Ig.isD] at h3
    omega
  unfold dvalid
  rw [this]; simp
theorem dvalid_all {d : List UInt8} (h : ∀ r (h : r < d.length), 48 ≤ d[r].toNat ∧ d[r].toNat ≤ 57) : dvalid d = (!d.isEmpty && decide (d.length ≤ 200) && (d == [48] || !(d.head? == some 48))) := by
  have : d.all Ig.isD = true := by
    rw [List.all_eq_true]
    intro x hx
    obtain ⟨r, hr, rfl⟩ := List.getElem_of_mem hx
    have := h r hr
    simp [Ig.isD]
    omega
  unfold dvalid
  rw [this]; simp
theorem rValid_nil (w : World) : Calls Tryz.prog 87 #[.string ⟨#[]⟩] w fun e w' => e = .returned (.bool false) ∧ w = w' := by
  go_enter Tryz.func87, Tryz.ntmps87
  go_wp2_with fail
  go_loopw [3] (fun s3 wr => s3 = .int .i64 0 ∧ wr = w) (fun s3 wr => 0)
  case atStart => exact ⟨rfl, rfl⟩
  case round =>
    obtain ⟨rfl, rfl⟩ := hrel
    go_wp2
    go_ret
    exact ⟨rfl, rfl⟩
theorem rValid_minus0 (w : World) : Calls Tryz.prog 87 #[.string ⟨#[45, 48]⟩] w fun e w' => e = .returned (.bool false) ∧ w = w' := by
  go_enter Tryz.func87, Tryz.ntmps87
  go_wp2
  go_ret
  exact ⟨rfl, rfl⟩
theorem rValid_neg (d : List UInt8) (w : World) (hd : d ≠ [48]) (hs : d.length ≤ 1000000) :
    Calls Tryz.prog 87 #[.string ⟨(45 :: d).toArray⟩] w fun e w' => e = .returned (.bool (dvalid d)) ∧ w = w' := by
  have q1 : (d == [48]) = false := by simpa using hd
  have q2 : (d != [48]) = true := by simpa using hd
  have hkd := Kp.mk hd
  clear hd
  have hbad := fun r (h : r < d.length) (hx : d[r].toNat < 48 ∨ 57 < d[r].toNat) => Kp.mk (dvalid_bad h hx)
  have hgood := fun (h : ∀ r (h : r < d.length), 48 ≤ d[r].toNat ∧ d[r].toNat ≤ 57) => Kp.mk (dvalid_all h)
  generalize dvalid d = ans at *
  go_enter Tryz.func87, Tryz.ntmps87
  go_wp2_with fail
  go_loopw [3] (fun s3 wr => ∃ r : Nat, r ≤ d.length ∧ s3 = .int .i64 r ∧ Kp (∀ t (h : t < d.length), t < r → 48 ≤ d[t].toNat ∧ d[t].toNat ≤ 57) ∧ wr = w) (fun s3 wr => d.length - (intOf s3).toNat)
  case atStart => exact ⟨0, Nat.zero_le _, rfl, ⟨fun t h h2 => absurd h2 (Nat.not_lt_zero _)⟩, rfl⟩
  case round =>
    obtain ⟨r, hr, rfl, hall, rfl⟩ := hrel
    by_cases hl : r < d.length
    · have hbd := hbad r hl
      have hnx : 48 ≤ d[r].toNat → d[r].toNat ≤ 57 → Kp (∀ t (h : t < d.length), t < r + 1 → 48 ≤ d[t].toNat ∧ d[t].toNat ≤ 57) := fun h1 h2 => ⟨fun t h ht => by
        rcases (show t < r ∨ t = r by omega) with h3 | h3
        · exact hall.out t h h3
        · subst h3; exact ⟨h1, h2⟩⟩
      have hx256 := d[r].toNat_lt
      have t0 : decide ((r : Int) < (d.length : Int)) = true := decide_eq_true (by omega)
      clear hbad hgood hall
      generalize hxx : d[r].toNat = x at *
      by_cases h1 : x < 48
      · have t1 : decide ((x : Int) < 48) = true := decide_eq_true (by omega)
        have hf := hbd (.inl h1)
        clear hbd hnx
        go_wp2
        go_ret
        exact ⟨ret_bool hf.out.symm, rfl⟩
      · by_cases h2 : 57 < x
        · have t1 : decide ((x : Int) < 48) = false := decide_eq_false (by omega)
          have t2 : decide ((x : Int) > 57) = true := decide_eq_true (by omega)
          have hf := hbd (.inr h2)
          clear hbd hnx
          go_wp2
          go_ret
          exact ⟨ret_bool hf.out.symm, rfl⟩
        · have t1 : decide ((x : Int) < 48) = false := decide_eq_false (by omega)
          have t2 : decide ((x : Int) > 57) = false := decide_eq_false (by omega)
          have hn2 := hnx (by omega) (by omega)
          clear hbd hnx
          go_wp2
          exact ⟨⟨r + 1, by omega, by go_num, hn2, trivial⟩, by simp [intOf]; omega⟩
    · have hg := hgood (fun t h => hall.out t h (by omega))
      obtain rfl : r = d.length := by omega
      clear hbad hgood hall
      have t0 : decide ((d.length : Int) < (d.length : Int)) = false := decide_eq_false (by omega)
      by_cases he : d = []
      · subst he
        have hf : Kp (ans = false) := ⟨by rw [hg.out]; rfl⟩
        clear hg
        go_wp2
        go_ret
        exact ⟨ret_bool hf.out.symm, rfl⟩
      have h0 : 0 < d.length := List.length_pos_iff.2 he
      have hhd : d.head? = some d[0] := by rw [List.head?_eq_getElem?, List.getElem?_eq_getElem h0]
      have hem : d.isEmpty = false := by
        cases h : d.isEmpty
        · rfl
        · rw [List.isEmpty_iff] at h; rw [h] at h0; exact absurd h0 (Nat.lt_irrefl _)
      have u0 : decide ((d.length : Int) > 0) = true := decide_eq_true (by omega)
      rw [hhd, hem] at hg
      clear hhd hem
      by_cases h200 : d.length ≤ 200
      · have u1 : decide ((d.length : Int) ≤ 200) = true := decide_eq_true (by omega)
        rw [q1, decide_eq_true h200] at hg
        by_cases h48 : d[0].toNat = 48
        · have hf : Kp (ans = false) := ⟨by rw [hg.out, UInt8.toNat_inj.1 (show d[0].toNat = (48 : UInt8).toNat from h48)]; rfl⟩
          clear hg
          have u2 : decide (((d[0].toNat : Nat) : Int) = 48) = true := decide_eq_true (by omega)
          have u2' : (((d[0].toNat : Nat) : Int) != 48) = false := by simp; omega
          generalize hyy : d[0].toNat = y at *
          go_wp2
          go_ret
          exact ⟨ret_bool hf.out.symm, rfl⟩
        · have hne : ¬ d[0] = 48 := fun e => h48 (by rw [e]; rfl)
          have hf : Kp (ans = true) := ⟨by rw [hg.out]; simp [hne]⟩
          clear hg hne
          have u2 : decide (((d[0].toNat : Nat) : Int) = 48) = false := decide_eq_false (by omega)
          have u2' : (((d[0].toNat : Nat) : Int) != 48) = true := by simp; omega
          generalize hyy : d[0].toNat = y at *
          go_wp2
          go_ret
          exact ⟨ret_bool hf.out.symm, rfl⟩
      · have u1 : decide ((d.length : Int) ≤ 200) = false := decide_eq_false (by omega)
        have hf : Kp (ans = false) := ⟨by rw [hg.out, decide_eq_false h200]; simp⟩
        clear hg
        go_wp2
        go_ret
        exact ⟨ret_bool hf.out.symm, rfl⟩
theorem rValid_pos (s : List UInt8) (w : World) (h0 : 0 < s.length) (hn : s.head? ≠ some 45) (hs : s.length ≤ 1000000) :
    Calls Tryz.prog 87 #[.string ⟨s.toArray⟩] w fun e w' => e = .returned (.bool (dvalid s)) ∧ w = w' := by
  have hnm : ¬ s[0].toNat = 45 := fun h => hn (by
    rw [List.head?_eq_getElem?, List.getElem?_eq_getElem h0]
    congr 1
    exact UInt8.toNat_inj.1 h)
  clear hn
  have t9 : decide (((s[0].toNat : Nat) : Int) = 45) = false := decide_eq_false (by omega)
  have t9' : (((s[0].toNat : Nat) : Int) == 45) = false := by simp; omega
  have t8 : decide ((s.length : Int) > 0) = true := decide_eq_true (by omega)
  have hbad := fun r (h : r < s.length) (hx : s[r].toNat < 48 ∨ 57 < s[r].toNat) => Kp.mk (dvalid_bad h hx)
  have hgood := fun (h : ∀ r (h : r < s.length), 48 ≤ s[r].toNat ∧ s[r].toNat ≤ 57) => Kp.mk (dvalid_all h)
  generalize dvalid s = ans at *
  go_enter Tryz.func87, Tryz.ntmps87
  go_wp2_with fail
  go_loopw [3] (fun s3 wr => ∃ r : Nat, r ≤ s.length ∧ s3 = .int .i64 r ∧ Kp (∀ t (h : t < s.length), t < r → 48 ≤ s[t].toNat ∧ s[t].toNat ≤ 57) ∧ wr = w) (fun s3 wr => s.length - (intOf s3).toNat)
  case atStart => exact ⟨0, Nat.zero_le _, rfl, ⟨fun t h h2 => absurd h2 (Nat.not_lt_zero _)⟩, rfl⟩
  case round =>
    obtain ⟨r, hr, rfl, hall, rfl⟩ := hrel
    by_cases hl : r < s.length
    · have hbd := hbad r hl
      have hnx : 48 ≤ s[r].toNat → s[r].toNat ≤ 57 → Kp (∀ t (h : t < s.length), t < r + 1 → 48 ≤ s[t].toNat ∧ s[t].toNat ≤ 57) := fun h1 h2 => ⟨fun t h ht => by
        rcases (show t < r ∨ t = r by omega) with h3 | h3
        · exact hall.out t h h3
        · subst h3; exact ⟨h1, h2⟩⟩
      have hx256 := s[r].toNat_lt
      have t0 : decide ((r : Int) < (s.length : Int)) = true := decide_eq_true (by omega)
      clear hbad hgood hall
      generalize hxx : s[r].toNat = x at *
      by_cases h1 : x < 48
      · have t1 : decide ((x : Int) < 48) = true := decide_eq_true (by omega)
        have hf := hbd (.inl h1)
        clear hbd hnx
        go_wp2
        go_ret
        exact ⟨ret_bool hf.out.symm, rfl⟩
      · by_cases h2 : 57 < x
        · have t1 : decide ((x : Int) < 48) = false := decide_eq_false (by omega)
          have t2 : decide ((x : Int) > 57) = true := decide_eq_true (by omega)
          have hf := hbd (.inr h2)
          clear hbd hnx
          go_wp2
          go_ret
          exact ⟨ret_bool hf.out.symm, rfl⟩
        · have t1 : decide ((x : Int) < 48) = false := decide_eq_false (by omega)
          have t2 : decide ((x : Int) > 57) = false := decide_eq_false (by omega)
          have hn2 := hnx (by omega) (by omega)
          clear hbd hnx
          go_wp2
          exact ⟨⟨r + 1, by omega, by go_num, hn2, trivial⟩, by simp [intOf]; omega⟩
    · have hg := hgood (fun t h => hall.out t h (by omega))
      obtain rfl : r = s.length := by omega
      clear hbad hgood hall
      have t0 : decide ((s.length : Int) < (s.length : Int)) = false := decide_eq_false (by omega)
      have hhd : s.head? = some s[0] := by rw [List.head?_eq_getElem?, List.getElem?_eq_getElem h0]
      have hem : s.isEmpty = false := by
        cases h : s.isEmpty
        · rfl
        · rw [List.isEmpty_iff] at h; rw [h] at h0; exact absurd h0 (Nat.lt_irrefl _)
      have u0 : decide ((s.length : Int) > 0) = true := decide_eq_true (by omega)
      rw [hhd, hem] at hg
      clear hhd hem
      by_cases h200 : s.length ≤ 200
      · have u1 : decide ((s.length : Int) ≤ 200) = true := decide_eq_true (by omega)
        by_cases hz : s = [48]
        · subst hz
          have hf : Kp (ans = true) := ⟨by rw [hg.out]; rfl⟩
          clear hg
          go_wp2
          go_ret
          exact ⟨ret_bool hf.out.symm, rfl⟩
        have q1 : (s == [48]) = false := by simpa using hz
        have q2 : (s != [48]) = true := by simpa using hz
        have hkd := Kp.mk hz
        clear hz
        rw [q1, decide_eq_true h200] at hg
        by_cases h48 : s[0].toNat = 48
        · have hf : Kp (ans = false) := ⟨by rw [hg.out, UInt8.toNat_inj.1 (show s[0].toNat = (48 : UInt8).toNat from h48)]; rfl⟩
          clear hg
          have u2 : decide (((s[0].toNat : Nat) : Int) = 48) = true := decide_eq_true (by omega)
          have u2' : (((s[0].toNat : Nat) : Int) != 48) = false := by simp; omega
          generalize hyy : s[0].toNat = y at *
          go_wp2
          go_ret
          exact ⟨ret_bool hf.out.symm, rfl⟩
        · have hne : ¬ s[0] = 48 := fun e => h48 (by rw [e]; rfl)
          have hf : Kp (ans = true) := ⟨by rw [hg.out]; simp [hne]⟩
          clear hg hne
          have u2 : decide (((s[0].toNat : Nat) : Int) = 48) = false := decide_eq_false (by omega)
          have u2' : (((s[0].toNat : Nat) : Int) != 48) = true := by simp; omega
          generalize hyy : s[0].toNat = y at *
          go_wp2
          go_ret
          exact ⟨ret_bool hf.out.symm, rfl⟩
      · have u1 : decide ((s.length : Int) ≤ 200) = false := decide_eq_false (by omega)
        have hf : Kp (ans = false) := ⟨by rw [hg.out, decide_eq_false h200]; simp⟩
        clear hg
        go_wp2
        go_ret
        exact ⟨ret_bool hf.out.symm, rfl⟩
theorem rValid_any (s : List UInt8) (w : World) (hs : s.length ≤ 1000000) :
    Calls Tryz.prog 87 #[.string ⟨s.toArray⟩] w fun e w' => e = .returned (.bool (Ig.validS s)) ∧ w = w' := by
  cases s with
  | nil => exact rValid_nil w
  | cons a d =>
    by_cases ha : a = 45
    · subst ha
      by_cases hd : d = [48]
      · subst hd
        have e : Ig.validS [45, 48] = false := by decide
        rw [e]
        exact rValid_minus0 w
      · rw [valid_neg hd]
        exact rValid_neg d w hd (by rw [List.length_cons] at hs; omega)
    · have hh : (a :: d).head? ≠ some 45 := by
        intro h
        rw [List.head?_cons, Option.some.injEq] at h
        exact ha h
      rw [valid_pos hh]
      exact rValid_pos (a :: d) w (by simp) hh hs
end Go.Proofs.YtklelhkcbdajpaaGreatDoor
namespace Go.Proofs.YtklelhkcbdajpaaGreatDoor
open Go.RowKit Go.Shelf
theorem rgrp_add_len {a b n : Nat} (ha : (Dx.grp a).length ≤ n) (hb : (Dx.grp b).length ≤ n) : (Dx.grp (a + b)).length ≤ n + 1 := by
  have h1 : a < 10 ^ n := Nat.lt_of_lt_of_le (Dx.grp_lt a) (Nat.pow_le_pow_right (by decide) ha)
  have h2 : b < 10 ^ n := Nat.lt_of_lt_of_le (Dx.grp_lt b) (Nat.pow_le_pow_right (by decide) hb)
  exact Dx.grp_len (by rw [Nat.pow_succ]; omega)
theorem rchecked_any (neg : Bool) (n : Nat) (v : Value) (w : World) (h : DgAt w n v) (hl : (Dx.grp n).length ≤ 1000000) :
    Calls Tryz.prog 117 #[.bool neg, v] w fun e w' => e = .returned (.tuple #[.string ⟨(Ig.resS (sgn neg n)).toArray⟩, .int .i64 (Ig.resE (sgn neg n))]) ∧ Below w.heap.size w w' := by
  obtain ⟨A, c, rfl, hA, hn, hm⟩ := h.out
  have hT := rtext_any neg n A c w hA hn hl
  have e := sgn_abs neg n
  by_cases hf : Lib.nDigits n ≤ 200
  · have e1 : Ig.resS (sgn neg n) = Lib.itoa (sgn neg n) := Ig.resS_fits ((Ig.fits_iff _).2 (by rw [e]; exact hf))
    have e2 : Ig.resE (sgn neg n) = 0 := Ig.resE_fits ((Ig.fits_iff _).2 (by rw [e]; exact hf))
    rw [e1, e2]
    rw [decide_eq_true hf] at hT
    clear e e1 e2 h hA hf
    generalize Lib.itoa (sgn neg n) = s at *
    generalize (Dx.grp n).length = k at *
    go_enter Tryz.func117, Tryz.ntmps117
    go_wp2_with fail
    refine hT.mono ?_
    rintro _ w1 ⟨rfl, hb⟩
    clear hT
    go_wp2
    go_ret2
    exact ⟨rfl, hb⟩
  · have e1 : Ig.resS (sgn neg n) = [] := Ig.resS_not (fun h2 => hf (by have := (Ig.fits_iff _).1 h2; rwa [e] at this))
    have e2 : Ig.resE (sgn neg n) = 30 := Ig.resE_not (fun h2 => hf (by have := (Ig.fits_iff _).1 h2; rwa [e] at this))
    rw [e1, e2]
    rw [decide_eq_false hf] at hT
    clear e e1 e2 h hA hf
    generalize Lib.itoa (sgn neg n) = s at *
    generalize (Dx.grp n).length = k at *
    go_enter Tryz.func117, Tryz.ntmps117
    go_wp2_with fail
    refine hT.mono ?_
    rintro _ w1 ⟨rfl, hb⟩
    clear hT
    go_wp2
    go_ret2
    exact ⟨rfl, hb⟩
end Go.Proofs.YtklelhkcbdajpaaGreatDoor
namespace Go.Proofs.YtklelhkcbdajpaaGreatDoor
open Go.RowKit Go.Shelf
theorem rsum_any (x y : Bool) (a b : Nat) (v1 v2 : Value) (w : World) (h1 : DgAt w a v1) (h2 : DgAt w b v2) (la : (Dx.grp a).length ≤ 100000) (lb : (Dx.grp b).length ≤ 100000) :
    Calls Tryz.prog 116 #[.bool x, v1, .bool y, v2] w fun e w' => e = .returned (.tuple #[.string ⟨(Ig.resS (sgn x a + sgn y b)).toArray⟩, .int .i64 (Ig.resE (sgn x a + sgn y b))]) ∧ Below w.heap.size w w' := by
  obtain ⟨A1, c1, rfl, -⟩ := id h1.out
  obtain ⟨A2, c2, rfl, -⟩ := id h2.out
  cases x <;> cases y
  · have hz : sgn false a + sgn false b = sgn false (a + b) := by simp only [sgn]; simp; try omega
    rw [hz]
    have hP := rplus_any a b _ _ w h1 h2 la lb
    have hl : (Dx.grp (a + b)).length ≤ 1000000 := by have := rgrp_add_len la lb; omega
    clear hz h1 h2
    go_enter Tryz.func116, Tryz.ntmps116
    go_wp2_with fail
    refine hP.mono ?_
    rintro _ w2 ⟨v, rfl, hv, hb⟩
    clear hP
    obtain ⟨A3, c3, rfl, -⟩ := id hv.out
    have hC := rchecked_any false (a + b) _ _ hv hl
    clear hv
    go_wp2_with fail
    refine hC.mono ?_
    rintro _ w3 ⟨rfl, hb3⟩
    have hb4 := bCall hb hb3
    clear hC
    go_wp2
    go_ret2
    exact ⟨rfl, hb4⟩
  · have hO := rorder_any a b _ _ w h1 h2 (by omega) (by omega)
    by_cases hba : b ≤ a
    · have hz : sgn false a + sgn true b = sgn false (a - b) := by simp only [sgn]; simp; omega
      rw [hz]
      have hl : (Dx.grp (a - b)).length ≤ 1000000 := by have := rgrp_le (show a - b ≤ a by omega); omega
      have hP := fun w0 k1 k2 => rminus_any a b (.slice A1 (Dx.grp a).length c1) (.slice A2 (Dx.grp b).length c2) w0 k1 k2 hba la
      clear hz
      rcases Nat.lt_or_eq_of_le hba with hlt | heq
      · have hc : Ig.cmpI a b = 1 := by exact Ig.cmpI_gt hlt
        rw [hc] at hO
        clear hc hlt hba
        go_enter Tryz.func116, Tryz.ntmps116
        go_wp2_with fail
        refine hO.mono ?_
        rintro _ w1 ⟨rfl, hb1⟩
        have k1 := h1.call hb1
        have k2 := h2.call hb1
        replace hP := hP _ k1 k2
        clear hO h1 h2 k1 k2
        go_wp2_with fail
        refine hP.mono ?_
        rintro _ w2 ⟨v, rfl, hv, hb2⟩
        have hb := bCall hb1 hb2
        clear hP
        obtain ⟨A3, c3, rfl, -⟩ := id hv.out
        have hC := rchecked_any false (a - b) _ _ hv hl
        clear hv
        go_wp2_with fail
        refine hC.mono ?_
        rintro _ w3 ⟨rfl, hb3⟩
        have hb4 := bCall hb hb3
        clear hC
        go_wp2
        go_ret2
        exact ⟨rfl, hb4⟩
      · have hc : Ig.cmpI a b = 0 := by subst heq; exact Ig.cmpI_eq _
        rw [hc] at hO
        clear hc heq hba
        go_enter Tryz.func116, Tryz.ntmps116
        go_wp2_with fail
        refine hO.mono ?_
        rintro _ w1 ⟨rfl, hb1⟩
        have k1 := h1.call hb1
        have k2 := h2.call hb1
        replace hP := hP _ k1 k2
        clear hO h1 h2 k1 k2
        go_wp2_with fail
        refine hP.mono ?_
        rintro _ w2 ⟨v, rfl, hv, hb2⟩
        have hb := bCall hb1 hb2
        clear hP
        obtain ⟨A3, c3, rfl, -⟩ := id hv.out
        have hC := rchecked_any false (a - b) _ _ hv hl
        clear hv
        go_wp2_with fail
        refine hC.mono ?_
        rintro _ w3 ⟨rfl, hb3⟩
        have hb4 := bCall hb hb3
        clear hC
        go_wp2
        go_ret2
        exact ⟨rfl, hb4⟩
    · have hz : sgn false a + sgn true b = sgn true (b - a) := by simp only [sgn]; simp; omega
      rw [hz]
      have hl : (Dx.grp (b - a)).length ≤ 1000000 := by have := rgrp_le (show b - a ≤ b by omega); omega
      have hP := fun w0 k1 k2 => rminus_any b a (.slice A2 (Dx.grp b).length c2) (.slice A1 (Dx.grp a).length c1) w0 k1 k2 (by omega) lb
      have hc : Ig.cmpI a b = -1 := Ig.cmpI_lt (by omega)
      rw [hc] at hO
      clear hz hc
      go_enter Tryz.func116, Tryz.ntmps116
      go_wp2_with fail
      refine hO.mono ?_
      rintro _ w1 ⟨rfl, hb1⟩
      have k1 := h1.call hb1
      have k2 := h2.call hb1
      replace hP := hP _ k2 k1
      clear hO h1 h2 k1 k2
      go_wp2_with fail
      refine hP.mono ?_
      rintro _ w2 ⟨v, rfl, hv, hb2⟩
      have hb := bCall hb1 hb2
      clear hP
      obtain ⟨A3, c3, rfl, -⟩ := id hv.out
      have hC := rchecked_any true (b - a) _ _ hv hl
      clear hv
      go_wp2_with fail
      refine hC.mono ?_
      rintro _ w3 ⟨rfl, hb3⟩
      have hb4 := bCall hb hb3
      clear hC
      go_wp2
      go_ret2
      exact ⟨rfl, hb4⟩
  · have hO := rorder_any a b _ _ w h1 h2 (by omega) (by omega)
    by_cases hba : b ≤ a
    · have hz : sgn true a + sgn false b = sgn true (a - b) := by simp only [sgn]; simp; omega
      rw [hz]
      have hl : (Dx.grp (a - b)).length ≤ 1000000 := by have := rgrp_le (show a - b ≤ a by omega); omega
      have hP := fun w0 k1 k2 => rminus_any a b (.slice A1 (Dx.grp a).length c1) (.slice A2 (Dx.grp b).length c2) w0 k1 k2 hba la
      clear hz
      rcases Nat.lt_or_eq_of_le hba with hlt | heq
      · have hc : Ig.cmpI a b = 1 := by exact Ig.cmpI_gt hlt
        rw [hc] at hO
        clear hc hlt hba
        go_enter Tryz.func116, Tryz.ntmps116
        go_wp2_with fail
        refine hO.mono ?_
        rintro _ w1 ⟨rfl, hb1⟩
        have k1 := h1.call hb1
        have k2 := h2.call hb1
        replace hP := hP _ k1 k2
        clear hO h1 h2 k1 k2
        go_wp2_with fail
        refine hP.mono ?_
        rintro _ w2 ⟨v, rfl, hv, hb2⟩
        have hb := bCall hb1 hb2
        clear hP
        obtain ⟨A3, c3, rfl, -⟩ := id hv.out
        have hC := rchecked_any true (a - b) _ _ hv hl
        clear hv
        go_wp2_with fail
        refine hC.mono ?_
        rintro _ w3 ⟨rfl, hb3⟩
        have hb4 := bCall hb hb3
        clear hC
        go_wp2
        go_ret2
        exact ⟨rfl, hb4⟩
      · have hc : Ig.cmpI a b = 0 := by subst heq; exact Ig.cmpI_eq _
        rw [hc] at hO
        clear hc heq hba
        go_enter Tryz.func116, Tryz.ntmps116
        go_wp2_with fail
        refine hO.mono ?_
        rintro _ w1 ⟨rfl, hb1⟩
        have k1 := h1.call hb1
        have k2 := h2.call hb1
        replace hP := hP _ k1 k2
        clear hO h1 h2 k1 k2
        go_wp2_with fail
        refine hP.mono ?_
        rintro _ w2 ⟨v, rfl, hv, hb2⟩
        have hb := bCall hb1 hb2
        clear hP
        obtain ⟨A3, c3, rfl, -⟩ := id hv.out
        have hC := rchecked_any true (a - b) _ _ hv hl
        clear hv
        go_wp2_with fail
        refine hC.mono ?_
        rintro _ w3 ⟨rfl, hb3⟩
        have hb4 := bCall hb hb3
        clear hC
        go_wp2
        go_ret2
        exact ⟨rfl, hb4⟩
    · have hz : sgn true a + sgn false b = sgn false (b - a) := by simp only [sgn]; simp; omega
      rw [hz]
      have hl : (Dx.grp (b - a)).length ≤ 1000000 := by have := rgrp_le (show b - a ≤ b by omega); omega
      have hP := fun w0 k1 k2 => rminus_any b a (.slice A2 (Dx.grp b).length c2) (.slice A1 (Dx.grp a).length c1) w0 k1 k2 (by omega) lb
      have hc : Ig.cmpI a b = -1 := Ig.cmpI_lt (by omega)
      rw [hc] at hO
      clear hz hc
      go_enter Tryz.func116, Tryz.ntmps116
      go_wp2_with fail
      refine hO.mono ?_
      rintro _ w1 ⟨rfl, hb1⟩
      have k1 := h1.call hb1
      have k2 := h2.call hb1
      replace hP := hP _ k2 k1
      clear hO h1 h2 k1 k2
      go_wp2_with fail
      refine hP.mono ?_
      rintro _ w2 ⟨v, rfl, hv, hb2⟩
      have hb := bCall hb1 hb2
      clear hP
      obtain ⟨A3, c3, rfl, -⟩ := id hv.out
      have hC := rchecked_any false (b - a) _ _ hv hl
      clear hv
      go_wp2_with fail
      refine hC.mono ?_
      rintro _ w3 ⟨rfl, hb3⟩
      have hb4 := bCall hb hb3
      clear hC
      go_wp2
      go_ret2
      exact ⟨rfl, hb4⟩
  · have hz : sgn true a + sgn true b = sgn true (a + b) := by simp only [sgn]; simp; try omega
    rw [hz]
    have hP := rplus_any a b _ _ w h1 h2 la lb
    have hl : (Dx.grp (a + b)).length ≤ 1000000 := by have := rgrp_add_len la lb; omega
    clear hz h1 h2
    go_enter Tryz.func116, Tryz.ntmps116
    go_wp2_with fail
    refine hP.mono ?_
    rintro _ w2 ⟨v, rfl, hv, hb⟩
    clear hP
    obtain ⟨A3, c3, rfl, -⟩ := id hv.out
    have hC := rchecked_any true (a + b) _ _ hv hl
    clear hv
    go_wp2_with fail
    refine hC.mono ?_
    rintro _ w3 ⟨rfl, hb3⟩
    have hb4 := bCall hb hb3
    clear hC
    go_wp2
    go_ret2
    exact ⟨rfl, hb4⟩
end Go.Proofs.YtklelhkcbdajpaaGreatDoor
namespace Go.Proofs.YtklelhkcbdajpaaGreatDoor
open Go.RowKit Go.Shelf
theorem rfits_dec {z : Int} (h : Ig.fits z) : (Lib.decDigits z.natAbs).length ≤ 200 := by
  rw [Ig.dec_len]; exact (Ig.fits_iff z).1 h
theorem rfits_grp {z : Int} (h : Ig.fits z) : (Dx.grp z.natAbs).length ≤ 200 := Dx.grp_len h
theorem rfits_itoa {z : Int} (h : Ig.fits z) : (Lib.itoa z).length ≤ 201 := by
  have := rfits_dec h
  by_cases h0 : z < 0
  · rw [Ig.itoa_neg h0, List.length_cons]; omega
  · rw [Ig.itoa_nonneg (by omega)]; omega
theorem rvalid_itoa {z : Int} (h : Ig.fits z) (w : World) : Calls Tryz.prog 87 #[.string ⟨(Lib.itoa z).toArray⟩] w fun e w' => e = .returned (.bool true) ∧ w = w' := by
  have := rValid_any (Lib.itoa z) w (by have := rfits_itoa h; omega)
  rwa [Ig.valid_itoa h] at this
theorem rCompare_any (x y : Int) (w : World) (hx : Ig.fits x) (hy : Ig.fits y) :
    Calls Tryz.prog 88 #[.string ⟨(Lib.itoa x).toArray⟩, .string ⟨(Lib.itoa y).toArray⟩] w fun e w' => e = .returned (.int .i64 (cmpZ x y)) ∧ Below w.heap.size w w' := by
  have hV1 := fun w0 => rvalid_itoa hx w0
  have hV2 := fun w0 => rvalid_itoa hy w0
  have hD1 := fun w0 => rdigits_any x w0 (by have := rfits_dec hx; omega)
  have hD2 := fun w0 => rdigits_any y w0 (by have := rfits_dec hy; omega)
  have la := rfits_grp hx
  have lb := rfits_grp hy
  have hc := Kp.mk (cmpZ_signs x y)
  generalize cmpZ x y = z at *
  generalize decide (x < 0) = nx at *
  generalize decide (y < 0) = ny at *
  generalize x.natAbs = ax at *
  generalize y.natAbs = ay at *
  generalize Lib.itoa x = sx at *
  generalize Lib.itoa y = sy at *
  clear hx hy
  go_enter Tryz.func88, Tryz.ntmps88
  go_wp2_with fail
  refine (hV1 _).mono ?_
  rintro _ _ ⟨rfl, rfl⟩
  go_wp2_with fail
  refine (hV2 _).mono ?_
  rintro _ _ ⟨rfl, rfl⟩
  clear hV1 hV2
  go_wp2_with fail
  refine (hD1 _).mono ?_
  rintro _ w1 ⟨v1, rfl, k1, hb1⟩
  obtain ⟨A1, c1, rfl, -⟩ := id k1.out
  clear hD1
  go_wp2_with fail
  refine (hD2 _).mono ?_
  rintro _ w2 ⟨v2, rfl, k2, hb2⟩
  obtain ⟨A2, c2, rfl, -⟩ := id k2.out
  clear hD2
  have k1' := k1.call hb2
  have hb := bCall hb1 hb2
  clear k1 hb1 hb2
  cases nx <;> cases ny
  · have hz : z = Ig.cmpI ax ay := hc.out
    have hC := rorder_any ax ay _ _ _ k1' k2 (by omega) (by omega)
    rw [← hz] at hC
    clear hz hc k1' k2
    go_wp2_with fail
    refine hC.mono ?_
    rintro _ w3 ⟨rfl, hb3⟩
    have hb4 := bCall hb hb3
    clear hC
    go_wp2
    go_ret
    exact ⟨rfl, hb4⟩
  · have hz : z = 1 := hc.out
    subst hz
    clear hc k1' k2
    go_wp2
    go_ret
    exact ⟨rfl, hb⟩
  · have hz : z = -1 := hc.out
    subst hz
    clear hc k1' k2
    go_wp2
    go_ret
    exact ⟨rfl, hb⟩
  · have hz : z = Ig.cmpI ay ax := hc.out
    have hC := rorder_any ay ax _ _ _ k2 k1' (by omega) (by omega)
    rw [← hz] at hC
    clear hz hc k1' k2
    go_wp2_with fail
    refine hC.mono ?_
    rintro _ w3 ⟨rfl, hb3⟩
    have hb4 := bCall hb hb3
    clear hC
    go_wp2
    go_ret
    exact ⟨rfl, hb4⟩
theorem rAdd_any (x y : Int) (w : World) (hx : Ig.fits x) (hy : Ig.fits y) :
    Calls Tryz.prog 85 #[.string ⟨(Lib.itoa x).toArray⟩, .string ⟨(Lib.itoa y).toArray⟩] w fun e w' => e = .returned (.tuple #[.string ⟨(Ig.resS (x + y)).toArray⟩, .int .i64 (Ig.resE (x + y))]) ∧ Below w.heap.size w w' := by
  have hV1 := fun w0 => rvalid_itoa hx w0
  have hV2 := fun w0 => rvalid_itoa hy w0
  have hD1 := fun w0 => rdigits_any x w0 (by have := rfits_dec hx; omega)
  have hD2 := fun w0 => rdigits_any y w0 (by have := rfits_dec hy; omega)
  have la := rfits_grp hx
  have lb := rfits_grp hy
  have hz := Kp.mk (show sgn (decide (x < 0)) x.natAbs + sgn (decide (y < 0)) y.natAbs = x + y by
    unfold sgn
    by_cases h1 : x < 0 <;> by_cases h2 : y < 0 <;> simp [h1, h2] <;> omega)
  generalize x + y = z at *
  generalize decide (x < 0) = nx at *
  generalize decide (y < 0) = ny at *
  generalize x.natAbs = ax at *
  generalize y.natAbs = ay at *
  generalize Lib.itoa x = sx at *
  generalize Lib.itoa y = sy at *
  clear hx hy
  have hS := fun b w0 (k1 : DgAt w0 ax b) d (k2 : DgAt w0 ay d) => rsum_any nx ny ax ay _ _ w0 k1 k2 (by omega) (by omega)
  rw [hz.out] at hS
  clear hz
  go_enter Tryz.func85, Tryz.ntmps85
  go_wp2_with fail
  refine (hV1 _).mono ?_
  rintro _ _ ⟨rfl, rfl⟩
  go_wp2_with fail
  refine (hV2 _).mono ?_
  rintro _ _ ⟨rfl, rfl⟩
  clear hV1 hV2
  go_wp2_with fail
  refine (hD1 _).mono ?_
  rintro _ w1 ⟨v1, rfl, k1, hb1⟩
  obtain ⟨A1, c1, rfl, -⟩ := id k1.out
  clear hD1
  go_wp2_with fail
  refine (hD2 _).mono ?_
  rintro _ w2 ⟨v2, rfl, k2, hb2⟩
  obtain ⟨A2, c2, rfl, -⟩ := id k2.out
  clear hD2
  have k1' := k1.call hb2
  have hb := bCall hb1 hb2
  clear k1 hb1 hb2
  replace hS := hS _ _ k1' _ k2
  clear k1' k2
  cases ny <;> cases nx
  all_goals
    go_wp2_with fail
    refine hS.mono ?_
    rintro _ w3 ⟨rfl, hb3⟩
    have hb4 := bCall hb hb3
    clear hS
    go_wp2
    go_ret2
    exact ⟨rfl, hb4⟩
theorem rSub_any (x y : Int) (w : World) (hx : Ig.fits x) (hy : Ig.fits y) :
    Calls Tryz.prog 89 #[.string ⟨(Lib.itoa x).toArray⟩, .string ⟨(Lib.itoa y).toArray⟩] w fun e w' => e = .returned (.tuple #[.string ⟨(Ig.resS (x - y)).toArray⟩, .int .i64 (Ig.resE (x - y))]) ∧ Below w.heap.size w w' := by
  have hV1 := fun w0 => rvalid_itoa hx w0
  have hV2 := fun w0 => rvalid_itoa hy w0
  have hD1 := fun w0 => rdigits_any x w0 (by have := rfits_dec hx; omega)
  have hD2 := fun w0 => rdigits_any y w0 (by have := rfits_dec hy; omega)
  have la := rfits_grp hx
  have lb := rfits_grp hy
  have hz := Kp.mk (show sgn (decide (x < 0)) x.natAbs + sgn (!decide (y < 0)) y.natAbs = x - y by
    unfold sgn
    by_cases h1 : x < 0 <;> by_cases h2 : y < 0 <;> simp [h1, h2] <;> omega)
  generalize x - y = z at *
  generalize decide (x < 0) = nx at *
  generalize decide (y < 0) = ny at *
  generalize x.natAbs = ax at *
  generalize y.natAbs = ay at *
  generalize Lib.itoa x = sx at *
  generalize Lib.itoa y = sy at *
  clear hx hy
  have hS := fun b w0 (k1 : DgAt w0 ax b) d (k2 : DgAt w0 ay d) => rsum_any nx (!ny) ax ay _ _ w0 k1 k2 (by omega) (by omega)
  rw [hz.out] at hS
  clear hz
  go_enter Tryz.func89, Tryz.ntmps89
  go_wp2_with fail
  refine (hV1 _).mono ?_
  rintro _ _ ⟨rfl, rfl⟩
  go_wp2_with fail
  refine (hV2 _).mono ?_
  rintro _ _ ⟨rfl, rfl⟩
  clear hV1 hV2
  go_wp2_with fail
  refine (hD1 _).mono ?_
  rintro _ w1 ⟨v1, rfl, k1, hb1⟩
  obtain ⟨A1, c1, rfl, -⟩ := id k1.out
  clear hD1
  go_wp2_with fail
  refine (hD2 _).mono ?_
  rintro _ w2 ⟨v2, rfl, k2, hb2⟩
  obtain ⟨A2, c2, rfl, -⟩ := id k2.out
  clear hD2
  have k1' := k1.call hb2
  have hb := bCall hb1 hb2
  clear k1 hb1 hb2
  replace hS := hS _ _ k1' _ k2
  clear k1' k2
  cases ny <;> cases nx
  all_goals
    go_wp2_with fail
    refine hS.mono ?_
    rintro _ w3 ⟨rfl, hb3⟩
    have hb4 := bCall hb hb3
    clear hS
    go_wp2
    go_ret2
    exact ⟨rfl, hb4⟩
end Go.Proofs.YtklelhkcbdajpaaGreatDoor
namespace Go.Proofs.YtklelhkcbdajpaaGreatDoor
open Go.RowKit Go.Shelf
theorem grp64_len {n : Nat} (h : n ≤ 9223372036854775808) : (Dx.grp n).length ≤ 20 := Dx.grp_len (by omega)
theorem rFromInt_pos (n : Nat) (w : World) (hn : n ≤ 9223372036854775807) :
    Calls Tryz.prog 80 #[.int .i64 n] w fun e w' => e = .returned (.string ⟨(Lib.itoa (sgn false n)).toArray⟩) ∧ Below w.heap.size w w' := by
  have hl20 := grp64_len (n := n) (by omega)
  have hT := fun A c (w0 : World) hA hc => rtext_any false n A c w0 hA hc (by omega)
  have hg := Kp.mk (show Dx.grp n = [] ++ Dx.grp n from rfl)
  generalize decide (Lib.nDigits n ≤ 200) = fit at *
  generalize Lib.itoa (sgn false n) = res at *
  have hlen : ∀ (o : List Int) (q : Nat), Dx.grp n = o ++ Dx.grp q → o.length ≤ 20 := fun o q h => by
    have := congrArg List.length h
    rw [List.length_append] at this
    omega
  have hownI := World.ownsRow_nil w w.heap.size 3 1
  have hst : ∀ (o : List Int) (q : Nat), q ≠ 0 → Dx.grp n = o ++ Dx.grp q → Kp (Dx.grp n = (o ++ [(q : Int) % 10]) ++ Dx.grp (q / 10)) := fun o q h0 h => ⟨by
    rw [h, Dx.grp_pos h0, List.append_assoc]
    congr 2⟩
  have t9 : decide ((n : Int) < 0) = false := decide_eq_false (by omega)
  obtain ⟨L, hL⟩ := exK (Dx.grp n)
  rw [hL.out] at hT hlen hst hl20
  clear hg
  have hg : Kp (L = [] ++ Dx.grp n) := ⟨by rw [List.nil_append]; exact hL.out.symm⟩
  clear hL
  go_enter Tryz.func80, Tryz.ntmps80
  go_wp2_with fail
  go_loopw [3, 4, 5] (fun s3 s4 s5 wr => ∃ (q : Nat) (o : List Int), s4 = .int .i64 ((q : Int)) ∧ q ≤ 9223372036854775807 ∧ Kp (L = o ++ Dx.grp q) ∧ wr.ownsRow w.heap.size 3 1 s3 o.length (o.flatMap intC) ∧ Below w.heap.size w wr) (fun s3 s4 s5 wr => (intOf s4).natAbs)
  case atStart => exact ⟨n, [], rfl, hn, hg, hownI, Below.refl _ _⟩
  case round =>
    clear hownI hg
    obtain ⟨q, o, rfl, hq, ho, hown, hb⟩ := hrel
    by_cases hq0 : q = 0
    · subst hq0
      have e : L = o := by have := ho.out; rw [Dx.grp_zero, List.append_nil] at this; exact this
      obtain ⟨A, c, rfl, hA, hc, hm, -⟩ := own_at hown
      subst e
      have hX := hT A c _ hA hc
      clear hT hst hlen hA hown ho
      generalize L.length = k at *
      go_wp2_with fail
      refine hX.mono ?_
      rintro _ w3 ⟨rfl, hb3⟩
      have hb4 := bCall hb hb3
      clear hX
      go_wp2
      go_ret
      exact ⟨rfl, hb4⟩
    · have ho20 := hlen o q ho.out
      have hnx := hst o q hq0 ho.out
      have u1 : decide (((q : Int)) = 0) = false := decide_eq_false (by omega)
      have u2 : (((q : Int)) != 0) = true := by simp; omega
      have u3 : decide ((q : Int) % 10 < 0) = false := decide_eq_false (by omega)
      obtain ⟨i0, z0, hi, hz2, hs1, hz1, hbys⟩ := intI
      have hbn := bNewW wr (.cells #[.int .i64 ((q : Int) % 10)] 3)
      have hown1 := own_callG hown hbn
      clear hT hst hlen ho
      go_wp2_with (at_builtin; refine wpList_append_own _ rfl (.tmp 19) (.tmp 21) 27 rfl w.heap.size 3 i0 z0 1 8 Tryz.underlying27 hi hz2 hs1 hbys hz1 (by decide) _ _ _ rfl hown1 ⟨wr.heap.size, 0, none⟩ 1 1 [.int .i64 ((q : Int) % 10)] rfl rfl ?_ ?_ ?_ ?_ ?_ ?_)
      all_goals first
        | (intro j u hj; rcases j with _ | j <;> simp at hj <;> subst hj <;> simp [Addr.add])
        | (intro u hu; simp at hu; subst hu; rfl)
        | rfl
        | (unfold maxLen; omega)
        | omega
        | (have := hbn.size; have := hb.size; omega)
        | skip
      intro v' w2 hown' hgrow _
      have hb' := (bCall hb hbn).grown hgrow (by have := hbn.size; have := hb.size; omega) (fun k hk => (hown1.lt k hk).1)
      clear hown1 hown hi hz2 hs1 hz1 hbys hgrow
      go_wp2
      refine ⟨⟨q / 10, o ++ [(q : Int) % 10], congrArg (Value.int .i64) (by omega), by omega, hnx, ?_, hb'⟩, by show ((q : Int) / 10).natAbs < ((q : Int)).natAbs; omega⟩
      rw [List.length_append, List.length_singleton, List.flatMap_append]
      exact hown'
end Go.Proofs.YtklelhkcbdajpaaGreatDoor
namespace Go.Proofs.YtklelhkcbdajpaaGreatDoor
open Go.RowKit Go.Shelf
theorem rFromInt_neg (z : Int) (n : Nat) (hz : Kp (z = -(n : Int))) (hz0 : z < 0) (hz1 : -9223372036854775808 ≤ z) (w : World) (hn : n ≤ 9223372036854775808) (h0 : n ≠ 0) :
    Calls Tryz.prog 80 #[.int .i64 z] w fun e w' => e = .returned (.string ⟨(Lib.itoa (sgn true n)).toArray⟩) ∧ Below w.heap.size w w' := by
  have hl20 := grp64_len (n := n) (by omega)
  have hT := fun A c (w0 : World) hA hc => rtext_any true n A c w0 hA hc (by omega)
  have hg := Kp.mk (show Dx.grp n = [] ++ Dx.grp n from rfl)
  generalize decide (Lib.nDigits n ≤ 200) = fit at *
  generalize Lib.itoa (sgn true n) = res at *
  have hlen : ∀ (o : List Int) (q : Nat), Dx.grp n = o ++ Dx.grp q → o.length ≤ 20 := fun o q h => by
    have := congrArg List.length h
    rw [List.length_append] at this
    omega
  have hownI := World.ownsRow_nil w w.heap.size 3 1
  have hst : ∀ (o : List Int) (q : Nat), q ≠ 0 → Dx.grp n = o ++ Dx.grp q → Kp (Dx.grp n = (o ++ [(q : Int) % 10]) ++ Dx.grp (q / 10)) := fun o q h0 h => ⟨by
    rw [h, Dx.grp_pos h0, List.append_assoc]
    congr 2⟩
  have t9 : decide (z < 0) = true := decide_eq_true hz0
  obtain ⟨L, hL⟩ := exK (Dx.grp n)
  rw [hL.out] at hT hlen hst hl20
  clear hg
  have hg : Kp (L = [] ++ Dx.grp n) := ⟨by rw [List.nil_append]; exact hL.out.symm⟩
  clear hL
  go_enter Tryz.func80, Tryz.ntmps80
  go_wp2_with fail
  go_loopw [3, 4, 5] (fun s3 s4 s5 wr => ∃ (q : Nat) (m : Int) (o : List Int), Kp (m = -(q : Int)) ∧ s4 = .int .i64 m ∧ q ≤ 9223372036854775808 ∧ Kp (L = o ++ Dx.grp q) ∧ wr.ownsRow w.heap.size 3 1 s3 o.length (o.flatMap intC) ∧ Below w.heap.size w wr) (fun s3 s4 s5 wr => (intOf s4).natAbs)
  case atStart => exact ⟨n, z, [], hz, rfl, hn, hg, hownI, Below.refl _ _⟩
  case round =>
    clear hownI hg
    obtain ⟨q, m, o, hm, rfl, hq, ho, hown, hb⟩ := hrel
    by_cases hq0 : q = 0
    · subst hq0
      obtain rfl : m = 0 := hm.out
      clear hm
      have e : L = o := by have := ho.out; rw [Dx.grp_zero, List.append_nil] at this; exact this
      obtain ⟨A, c, rfl, hA, hc, hm, -⟩ := own_at hown
      subst e
      have hX := hT A c _ hA hc
      clear hT hst hlen hA hown ho
      generalize L.length = k at *
      go_wp2_with fail
      refine hX.mono ?_
      rintro _ w3 ⟨rfl, hb3⟩
      have hb4 := bCall hb hb3
      clear hX
      go_wp2
      go_ret
      exact ⟨rfl, hb4⟩
    · have ho20 := hlen o q ho.out
      have hnx := hst o q hq0 ho.out
      have hr0 : Kp (Int.tmod m 10 = -((q : Int) % 10)) := ⟨by rw [hm.out, Int.neg_tmod, Int.tmod_eq_emod_of_nonneg (by omega)]⟩
      have hd0 : Kp (Int.tdiv m 10 = -((q / 10 : Nat) : Int)) := ⟨by rw [hm.out, Int.neg_tdiv, Int.tdiv_eq_ediv_of_nonneg (by omega)]; rfl⟩
      have hm1 : m ≤ -1 := by have := hm.out; omega
      have hm2 : -9223372036854775808 ≤ m := by have := hm.out; omega
      have hmm := hm
      clear hm
      have u2 : (m != 0) = true := by simp; omega
      have u1 : decide (m = 0) = false := decide_eq_false (by omega)
      generalize hrr : Int.tmod m 10 = r at *
      generalize hdd : Int.tdiv m 10 = m2 at *
      have hr1 : -9 ≤ r ∧ r ≤ 0 := by have := hr0.out; omega
      have hd1 : -9223372036854775808 ≤ m2 ∧ m2 ≤ 0 := by have := hd0.out; omega
      obtain ⟨i0, z0, hi, hz2, hs1, hz1, hbys⟩ := intI
      by_cases hneg : r < 0
      · have u3 : decide (r < 0) = true := decide_eq_true hneg
        have hbn := bNewW wr (.cells #[.int .i64 (-r)] 3)
        have hown1 := own_callG hown hbn
        clear hT hst hlen ho
        have hdummy := trivial
        go_wp2_with (at_builtin; refine wpList_append_own _ rfl (.tmp 19) (.tmp 21) 27 rfl w.heap.size 3 i0 z0 1 8 Tryz.underlying27 hi hz2 hs1 hbys hz1 (by decide) _ _ _ rfl hown1 ⟨wr.heap.size, 0, none⟩ 1 1 [.int .i64 (-r)] rfl rfl ?_ ?_ ?_ ?_ ?_ ?_)
        all_goals first
          | (intro j u hj; rcases j with _ | j <;> simp at hj <;> subst hj <;> simp [Addr.add])
          | (intro u hu; simp at hu; subst hu; rfl)
          | rfl
          | (unfold maxLen; omega)
          | omega
          | (have := hbn.size; have := hb.size; omega)
          | skip
        intro v' w2 hown' hgrow _
        have hb' := (bCall hb hbn).grown hgrow (by have := hbn.size; have := hb.size; omega) (fun k hk => (hown1.lt k hk).1)
        clear hown1 hown hi hz2 hs1 hz1 hbys hgrow
        go_wp2
        refine ⟨⟨q / 10, m2, o ++ [-r], hd0, rfl, by omega, ⟨?_⟩, ?_, hb'⟩, by show m2.natAbs < m.natAbs; have h1 := hd0.out; have h2 := hmm.out; omega⟩
        · rw [hnx.out]
          have h1 := hr0.out
          congr 3
          omega
        · rw [List.length_append, List.length_singleton, List.flatMap_append]
          exact hown'
      · have u3 : decide (r < 0) = false := decide_eq_false hneg
        have hbn := bNewW wr (.cells #[.int .i64 (r)] 3)
        have hown1 := own_callG hown hbn
        clear hT hst hlen ho
        have hdummy := trivial
        go_wp2_with (at_builtin; refine wpList_append_own _ rfl (.tmp 19) (.tmp 21) 27 rfl w.heap.size 3 i0 z0 1 8 Tryz.underlying27 hi hz2 hs1 hbys hz1 (by decide) _ _ _ rfl hown1 ⟨wr.heap.size, 0, none⟩ 1 1 [.int .i64 (r)] rfl rfl ?_ ?_ ?_ ?_ ?_ ?_)
        all_goals first
          | (intro j u hj; rcases j with _ | j <;> simp at hj <;> subst hj <;> simp [Addr.add])
          | (intro u hu; simp at hu; subst hu; rfl)
          | rfl
          | (unfold maxLen; omega)
          | omega
          | (have := hbn.size; have := hb.size; omega)
          | skip
        intro v' w2 hown' hgrow _
        have hb' := (bCall hb hbn).grown hgrow (by have := hbn.size; have := hb.size; omega) (fun k hk => (hown1.lt k hk).1)
        clear hown1 hown hi hz2 hs1 hz1 hbys hgrow
        go_wp2
        refine ⟨⟨q / 10, m2, o ++ [r], hd0, rfl, by omega, ⟨?_⟩, ?_, hb'⟩, by show m2.natAbs < m.natAbs; have h1 := hd0.out; have h2 := hmm.out; omega⟩
        · rw [hnx.out]
          have h1 := hr0.out
          congr 3
          omega
        · rw [List.length_append, List.length_singleton, List.flatMap_append]
          exact hown'
theorem rFromInt_any (z : Int) (w : World) (h0 : -9223372036854775808 ≤ z) (h1 : z ≤ 9223372036854775807) :
    Calls Tryz.prog 80 #[.int .i64 z] w fun e w' => e = .returned (.string ⟨(Lib.itoa z).toArray⟩) ∧ Below w.heap.size w w' := by
  by_cases hz : z < 0
  · have h := rFromInt_neg z z.natAbs ⟨by omega⟩ hz h0 w (by omega) (by omega)
    rwa [show sgn true z.natAbs = z by simp only [sgn]; simp; omega] at h
  · have h := rFromInt_pos z.natAbs w (by omega)
    rwa [show sgn false z.natAbs = z by simp only [sgn]; simp; omega, show ((z.natAbs : Nat) : Int) = z by omega] at h
end Go.Proofs.YtklelhkcbdajpaaGreatDoor
namespace Dx
theorem atG_set {l : List Int} {j : Nat} {v : Int} (h : j < l.length) (t : Nat) : atG (l.set j v) t = if t = j then v else atG l t := by
  unfold atG
  rw [List.getElem?_set]
  by_cases ht : j = t
  · subst ht; rw [if_pos rfl, if_pos h, if_pos rfl]; rfl
  · rw [if_neg ht, if_neg (fun e => ht e.symm)]
theorem gval_set : ∀ {l : List Int} {j : Nat} {v : Int}, j < l.length → gval (l.set j v) = gval l + 10 ^ j * (v - atG l j)
  | [], j, v, h => absurd h (Nat.not_lt_zero _)
  | a :: l, 0, v, _ => by
    show v + 10 * gval l = a + 10 * gval l + 10 ^ 0 * (v - a)
    simp; omega
  | a :: l, j + 1, v, h => by
    have ih := gval_set (l := l) (j := j) (v := v) (by simpa using h)
    show a + 10 * gval (l.set j v) = a + 10 * gval l + 10 ^ (j + 1) * (v - atG l j)
    rw [ih, Int.pow_succ, Int.mul_add, Int.mul_comm (10 ^ j) 10, Int.mul_assoc]
    omega
structure TIn (C0 C : List Int) (i : Nat) (x : Int) (m : List Int) (k : Nat) (c : Int) : Prop where
  len : C.length = C0.length
  gr : Gr C
  eq : gval C + 10 ^ (i + k) * c = gval C0 + 10 ^ i * (x * gval (m.take k))
  same : ∀ t, i + k ≤ t → atG C t = atG C0 t
  c0 : 0 ≤ c
  c9 : c ≤ 9
theorem mul_digits {x y : Int} (hx : 0 ≤ x ∧ x < 10) (hy : 0 ≤ y ∧ y < 10) : 0 ≤ x * y ∧ x * y ≤ 81 := by
  refine ⟨Int.mul_nonneg hx.1 hy.1, ?_⟩
  have h1 : x * y ≤ 9 * y := Int.mul_le_mul_of_nonneg_right (by omega) hy.1
  omega
theorem TIn.start {C0 : List Int} (h : Gr C0) (i : Nat) (x : Int) (m : List Int) : TIn C0 C0 i x m 0 0 := ⟨rfl, h, by simp [gval], fun _ _ => rfl, by omega, by omega⟩
theorem TIn.step {C0 C m : List Int} {i k : Nat} {x c : Int} (h : TIn C0 C i x m k c) (hx : 0 ≤ x ∧ x < 10) (hm : Gr m) (hk : i + k < C.length) : TIn C0 (C.set (i + k) ((atG C (i + k) + c + x * atG m k) % 10)) i x m (k + 1) ((atG C (i + k) + c + x * atG m k) / 10) := by
  have hC := atG_in h.gr (i + k)
  have hy := atG_in hm k
  have hxy := mul_digits hx hy
  have h0 := h.c0
  have h9 := h.c9
  refine ⟨by rw [List.length_set, h.len], fun g hg => ?_, ?_, fun t ht => ?_, by omega, by omega⟩
  · rcases List.mem_or_eq_of_mem_set hg with h1 | h1
    · exact h.gr g h1
    · subst h1; omega
  · rw [gval_set hk, gval_at]
    have he := h.eq
    have e1 : (10 : Int) ^ (i + (k + 1)) = 10 ^ (i + k) * 10 := by rw [← Nat.add_assoc, Int.pow_succ]
    have e2 : (10 : Int) ^ (i + k) = 10 ^ i * 10 ^ k := Int.pow_add _ _ _
    generalize atG C (i + k) = u at *
    generalize atG m k = y at *
    have e3 : (u + c + x * y) % 10 - u + 10 * ((u + c + x * y) / 10) = c + x * y := by omega
    have e4 : gval C + 10 ^ (i + k) * ((u + c + x * y) % 10 - u) + 10 ^ (i + (k + 1)) * ((u + c + x * y) / 10) = gval C + 10 ^ (i + k) * (c + x * y) := by
      rw [e1, Int.mul_assoc, Int.add_assoc, ← Int.mul_add, e3]
    rw [e4, Int.mul_add, ← Int.add_assoc, he, e2, Int.mul_add, Int.mul_add, Int.add_assoc]
    congr 2
    rw [Int.mul_assoc, Int.mul_left_comm x (10 ^ k) y]
  · rw [atG_set hk, if_neg (by omega)]
    exact h.same t (by omega)
theorem TIn.stop {C0 C m : List Int} {i k : Nat} {x : Int} (h : TIn C0 C i x m k 0) (hk : m.length ≤ k) : gval C = gval C0 + 10 ^ i * (x * gval m) := by
  have := h.eq
  rw [List.take_of_length_le hk] at this
  omega
theorem atG_zero {C : List Int} (h : Gr C) {j : Nat} (hv : gval C < 10 ^ j) {t : Nat} (ht : j ≤ t) : atG C t = 0 := by
  by_cases hl : t < C.length
  · have h1 := gval_at C t
    have h2 := gval_nonneg (l := C.take t) (fun g hg => h g (List.mem_of_mem_take hg))
    have h3 : gval C = gval (C.take (t + 1)) + 10 ^ (t + 1) * gval (C.drop (t + 1)) := by
      have := gval_append (C.take (t + 1)) (C.drop (t + 1))
      rw [List.take_append_drop, List.length_take, Nat.min_eq_left (by omega)] at this
      exact this
    have h4 := gval_nonneg (l := C.drop (t + 1)) (fun g hg => h g (List.mem_of_mem_drop hg))
    have h5 := atG_in h t
    have h6 : (0 : Int) ≤ 10 ^ (t + 1) * gval (C.drop (t + 1)) := Int.mul_nonneg (Int.le_of_lt (Int.pow_pos (by decide))) h4
    rcases Int.lt_or_le 0 (atG C t) with h7 | h7
    · have h8 : (10 : Int) ^ t * 1 ≤ 10 ^ t * atG C t := Int.mul_le_mul_of_nonneg_left (by omega) (Int.le_of_lt (Int.pow_pos (by decide)))
      have h9 : (10 : Int) ^ j ≤ 10 ^ t := by have := Nat.pow_le_pow_right (show 0 < 10 by decide) ht; exact_mod_cast this
      omega
    · omega
  · exact atG_ge (by omega)
end Dx

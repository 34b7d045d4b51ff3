/- order of dialtoneref03: decimal digits in memory, compared. plus of dialtoneref03. minus of dialtoneref03. digits of dialtoneref03. -/
import Derived.Test.YtllnepdighhkdaaGreatDoorME
import Derived.Test.YtllnepdighhkdaaGreatDoorMK
namespace Go.Proofs.YtllnepdighhkdaaGreatDoor
set_option linter.unusedVariables false
set_option linter.unusedSimpArgs false
open Go.RowKit Go.Shelf
/-- a number in memory, its decimal digits, the lowest one first -/
structure DgAt (W : World) (a : Nat) (v : Value) : Prop where
  out : ∃ (A : Option Addr) (cap : Nat), v = .slice A (Dx.grp a).length cap ∧ At 1 intC W W.heap.size A (Dx.grp a) ∧ (Dx.grp a).length ≤ cap ∧ cap ≤ maxLen
theorem DgAt.call {W W' : World} {a : Nat} {v : Value} (h : DgAt W a v) (hb : Below W.heap.size W W') : DgAt W' a v := by
  obtain ⟨A, cap, h1, h2, h3, h4⟩ := h.out
  exact ⟨A, cap, h1, (h2.below hb).more hb.size, h3, h4⟩
theorem dg_of {W : World} {A : Option Addr} {out : List Int} {cap a : Nat} (hA : At 1 intC W W.heap.size A out) (hc : out.length ≤ cap) (hm : cap ≤ maxLen) (h : Kp (Ig.trimG out = Dx.grp a)) : DgAt W a (.slice A (Ig.trimG out).length cap) := by
  refine ⟨A, cap, by rw [h.out], ?_, ?_, hm⟩
  · rw [← h.out, ← trim_take]; exact hA.take _
  · rw [← h.out, ← trim_take, List.length_take]; omega
theorem rcmp_at {a b : Nat} (hlen : (Dx.grp a).length = (Dx.grp b).length) (k : Nat) (hk : k < (Dx.grp a).length) (hd : ∀ t, k < t → t < (Dx.grp a).length → Dx.atG (Dx.grp a) t = Dx.atG (Dx.grp b) t) (hne : Dx.atG (Dx.grp a) k ≠ Dx.atG (Dx.grp b) k) : Ig.cmpI a b = if Dx.atG (Dx.grp a) k < Dx.atG (Dx.grp b) k then -1 else 1 := by
  have h1 : (Dx.grp a).drop (k + 1) = (Dx.grp b).drop (k + 1) := by
    apply List.ext_getElem (by simp [hlen])
    intro i h1 h2
    simp only [List.length_drop] at h1 h2
    have := hd (k + 1 + i) (by omega) (by omega)
    rw [Dx.atG_lt (by omega), Dx.atG_lt (by omega)] at this
    simpa using this
  exact Dx.cmp_at hlen k hk h1 hne
theorem rcmp_all {a b : Nat} (hlen : (Dx.grp a).length = (Dx.grp b).length) (h : ∀ t, t < (Dx.grp a).length → Dx.atG (Dx.grp a) t = Dx.atG (Dx.grp b) t) : Ig.cmpI a b = 0 := by
  refine Dx.cmp_same (List.ext_getElem hlen fun i h1 h2 => ?_)
  have := h i h1
  rwa [Dx.atG_lt h1, Dx.atG_lt h2] at this
theorem at_cellR {W : World} {B : Nat} {b off : Nat} {l : List Int} (hcell : ∀ i c, l[i]? = some c → ∀ j u, (intC c)[j]? = some u → W.cell? ⟨b, off + i * 1 + j, none⟩ = some u) (hb : b < W.heap.size) {t : Nat} (ht : t < l.length) :
    ∀ d os, (Sort.grow (redrawn W d) os).cell? ⟨b, off + t, none⟩ = some (.int .i64 (Dx.atG l t)) := fun d os => by
  have h1 := hcell t _ (List.getElem?_eq_getElem ht) 0 _ rfl
  rw [Dx.atG_lt ht]
  rw [Nat.mul_one, Nat.add_zero] at h1
  exact ((below_regrown W d os).cell (p := ⟨b, off + t, none⟩) hb).trans h1
set_option maxRecDepth 100000 in
set_option maxHeartbeats 4000000 in
theorem rorder_any (a b : Nat) (v1 v2 : Value) (w : World) (h1 : DgAt w a v1) (h2 : DgAt w b v2) (la : (Dx.grp a).length ≤ 1000000) (lb : (Dx.grp b).length ≤ 1000000) :
    Calls Tryz.prog 101 #[v1, v2] w fun e w' => e = .returned (.int .i64 (Ig.cmpI a b)) ∧ Below w.heap.size w w' := by
  obtain ⟨A1, c1, rfl, hA1, hn1, hm1⟩ := h1.out
  obtain ⟨A2, c2, rfl, hA2, hn2, hm2⟩ := h2.out
  by_cases hlen : (Dx.grp a).length = (Dx.grp b).length
  · have hne := fun k hk hd hx => rcmp_at hlen k hk hd hx
    have heq := fun h => rcmp_all hlen h
    generalize Ig.cmpI a b = ans at *
    generalize Dx.grp a = l at *
    generalize Dx.grp b = m at *
    clear h1 h2
    have t0 : decide ((l.length : Int) = (m.length : Int)) = true := decide_eq_true (by omega)
    have t0' : ((l.length : Int) != (m.length : Int)) = false := by simp; omega
    have hlk := Kp.mk hlen
    clear hlen
    go_enter Tryz.func101, Tryz.ntmps101
    go_wp2_with fail
    clear t0 t0'
    go_loopw [5] (fun s5 wr => ∃ r : Nat, r ≤ l.length ∧ s5 = .int .i64 ((r : Int) - 1) ∧ Kp (∀ t, r ≤ t → t < l.length → Dx.atG l t = Dx.atG m t) ∧ Below w.heap.size w wr) (fun s5 wr => (intOf s5 + 1).toNat)
    case atStart => exact ⟨l.length, Nat.le_refl _, rfl, ⟨fun t h3 h4 => by omega⟩, Below.refl _ _⟩
    case round =>
      obtain ⟨r, hr, rfl, hall, hb⟩ := hrel
      by_cases h0 : 0 < r
      · obtain ⟨t, rfl⟩ : ∃ t, r = t + 1 := ⟨r - 1, by omega⟩
        have hcast : ((t + 1 : Nat) : Int) - 1 = (t : Int) := by omega
        simp only [hcast]
        have htl : t < l.length := by omega
        have htm : t < m.length := by have := hlk.out; omega
        obtain ⟨b1, o1, rfl, hb1, hc1⟩ := (hA1.below hb) (by omega)
        obtain ⟨b2, o2, rfl, hb2, hc2⟩ := (hA2.below hb) (by omega)
        have k1 := at_cellR (B := w.heap.size) hc1 (Nat.lt_of_lt_of_le hb1 hb.size) htl
        have k2 := at_cellR (B := w.heap.size) hc2 (Nat.lt_of_lt_of_le hb2 hb.size) htm
        have hres := hne t htl (fun u h3 h4 => hall.out u (by omega) h4)
        have hnext : Dx.atG l t = Dx.atG m t → Kp (∀ u, t ≤ u → u < l.length → Dx.atG l u = Dx.atG m u) := fun he => ⟨fun u h3 h4 => by
          rcases (show u = t ∨ t + 1 ≤ u by omega) with h | h
          · subst h; exact he
          · exact hall.out u h h4⟩
        clear hc1 hc2 hall hne heq
        generalize Dx.atG l t = x at *
        generalize Dx.atG m t = y at *
        by_cases hxy : x = y
        · have hn := hnext hxy
          have tx : decide (x = y) = true := decide_eq_true hxy
          have tx' : (x != y) = false := by simp [hxy]
          clear hres hnext hxy
          go_wp2
          refine wp_region_quiet_below (by kernel_rfl) (by kernel_rfl) ?_
          repeat (go_big_quiet_step (first | fail))
          refine wpQuiet_nil ?_
          rintro _ ⟨z, rfl⟩
          have hbz := bAgain hb z.d z.os
          clear k1 k2
          generalize Sort.grow (redrawn wr z.d) z.os = W2 at *
          go_wp2
          exact ⟨⟨t, by omega, rfl, hn, hbz⟩, by simp [intOf]⟩
        · have hres2 := Kp.mk (hres hxy)
          have tx : decide (x = y) = false := decide_eq_false hxy
          have tx' : (x != y) = true := by simp [hxy]
          clear hres hnext hxy
          go_wp2
          refine wp_region_quiet_below (by kernel_rfl) (by kernel_rfl) ?_
          repeat (go_big_quiet_step (first | fail))
          refine wpQuiet_nil ?_
          rintro _ ⟨z, rfl⟩
          have hbz := bAgain hb z.d z.os
          have k1' := fun d os => ((below_regrown (Sort.grow (redrawn wr z.d) z.os) d os).cell (p := ⟨b1, o1 + t, none⟩) (Nat.lt_of_lt_of_le hb1 hbz.size)).trans (k1 z.d z.os)
          have k2' := fun d os => ((below_regrown (Sort.grow (redrawn wr z.d) z.os) d os).cell (p := ⟨b2, o2 + t, none⟩) (Nat.lt_of_lt_of_le hb2 hbz.size)).trans (k2 z.d z.os)
          clear k1 k2
          generalize Sort.grow (redrawn wr z.d) z.os = W2 at *
          by_cases hlt : x < y
          · have ty : decide (x < y) = true := decide_eq_true hlt
            rw [if_pos hlt] at hres2
            clear hlt
            go_wp2
            refine wp_region_quiet_below (by kernel_rfl) (by kernel_rfl) ?_
            repeat (go_big_quiet_step (first | fail))
            refine wpQuiet_nil ?_
            rintro _ ⟨z2, rfl⟩
            have hbz2 := bAgain hbz z2.d z2.os
            clear k1' k2'
            generalize Sort.grow (redrawn W2 z2.d) z2.os = W3 at *
            go_wp2
            go_ret
            exact ⟨by rw [hres2.out]; rfl, hbz2⟩
          · have ty : decide (x < y) = false := decide_eq_false hlt
            rw [if_neg hlt] at hres2
            clear hlt
            go_wp2
            refine wp_region_quiet_below (by kernel_rfl) (by kernel_rfl) ?_
            repeat (go_big_quiet_step (first | fail))
            refine wpQuiet_nil ?_
            rintro _ ⟨z2, rfl⟩
            have hbz2 := bAgain hbz z2.d z2.os
            clear k1' k2'
            generalize Sort.grow (redrawn W2 z2.d) z2.os = W3 at *
            go_wp2
            go_ret
            exact ⟨by rw [hres2.out]; rfl, hbz2⟩
      · obtain rfl : r = 0 := by omega
        have hcast : ((0 : Nat) : Int) - 1 = -1 := rfl
        simp only [hcast]
        have hz := Kp.mk (heq fun t ht => hall.out t (by omega) ht)
        clear hall hne heq
        go_wp2
        go_ret
        exact ⟨by rw [hz.out]; rfl, hb⟩
  · have hc := Kp.mk (Dx.cmp_len hlen)
    generalize (Dx.grp a).length = n1 at *
    generalize (Dx.grp b).length = n2 at *
    have t0 : decide ((n1 : Int) = (n2 : Int)) = false := decide_eq_false (by omega)
    have t0' : ((n1 : Int) != (n2 : Int)) = true := by simp; omega
    by_cases hlt : n1 < n2
    · rw [if_pos hlt] at hc
      have t1 : decide (n1 < n2) = true := decide_eq_true (by omega)
      clear hlen hlt
      go_enter Tryz.func101, Tryz.ntmps101
      go_wp2
      go_ret
      exact ⟨by rw [hc.out]; rfl, Below.refl _ _⟩
    · rw [if_neg hlt] at hc
      have t1 : decide (n1 < n2) = false := decide_eq_false (by omega)
      clear hlen hlt
      go_enter Tryz.func101, Tryz.ntmps101
      go_wp2
      go_ret
      exact ⟨by rw [hc.out]; rfl, Below.refl _ _⟩
end Go.Proofs.YtllnepdighhkdaaGreatDoor
namespace Dx
theorem grp_exact {out : List Int} {v : Nat} (hG : Gr out) (hv : gval out = v) (hl : out = [] ∨ 10 ^ (out.length - 1) ≤ v) : out = grp v := by
  have h := grp_of (l := out) hG ?_
  · rw [hv, Int.toNat_natCast] at h; exact h
  · rcases hl with rfl | hl
    · simp
    · intro hlast
      rcases Ig.snoc_cases out with rfl | ⟨m, g, rfl⟩
      · simp at hlast
      · obtain rfl : g = 0 := by simpa using hlast
        have h1 := gval_lt (l := m) (fun x hx => hG x (by simp [hx]))
        rw [gval_append] at hv
        simp [gval] at hv
        rw [List.length_append, List.length_singleton, Nat.add_sub_cancel] at hl
        have e : (10 : Int) ^ m.length = ((10 ^ m.length : Nat) : Int) := by simp
        omega
theorem grp_ge {a n : Nat} (h : n + 1 ≤ (grp a).length) : 10 ^ n ≤ a := by
  rcases Nat.lt_or_ge a (10 ^ n) with h1 | h1
  · have := grp_len h1; omega
  · exact h1
theorem fold_ge {d : Nat → Int} {i : Nat} {out : List Int} {carry : Int} (h : FoldAt d i out carry) (hc : 0 < carry) {v : Nat} (hv : dsum d i = v) : 10 ^ i ≤ v := by
  have h1 := gval_nonneg h.gr
  have h2 := h.eq
  have e : (10 : Int) ^ i = ((10 ^ i : Nat) : Int) := by simp
  have h3 : (10 : Int) ^ i * 1 ≤ 10 ^ i * carry := Int.mul_le_mul_of_nonneg_left (by omega) (Int.le_of_lt (Int.pow_pos (by decide)))
  omega
end Dx
namespace Go.Proofs.YtllnepdighhkdaaGreatDoor
set_option linter.unusedVariables false
set_option linter.unusedSimpArgs false
open Go.RowKit Go.Shelf
theorem radd_all (a b : Nat) {n : Nat} (ha : (Dx.grp a).length ≤ n) (hb : (Dx.grp b).length ≤ n) : Dx.dsum (fun i => Dx.atG (Dx.grp a) i + Dx.atG (Dx.grp b) i) n = ((a + b : Nat) : Int) := by
  rw [Dx.dsum_add, Dx.dsum_all ha, Dx.dsum_all hb, Dx.gval_grp, Dx.gval_grp]; omega
set_option maxRecDepth 100000 in
set_option maxHeartbeats 4000000 in
theorem rplus_any (a b : Nat) (v1 v2 : Value) (w : World) (h1 : DgAt w a v1) (h2 : DgAt w b v2) (la : (Dx.grp a).length ≤ 100000) (lb : (Dx.grp b).length ≤ 100000) :
    Calls Tryz.prog 98 #[v1, v2] w fun e w' => ∃ v, e = .returned v ∧ DgAt w' (a + b) v ∧ Below w.heap.size w w' := by
  obtain ⟨A1, c1, rfl, hA1, hn1, hm1⟩ := h1.out
  obtain ⟨A2, c2, rfl, hA2, hn2, hm2⟩ := h2.out
  obtain ⟨n, hn⟩ := exK (max (Dx.grp a).length (Dx.grp b).length)
  have hna : (Dx.grp a).length ≤ n := by rw [← hn.out]; omega
  have hnb : (Dx.grp b).length ≤ n := by rw [← hn.out]; omega
  have hor : n = (Dx.grp a).length ∨ n = (Dx.grp b).length := by rw [← hn.out]; omega
  have hsum := fun i (hi : n ≤ i) => radd_all a b (Nat.le_trans hna hi) (Nat.le_trans hnb hi)
  have hbig : Kp (∀ k, n = k + 1 → 10 ^ k ≤ a + b) := ⟨fun k hk => by
    rcases hor with h | h
    · have := Dx.grp_ge (a := a) (n := k) (by omega); omega
    · have := Dx.grp_ge (a := b) (n := k) (by omega); omega⟩
  have ga := Dx.gr_grp a
  have gb := Dx.gr_grp b
  have hans := fun {l : List Int} (hG : Dx.Gr l) (hv : Dx.gval l = ((a + b : Nat) : Int)) hl => Dx.grp_exact hG hv hl
  have hfg := fun {i : Nat} {l : List Int} {c : Int} (hi : n ≤ i) (h : Dx.FoldAt (fun i => Dx.atG (Dx.grp a) i + Dx.atG (Dx.grp b) i) i l c) (hc : 0 < c) => Dx.fold_ge h hc (hsum i hi)
  have hlk : Kp (∀ l : List Int, l = Dx.grp (a + b) → l.length = (Dx.grp (a + b)).length) := ⟨fun l h => by rw [h]⟩
  generalize hla : Dx.grp a = l at *
  generalize hlb : Dx.grp b = m at *
  clear hla hlb h1 h2 hn
  have hn9 : n ≤ 100000 := by omega
  have hownI := World.ownsRow_nil w w.heap.size 3 1
  go_enter Tryz.func98, Tryz.ntmps98
  go_wp2_with fail
  go_loopw [5, 6, 7, 8] (fun s5 s6 s7 s8 wr => ∃ (i : Nat) (carry : Int) (o : List Int), s7 = .int .i64 i ∧ s6 = .int .i64 carry ∧ 0 ≤ carry ∧ carry ≤ 1 ∧ i ≤ n + 1 ∧ (i = n + 1 → carry = 0) ∧ Kp (i = n + 1 → 10 ^ n ≤ a + b) ∧ o.length ≤ i ∧ Kp (Dx.FoldAt (fun i => Dx.atG l i + Dx.atG m i) i o carry) ∧ wr.ownsRow w.heap.size 3 1 s5 o.length (o.flatMap intC) ∧ Below w.heap.size w wr) (fun s5 s6 s7 s8 wr => n + 2 - (intOf s7).toNat)
  case atStart => exact ⟨0, 0, [], rfl, rfl, by omega, by omega, by omega, by omega, ⟨fun h => by omega⟩, Nat.le_refl _, ⟨Dx.fold_start _⟩, hownI, Below.refl _ _⟩
  case round =>
    clear hownI
    obtain ⟨i, carry, o, rfl, rfl, hc0, hc1, hin, hce, hcb, hol, hf, hown, hb⟩ := hrel
    by_cases hstop : n ≤ i ∧ carry = 0
    · obtain ⟨hni, rfl⟩ := hstop
      have hout : Kp (o = Dx.grp (a + b)) := ⟨by
        refine hans hf.out.gr ?_ ?_
        · have h3 := hf.out.eq
          rw [Int.mul_zero, Int.add_zero, hsum i hni] at h3
          exact h3
        · have h4 := hf.out.len
          by_cases h0 : i = 0
          · exact .inl (List.length_eq_zero_iff.1 (by omega))
          · refine .inr ?_
            rcases (show i = n ∨ i = n + 1 by omega) with h5 | h5
            · have := hbig.out (n - 1) (by omega)
              rw [h4, h5]; exact this
            · have := hcb.out h5
              rw [h4, h5, Nat.add_sub_cancel]; exact this⟩
      have t0 : decide (i < l.length) = false := decide_eq_false (by omega)
      have t1 : decide (i < m.length) = false := decide_eq_false (by omega)
      obtain ⟨A, cap, rfl, hA, hcap, hcm, -⟩ := own_at hown
      clear hown hans hfg hsum hbig hcb hf
      go_wp2
      go_ret
      exact ⟨_, rfl, ⟨A, cap, by rw [← hout.out]; rfl, by rw [← hout.out]; exact hA, by rw [← hout.out]; exact hcap, hcm⟩, hb⟩
    · have hx := Dx.atG_in ga i
      have hy := Dx.atG_in gb i
      have hnext := Kp.mk (Dx.fold_step hf.out)
      have hgt : Kp (i = n → 10 ^ n ≤ a + b) := ⟨fun h => by
        have := hfg (i := i) (by omega) hf.out (by omega)
        rw [← h]; exact this⟩
      have hxz : l.length ≤ i → Dx.atG l i = 0 := fun h => Dx.atG_ge h
      have hyz : m.length ≤ i → Dx.atG m i = 0 := fun h => Dx.atG_ge h
      have hin' : i ≤ n := by omega
      have hcn : i = n → carry = 1 := fun h => by omega
      have q1 : ∀ _ : i < l.length, ∃ b1 o1, A1 = some ⟨b1, o1, none⟩ ∧ wr.cell? ⟨b1, o1 + i, none⟩ = some (.int .i64 (Dx.atG l i)) := fun h => by
        obtain ⟨b1, o1, e, hb1, hcc⟩ := (hA1.below hb) (by omega)
        have := hcc i _ (List.getElem?_eq_getElem h) 0 _ rfl
        exact ⟨b1, o1, e, by rw [Dx.atG_lt h]; simpa using this⟩
      have q2 : ∀ _ : i < m.length, ∃ b1 o1, A2 = some ⟨b1, o1, none⟩ ∧ wr.cell? ⟨b1, o1 + i, none⟩ = some (.int .i64 (Dx.atG m i)) := fun h => by
        obtain ⟨b1, o1, e, hb1, hcc⟩ := (hA2.below hb) (by omega)
        have := hcc i _ (List.getElem?_eq_getElem h) 0 _ rfl
        exact ⟨b1, o1, e, by rw [Dx.atG_lt h]; simpa using this⟩
      obtain ⟨i0, z0, hi, hz, hs1, hz1, hby⟩ := intI
      clear hf hans hfg hsum hbig hcb
      generalize Dx.atG l i = x at *
      generalize Dx.atG m i = y at *
      by_cases hl : i < l.length
      · by_cases hm : i < m.length
        · have hdummy := trivial
          obtain ⟨b1, o1, rfl, k1⟩ := q1 hl
          have t0 : decide (i < l.length) = true := decide_eq_true hl
          obtain ⟨b2, o2, rfl, k2⟩ := q2 hm
          have t1 : decide (i < m.length) = true := decide_eq_true hm
          have hbn := bNewW wr (.cells #[.int .i64 ((carry + x + y) % 10)] 3)
          have hown1 := own_callG hown hbn
          clear q1 q2 hxz hyz hA1 hA2
          go_wp2_with (at_builtin; refine wpList_append_own _ rfl (.tmp 46) (.tmp 49) 64 rfl w.heap.size 3 i0 z0 1 8 Tryz.underlying64 hi hz hs1 hby hz1 (by decide) _ _ _ rfl hown1 ⟨wr.heap.size, 0, none⟩ 1 1 [.int .i64 ((carry + x + y) % 10)] rfl rfl ?c1 ?c2 ?c3 ?c4 ?c5 ?_)
          case c1 =>
            intro j u hj
            match j, hj with
            | 0, hj => simp at hj; subst hj; simp [Addr.add]
          case c2 => intro u hu; simp at hu; subst hu; rfl
          case c3 => unfold maxLen; omega
          case c4 => omega
          case c5 => have := hbn.size; have := hb.size; omega
          intro v' w2 hown' hgrow _
          have hb' := (bCall hb hbn).grown hgrow (by have := hbn.size; have := hb.size; omega) (fun k hk => (hown1.lt k hk).1)
          clear hown1 hown hi hz hs1 hz1 hby hgrow
          go_wp2
          refine ⟨⟨i + 1, (carry + x + y) / 10, o ++ [(carry + x + y) % 10], by go_num, by first | rfl | (congr 1), by omega, by omega, by omega, by omega, ⟨fun h => hgt.out (by omega)⟩, by rw [List.length_append, List.length_singleton]; omega, ⟨?_⟩, ?_, hb'⟩, by simp [intOf]; omega⟩
          · have h7 := hnext.out
            first
              | exact h7
              | (rw [show x + y + carry = carry + x + y by omega] at h7; exact h7)
          · rw [List.length_append, List.length_singleton, List.flatMap_append]
            exact hown'
        · have hdummy := trivial
          obtain ⟨b1, o1, rfl, k1⟩ := q1 hl
          have t0 : decide (i < l.length) = true := decide_eq_true hl
          obtain rfl := hyz (by omega)
          have t1 : decide (i < m.length) = false := decide_eq_false hm
          have hbn := bNewW wr (.cells #[.int .i64 ((carry + x) % 10)] 3)
          have hown1 := own_callG hown hbn
          clear q1 q2 hxz hyz hA1 hA2
          go_wp2_with (at_builtin; refine wpList_append_own _ rfl (.tmp 46) (.tmp 49) 64 rfl w.heap.size 3 i0 z0 1 8 Tryz.underlying64 hi hz hs1 hby hz1 (by decide) _ _ _ rfl hown1 ⟨wr.heap.size, 0, none⟩ 1 1 [.int .i64 ((carry + x) % 10)] rfl rfl ?c1 ?c2 ?c3 ?c4 ?c5 ?_)
          case c1 =>
            intro j u hj
            match j, hj with
            | 0, hj => simp at hj; subst hj; simp [Addr.add]
          case c2 => intro u hu; simp at hu; subst hu; rfl
          case c3 => unfold maxLen; omega
          case c4 => omega
          case c5 => have := hbn.size; have := hb.size; omega
          intro v' w2 hown' hgrow _
          have hb' := (bCall hb hbn).grown hgrow (by have := hbn.size; have := hb.size; omega) (fun k hk => (hown1.lt k hk).1)
          clear hown1 hown hi hz hs1 hz1 hby hgrow
          go_wp2
          refine ⟨⟨i + 1, (carry + x) / 10, o ++ [(carry + x) % 10], by go_num, by first | rfl | (congr 1), by omega, by omega, by omega, by omega, ⟨fun h => hgt.out (by omega)⟩, by rw [List.length_append, List.length_singleton]; omega, ⟨?_⟩, ?_, hb'⟩, by simp [intOf]; omega⟩
          · have h7 := hnext.out
            first
              | exact h7
              | (rw [show x + 0 + carry = carry + x by omega] at h7; exact h7)
          · rw [List.length_append, List.length_singleton, List.flatMap_append]
            exact hown'
      · by_cases hm : i < m.length
        · have hdummy := trivial
          obtain rfl := hxz (by omega)
          have t0 : decide (i < l.length) = false := decide_eq_false hl
          obtain ⟨b2, o2, rfl, k2⟩ := q2 hm
          have t1 : decide (i < m.length) = true := decide_eq_true hm
          have hbn := bNewW wr (.cells #[.int .i64 ((carry + y) % 10)] 3)
          have hown1 := own_callG hown hbn
          clear q1 q2 hxz hyz hA1 hA2
          go_wp2_with (at_builtin; refine wpList_append_own _ rfl (.tmp 46) (.tmp 49) 64 rfl w.heap.size 3 i0 z0 1 8 Tryz.underlying64 hi hz hs1 hby hz1 (by decide) _ _ _ rfl hown1 ⟨wr.heap.size, 0, none⟩ 1 1 [.int .i64 ((carry + y) % 10)] rfl rfl ?c1 ?c2 ?c3 ?c4 ?c5 ?_)
          case c1 =>
            intro j u hj
            match j, hj with
            | 0, hj => simp at hj; subst hj; simp [Addr.add]
          case c2 => intro u hu; simp at hu; subst hu; rfl
          case c3 => unfold maxLen; omega
          case c4 => omega
          case c5 => have := hbn.size; have := hb.size; omega
          intro v' w2 hown' hgrow _
          have hb' := (bCall hb hbn).grown hgrow (by have := hbn.size; have := hb.size; omega) (fun k hk => (hown1.lt k hk).1)
          clear hown1 hown hi hz hs1 hz1 hby hgrow
          go_wp2
          refine ⟨⟨i + 1, (carry + y) / 10, o ++ [(carry + y) % 10], by go_num, by first | rfl | (congr 1), by omega, by omega, by omega, by omega, ⟨fun h => hgt.out (by omega)⟩, by rw [List.length_append, List.length_singleton]; omega, ⟨?_⟩, ?_, hb'⟩, by simp [intOf]; omega⟩
          · have h7 := hnext.out
            first
              | exact h7
              | (rw [show 0 + y + carry = carry + y by omega] at h7; exact h7)
          · rw [List.length_append, List.length_singleton, List.flatMap_append]
            exact hown'
        · have hdummy := trivial
          obtain rfl := hxz (by omega)
          have t0 : decide (i < l.length) = false := decide_eq_false hl
          obtain rfl := hyz (by omega)
          have t1 : decide (i < m.length) = false := decide_eq_false hm
          obtain rfl : carry = 1 := hcn (by omega)
          have hbn := bNewW wr (.cells #[.int .i64 (1)] 3)
          have hown1 := own_callG hown hbn
          clear q1 q2 hxz hyz hA1 hA2
          go_wp2_with (at_builtin; refine wpList_append_own _ rfl (.tmp 46) (.tmp 49) 64 rfl w.heap.size 3 i0 z0 1 8 Tryz.underlying64 hi hz hs1 hby hz1 (by decide) _ _ _ rfl hown1 ⟨wr.heap.size, 0, none⟩ 1 1 [.int .i64 (1)] rfl rfl ?c1 ?c2 ?c3 ?c4 ?c5 ?_)
          case c2 => rfl
          case c3 => unfold maxLen; omega
          case c4 => omega
          case c5 => have := hbn.size; have := hb.size; omega
          intro v' w2 hown' hgrow _
          have hb' := (bCall hb hbn).grown hgrow (by have := hbn.size; have := hb.size; omega) (fun k hk => (hown1.lt k hk).1)
          clear hown1 hown hi hz hs1 hz1 hby hgrow
          go_wp2
          refine ⟨⟨i + 1, (1) / 10, o ++ [(1) % 10], by go_num, by first | rfl | (congr 1), by omega, by omega, by omega, by omega, ⟨fun h => hgt.out (by omega)⟩, by rw [List.length_append, List.length_singleton]; omega, ⟨?_⟩, ?_, hb'⟩, by simp [intOf]; omega⟩
          · have h7 := hnext.out
            first
              | exact h7
              | (rw [show 0 + 0 + 1 = 1 by omega] at h7; exact h7)
          · rw [List.length_append, List.length_singleton, List.flatMap_append]
            exact hown'
end Go.Proofs.YtllnepdighhkdaaGreatDoor
namespace Go.Proofs.YtllnepdighhkdaaGreatDoor
set_option linter.unusedVariables false
set_option linter.unusedSimpArgs false
open Go.RowKit Go.Shelf
theorem rgrp_le {a b : Nat} (h : b ≤ a) : (Dx.grp b).length ≤ (Dx.grp a).length := Dx.grp_len (Nat.lt_of_le_of_lt h (Dx.grp_lt a))
/-- a slice that lies in block B or behind it -/
structure Fr (B : Nat) (v : Value) : Prop where
  out : ∀ b off n c, v = .slice (some ⟨b, off, none⟩) n c → B ≤ b
theorem DgAt.far {W : World} {a B : Nat} {v : Value} (h : DgAt W a v) (hF : Fr B v) {p : Addr} (hp : p.block < B) (u : Value) : DgAt (W.setCell p u) a v := by
  obtain ⟨A, cap, rfl, hA, h3, h4⟩ := h.out
  refine ⟨A, cap, rfl, fun h0 => ?_, h3, h4⟩
  obtain ⟨b, off, rfl, hb, hc⟩ := hA h0
  have hB := hF.out b off _ _ rfl
  exact ⟨b, off, rfl, Nat.lt_of_lt_of_le hb (KeepsOthers.setCell W _ u).size, fun i c hi j v hj => (cell_block (Below.heap_setCell W p u b (by omega))).trans (hc i c hi j v hj)⟩
set_option maxRecDepth 100000 in
set_option maxHeartbeats 4000000 in
theorem rminus_fresh (a b : Nat) (v1 v2 : Value) (w : World) (h1 : DgAt w a v1) (h2 : DgAt w b v2) (hba : b ≤ a) (la : (Dx.grp a).length ≤ 100000) :
    Calls Tryz.prog 99 #[v1, v2] w fun e w' => ∃ v, e = .returned v ∧ DgAt w' (a - b) v ∧ Below w.heap.size w w' ∧ Fr w.heap.size v := by
  obtain ⟨A1, c1, rfl, hA1, hn1, hm1⟩ := h1.out
  obtain ⟨A2, c2, rfl, hA2, hn2, hm2⟩ := h2.out
  have hlb := rgrp_le hba
  have hsum : Dx.dsum (fun i => Dx.atG (Dx.grp a) i - Dx.atG (Dx.grp b) i) (Dx.grp a).length = ((a - b : Nat) : Int) := by
    rw [Dx.dsum_sub, Dx.dsum_all (Nat.le_refl _), Dx.dsum_all hlb, Dx.gval_grp, Dx.gval_grp]; omega
  have ga := Dx.gr_grp a
  have gb := Dx.gr_grp b
  generalize Dx.grp a = l at *
  generalize Dx.grp b = m at *
  clear h1 h2
  have hend : ∀ o c, Dx.FoldAt (fun i => Dx.atG l i - Dx.atG m i) l.length o c → c ≤ 0 → Kp (Ig.trimG o = Dx.grp (a - b)) := fun o c h hc => ⟨by
    have h0 := Dx.fold_carry h (by rw [hsum]; omega)
    obtain rfl : c = 0 := by omega
    have := Dx.fold_end h
    rw [hsum, Int.toNat_natCast] at this
    exact this⟩
  clear hsum
  have hownI := World.ownsRow_nil w w.heap.size 3 1
  go_enter Tryz.func99, Tryz.ntmps99
  go_wp2_with fail
  go_loopw [5, 6, 7, 8] (fun s5 s6 s7 s8 wr => ∃ (i : Nat) (bor : Int) (o : List Int), s7 = .int .i64 i ∧ s6 = .int .i64 bor ∧ 0 ≤ bor ∧ bor ≤ 1 ∧ i ≤ l.length ∧ o.length ≤ i ∧ Kp (Dx.FoldAt (fun i => Dx.atG l i - Dx.atG m i) i o (-bor)) ∧ wr.ownsRow w.heap.size 3 1 s5 o.length (o.flatMap intC) ∧ Below w.heap.size w wr) (fun s5 s6 s7 s8 wr => l.length - (intOf s7).toNat)
  case atStart => exact ⟨0, 0, [], rfl, rfl, by omega, by omega, by omega, Nat.le_refl _, ⟨Dx.fold_start _⟩, hownI, Below.refl _ _⟩
  case round =>
    clear hownI
    obtain ⟨i, bor, o, rfl, rfl, hc0, hc1, hin, hol, hf, hown, hb⟩ := hrel
    by_cases hl : i < l.length
    · have hx := Dx.atG_in ga i
      have hy := Dx.atG_in gb i
      have hnext := Kp.mk (Dx.fold_step hf.out)
      have hyz : m.length ≤ i → Dx.atG m i = 0 := fun h => Dx.atG_ge h
      obtain ⟨b1, o1, rfl, hb1, hcc⟩ := (hA1.below hb) (by omega)
      have k1 : wr.cell? ⟨b1, o1 + i, none⟩ = some (.int .i64 (Dx.atG l i)) := by
        have := hcc i _ (List.getElem?_eq_getElem hl) 0 _ rfl
        rw [Dx.atG_lt hl]; simpa using this
      have q2 : ∀ _ : i < m.length, ∃ b1 o1, A2 = some ⟨b1, o1, none⟩ ∧ wr.cell? ⟨b1, o1 + i, none⟩ = some (.int .i64 (Dx.atG m i)) := fun h => by
        obtain ⟨b1, o1, e, hb1, hcc⟩ := (hA2.below hb) (by omega)
        have := hcc i _ (List.getElem?_eq_getElem h) 0 _ rfl
        exact ⟨b1, o1, e, by rw [Dx.atG_lt h]; simpa using this⟩
      have t0 : decide (i < l.length) = true := decide_eq_true hl
      obtain ⟨i0, z0, hi, hz, hs1, hz1, hby⟩ := intI
      clear hf hend hcc
      generalize Dx.atG l i = x at *
      generalize Dx.atG m i = y at *
      rcases (show bor = 0 ∨ bor = 1 by omega) with rfl | rfl
      · by_cases hm : i < m.length
        · by_cases hneg : x - y < 0
          · have hdummy := trivial
            obtain ⟨b2, o2, rfl, k2⟩ := q2 hm
            have t1 : decide (i < m.length) = true := decide_eq_true hm
            have t2 : decide (x - y < 0) = true := decide_eq_true hneg
            have hbn := bNewW wr (.cells #[.int .i64 (x - y + 10)] 3)
            have hown1 := own_callG hown hbn
            clear q2 hyz hA1 hA2
            go_wp2_with (at_builtin; refine wpList_append_own _ rfl (.tmp 35) (.tmp 37) 64 rfl w.heap.size 3 i0 z0 1 8 Tryz.underlying64 hi hz hs1 hby hz1 (by decide) _ _ _ rfl hown1 ⟨wr.heap.size, 0, none⟩ 1 1 [.int .i64 (x - y + 10)] rfl rfl ?_ ?_ ?_ ?_ ?_ ?_)
            all_goals first
              | (intro j u hj; rcases j with _ | j <;> simp at hj <;> subst hj <;> simp [Addr.add])
              | (intro u hu; simp at hu; subst hu; rfl)
              | rfl
              | (unfold maxLen; omega)
              | omega
              | (have := hbn.size; have := hb.size; omega)
              | skip
            intro v' w2 hown' hgrow _
            have hb' := (bCall hb hbn).grown hgrow (by have := hbn.size; have := hb.size; omega) (fun k hk => (hown1.lt k hk).1)
            clear hown1 hown hi hz hs1 hz1 hby hgrow
            go_wp2
            refine ⟨⟨i + 1, 1, o ++ [x - y + 10], by go_num, by first | rfl | (congr 1), by omega, by omega, by omega, by rw [List.length_append, List.length_singleton]; omega, ⟨?_⟩, ?_, hb'⟩, by simp [intOf]; omega⟩
            · have h7 := hnext.out
              rw [show (x - y + -0) % 10 = x - y + 10 by omega, show (x - y + -0) / 10 = -1 by omega] at h7
              exact h7
            · rw [List.length_append, List.length_singleton, List.flatMap_append]
              exact hown'
          · have hdummy := trivial
            obtain ⟨b2, o2, rfl, k2⟩ := q2 hm
            have t1 : decide (i < m.length) = true := decide_eq_true hm
            have t2 : decide (x - y < 0) = false := decide_eq_false hneg
            have hbn := bNewW wr (.cells #[.int .i64 (x - y)] 3)
            have hown1 := own_callG hown hbn
            clear q2 hyz hA1 hA2
            go_wp2_with (at_builtin; refine wpList_append_own _ rfl (.tmp 35) (.tmp 37) 64 rfl w.heap.size 3 i0 z0 1 8 Tryz.underlying64 hi hz hs1 hby hz1 (by decide) _ _ _ rfl hown1 ⟨wr.heap.size, 0, none⟩ 1 1 [.int .i64 (x - y)] rfl rfl ?_ ?_ ?_ ?_ ?_ ?_)
            all_goals first
              | (intro j u hj; rcases j with _ | j <;> simp at hj <;> subst hj <;> simp [Addr.add])
              | (intro u hu; simp at hu; subst hu; rfl)
              | rfl
              | (unfold maxLen; omega)
              | omega
              | (have := hbn.size; have := hb.size; omega)
              | skip
            intro v' w2 hown' hgrow _
            have hb' := (bCall hb hbn).grown hgrow (by have := hbn.size; have := hb.size; omega) (fun k hk => (hown1.lt k hk).1)
            clear hown1 hown hi hz hs1 hz1 hby hgrow
            go_wp2
            refine ⟨⟨i + 1, 0, o ++ [x - y], by go_num, by first | rfl | (congr 1), by omega, by omega, by omega, by rw [List.length_append, List.length_singleton]; omega, ⟨?_⟩, ?_, hb'⟩, by simp [intOf]; omega⟩
            · have h7 := hnext.out
              rw [show (x - y + -0) % 10 = x - y by omega, show (x - y + -0) / 10 = 0 by omega] at h7
              exact h7
            · rw [List.length_append, List.length_singleton, List.flatMap_append]
              exact hown'
        · by_cases hneg : x < 0
          · exfalso; omega
          · have hdummy := trivial
            obtain rfl := hyz (by omega)
            have t1 : decide (i < m.length) = false := decide_eq_false hm
            have t2 : decide (x < 0) = false := decide_eq_false hneg
            have hbn := bNewW wr (.cells #[.int .i64 (x)] 3)
            have hown1 := own_callG hown hbn
            clear q2 hyz hA1 hA2
            go_wp2_with (at_builtin; refine wpList_append_own _ rfl (.tmp 35) (.tmp 37) 64 rfl w.heap.size 3 i0 z0 1 8 Tryz.underlying64 hi hz hs1 hby hz1 (by decide) _ _ _ rfl hown1 ⟨wr.heap.size, 0, none⟩ 1 1 [.int .i64 (x)] rfl rfl ?_ ?_ ?_ ?_ ?_ ?_)
            all_goals first
              | (intro j u hj; rcases j with _ | j <;> simp at hj <;> subst hj <;> simp [Addr.add])
              | (intro u hu; simp at hu; subst hu; rfl)
              | rfl
              | (unfold maxLen; omega)
              | omega
              | (have := hbn.size; have := hb.size; omega)
              | skip
            intro v' w2 hown' hgrow _
            have hb' := (bCall hb hbn).grown hgrow (by have := hbn.size; have := hb.size; omega) (fun k hk => (hown1.lt k hk).1)
            clear hown1 hown hi hz hs1 hz1 hby hgrow
            go_wp2
            refine ⟨⟨i + 1, 0, o ++ [x], by go_num, by first | rfl | (congr 1), by omega, by omega, by omega, by rw [List.length_append, List.length_singleton]; omega, ⟨?_⟩, ?_, hb'⟩, by simp [intOf]; omega⟩
            · have h7 := hnext.out
              rw [show (x - 0 + -0) % 10 = x by omega, show (x - 0 + -0) / 10 = 0 by omega] at h7
              exact h7
            · rw [List.length_append, List.length_singleton, List.flatMap_append]
              exact hown'
      · by_cases hm : i < m.length
        · by_cases hneg : x - 1 - y < 0
          · have hdummy := trivial
            obtain ⟨b2, o2, rfl, k2⟩ := q2 hm
            have t1 : decide (i < m.length) = true := decide_eq_true hm
            have t2 : decide (x - 1 - y < 0) = true := decide_eq_true hneg
            have hbn := bNewW wr (.cells #[.int .i64 (x - 1 - y + 10)] 3)
            have hown1 := own_callG hown hbn
            clear q2 hyz hA1 hA2
            go_wp2_with (at_builtin; refine wpList_append_own _ rfl (.tmp 35) (.tmp 37) 64 rfl w.heap.size 3 i0 z0 1 8 Tryz.underlying64 hi hz hs1 hby hz1 (by decide) _ _ _ rfl hown1 ⟨wr.heap.size, 0, none⟩ 1 1 [.int .i64 (x - 1 - y + 10)] rfl rfl ?_ ?_ ?_ ?_ ?_ ?_)
            all_goals first
              | (intro j u hj; rcases j with _ | j <;> simp at hj <;> subst hj <;> simp [Addr.add])
              | (intro u hu; simp at hu; subst hu; rfl)
              | rfl
              | (unfold maxLen; omega)
              | omega
              | (have := hbn.size; have := hb.size; omega)
              | skip
            intro v' w2 hown' hgrow _
            have hb' := (bCall hb hbn).grown hgrow (by have := hbn.size; have := hb.size; omega) (fun k hk => (hown1.lt k hk).1)
            clear hown1 hown hi hz hs1 hz1 hby hgrow
            go_wp2
            refine ⟨⟨i + 1, 1, o ++ [x - 1 - y + 10], by go_num, by first | rfl | (congr 1), by omega, by omega, by omega, by rw [List.length_append, List.length_singleton]; omega, ⟨?_⟩, ?_, hb'⟩, by simp [intOf]; omega⟩
            · have h7 := hnext.out
              rw [show (x - y + -1) % 10 = x - 1 - y + 10 by omega, show (x - y + -1) / 10 = -1 by omega] at h7
              exact h7
            · rw [List.length_append, List.length_singleton, List.flatMap_append]
              exact hown'
          · have hdummy := trivial
            obtain ⟨b2, o2, rfl, k2⟩ := q2 hm
            have t1 : decide (i < m.length) = true := decide_eq_true hm
            have t2 : decide (x - 1 - y < 0) = false := decide_eq_false hneg
            have hbn := bNewW wr (.cells #[.int .i64 (x - 1 - y)] 3)
            have hown1 := own_callG hown hbn
            clear q2 hyz hA1 hA2
            go_wp2_with (at_builtin; refine wpList_append_own _ rfl (.tmp 35) (.tmp 37) 64 rfl w.heap.size 3 i0 z0 1 8 Tryz.underlying64 hi hz hs1 hby hz1 (by decide) _ _ _ rfl hown1 ⟨wr.heap.size, 0, none⟩ 1 1 [.int .i64 (x - 1 - y)] rfl rfl ?_ ?_ ?_ ?_ ?_ ?_)
            all_goals first
              | (intro j u hj; rcases j with _ | j <;> simp at hj <;> subst hj <;> simp [Addr.add])
              | (intro u hu; simp at hu; subst hu; rfl)
              | rfl
              | (unfold maxLen; omega)
              | omega
              | (have := hbn.size; have := hb.size; omega)
              | skip
            intro v' w2 hown' hgrow _
            have hb' := (bCall hb hbn).grown hgrow (by have := hbn.size; have := hb.size; omega) (fun k hk => (hown1.lt k hk).1)
            clear hown1 hown hi hz hs1 hz1 hby hgrow
            go_wp2
            refine ⟨⟨i + 1, 0, o ++ [x - 1 - y], by go_num, by first | rfl | (congr 1), by omega, by omega, by omega, by rw [List.length_append, List.length_singleton]; omega, ⟨?_⟩, ?_, hb'⟩, by simp [intOf]; omega⟩
            · have h7 := hnext.out
              rw [show (x - y + -1) % 10 = x - 1 - y by omega, show (x - y + -1) / 10 = 0 by omega] at h7
              exact h7
            · rw [List.length_append, List.length_singleton, List.flatMap_append]
              exact hown'
        · by_cases hneg : x - 1 < 0
          · have hdummy := trivial
            obtain rfl := hyz (by omega)
            have t1 : decide (i < m.length) = false := decide_eq_false hm
            have t2 : decide (x - 1 < 0) = true := decide_eq_true hneg
            have hbn := bNewW wr (.cells #[.int .i64 (x - 1 + 10)] 3)
            have hown1 := own_callG hown hbn
            clear q2 hyz hA1 hA2
            go_wp2_with (at_builtin; refine wpList_append_own _ rfl (.tmp 35) (.tmp 37) 64 rfl w.heap.size 3 i0 z0 1 8 Tryz.underlying64 hi hz hs1 hby hz1 (by decide) _ _ _ rfl hown1 ⟨wr.heap.size, 0, none⟩ 1 1 [.int .i64 (x - 1 + 10)] rfl rfl ?_ ?_ ?_ ?_ ?_ ?_)
            all_goals first
              | (intro j u hj; rcases j with _ | j <;> simp at hj <;> subst hj <;> simp [Addr.add])
              | (intro u hu; simp at hu; subst hu; rfl)
              | rfl
              | (unfold maxLen; omega)
              | omega
              | (have := hbn.size; have := hb.size; omega)
              | skip
            intro v' w2 hown' hgrow _
            have hb' := (bCall hb hbn).grown hgrow (by have := hbn.size; have := hb.size; omega) (fun k hk => (hown1.lt k hk).1)
            clear hown1 hown hi hz hs1 hz1 hby hgrow
            go_wp2
            refine ⟨⟨i + 1, 1, o ++ [x - 1 + 10], by go_num, by first | rfl | (congr 1), by omega, by omega, by omega, by rw [List.length_append, List.length_singleton]; omega, ⟨?_⟩, ?_, hb'⟩, by simp [intOf]; omega⟩
            · have h7 := hnext.out
              rw [show (x - 0 + -1) % 10 = x - 1 + 10 by omega, show (x - 0 + -1) / 10 = -1 by omega] at h7
              exact h7
            · rw [List.length_append, List.length_singleton, List.flatMap_append]
              exact hown'
          · have hdummy := trivial
            obtain rfl := hyz (by omega)
            have t1 : decide (i < m.length) = false := decide_eq_false hm
            have t2 : decide (x - 1 < 0) = false := decide_eq_false hneg
            have hbn := bNewW wr (.cells #[.int .i64 (x - 1)] 3)
            have hown1 := own_callG hown hbn
            clear q2 hyz hA1 hA2
            go_wp2_with (at_builtin; refine wpList_append_own _ rfl (.tmp 35) (.tmp 37) 64 rfl w.heap.size 3 i0 z0 1 8 Tryz.underlying64 hi hz hs1 hby hz1 (by decide) _ _ _ rfl hown1 ⟨wr.heap.size, 0, none⟩ 1 1 [.int .i64 (x - 1)] rfl rfl ?_ ?_ ?_ ?_ ?_ ?_)
            all_goals first
              | (intro j u hj; rcases j with _ | j <;> simp at hj <;> subst hj <;> simp [Addr.add])
              | (intro u hu; simp at hu; subst hu; rfl)
              | rfl
              | (unfold maxLen; omega)
              | omega
              | (have := hbn.size; have := hb.size; omega)
              | skip
            intro v' w2 hown' hgrow _
            have hb' := (bCall hb hbn).grown hgrow (by have := hbn.size; have := hb.size; omega) (fun k hk => (hown1.lt k hk).1)
            clear hown1 hown hi hz hs1 hz1 hby hgrow
            go_wp2
            refine ⟨⟨i + 1, 0, o ++ [x - 1], by go_num, by first | rfl | (congr 1), by omega, by omega, by omega, by rw [List.length_append, List.length_singleton]; omega, ⟨?_⟩, ?_, hb'⟩, by simp [intOf]; omega⟩
            · have h7 := hnext.out
              rw [show (x - 0 + -1) % 10 = x - 1 by omega, show (x - 0 + -1) / 10 = 0 by omega] at h7
              exact h7
            · rw [List.length_append, List.length_singleton, List.flatMap_append]
              exact hown'
    · obtain rfl : i = l.length := by omega
      have hfin := hend o (-bor) hf.out (by omega)
      have t0 : decide (l.length < l.length) = false := decide_eq_false hl
      obtain ⟨A, cap, rfl, hA, hcap, hcm, hfr⟩ := own_at hown
      have hT := rtrim_any o A cap wr hA hcap (by omega)
      have hN := dg_of hA hcap hcm hfin
      have hF : Fr w.heap.size (.slice A (Ig.trimG o).length cap) := ⟨fun b off n c h => hfr b off (by simp only [Value.slice.injEq] at h; exact h.1)⟩
      clear hfr
      clear hown hend hf hA hfin
      generalize (Ig.trimG o).length = n6 at *
      go_wp2_with fail
      refine hT.mono ?_
      rintro _ _ ⟨rfl, rfl⟩
      clear hT
      go_wp2
      go_ret
      exact ⟨_, rfl, hN, hb, hF⟩
theorem rminus_any (a b : Nat) (v1 v2 : Value) (w : World) (h1 : DgAt w a v1) (h2 : DgAt w b v2) (hba : b ≤ a) (la : (Dx.grp a).length ≤ 100000) :
    Calls Tryz.prog 99 #[v1, v2] w fun e w' => ∃ v, e = .returned v ∧ DgAt w' (a - b) v ∧ Below w.heap.size w w' :=
  (rminus_fresh a b v1 v2 w h1 h2 hba la).mono fun _ _ ⟨v, e, h, hb, _⟩ => ⟨v, e, h, hb⟩
end Go.Proofs.YtllnepdighhkdaaGreatDoor
namespace Go.Proofs.YtllnepdighhkdaaGreatDoor
set_option linter.unusedVariables false
set_option linter.unusedSimpArgs false
open Go.RowKit Go.Shelf
def rdig (d : List UInt8) (r : Nat) : List Int := (d.drop r).reverse.map fun c => (c.toNat : Int) - 48
theorem rdig_step {d : List UInt8} {r : Nat} (h : r < d.length) : rdig d r = rdig d (r + 1) ++ [(d[r].toNat : Int) - 48] := by
  unfold rdig
  rw [List.drop_eq_getElem_cons h, List.reverse_cons, List.map_append, List.map_singleton]
theorem rdig_end (d : List UInt8) : rdig d d.length = [] := by simp [rdig]
theorem rdig_len (d : List UInt8) (r : Nat) : (rdig d r).length = d.length - r := by simp [rdig]
theorem rdig_all {n : Nat} (h : n ≠ 0) : rdig (Lib.decDigits n) 0 = Dx.grp n := by
  unfold rdig
  rw [List.drop_zero, Dx.dec_grp h, ← List.map_reverse, List.reverse_reverse, List.map_map]
  conv => rhs; rw [← List.map_id (Dx.grp n)]
  refine List.map_congr_left fun g hg => ?_
  have := Dx.gr_grp n g hg
  show ((Ig.dg g.toNat).toNat : Int) - 48 = g
  rw [Ig.dg_nat (by omega)]; omega
theorem dec_byte {n : Nat} {r : Nat} (h : r < (Lib.decDigits n).length) : 48 ≤ ((Lib.decDigits n)[r]).toNat ∧ ((Lib.decDigits n)[r]).toNat ≤ 57 := by
  have := List.all_eq_true.1 (Ig.dec_digits n) _ (List.getElem_mem h)
  simpa [Ig.isD] using this
theorem dec_not0 {n : Nat} (h : n ≠ 0) : Lib.decDigits n ≠ [48] := fun e => by
  have := Ig.nv_dec n
  rw [e] at this
  exact h this.symm
theorem dg_own {W : World} {B n : Nat} {v : Value} {o : List Int} (h : W.ownsRow B 3 1 v o.length (o.flatMap intC)) (ho : o = Dx.grp n) : DgAt W n v := by
  subst ho
  obtain ⟨A, cap, rfl, hA, hc, hm, -⟩ := own_at h
  exact ⟨A, cap, rfl, hA, hc, hm⟩
set_option maxRecDepth 100000 in
set_option maxHeartbeats 4000000 in
theorem rdigits_neg (z : Int) (n : Nat) (s : List UInt8) (w : World) (hz0 : z < 0) (hs : s = 45 :: Lib.decDigits n) (hn : n ≠ 0) (hlen : 0 < (Lib.decDigits n).length ∧ (Lib.decDigits n).length ≤ 1000000) :
    Calls Tryz.prog 88 #[.string ⟨s.toArray⟩] w fun e w' => ∃ v, e = .returned (.tuple #[.bool (decide (z < 0)), v]) ∧ DgAt w' n v ∧ Below w.heap.size w w' := by
  obtain ⟨d, hd⟩ := exK (Lib.decDigits n)
  have hby := fun r (h : r < (Lib.decDigits n).length) => dec_byte h
  have hend := Kp.mk (rdig_all hn)
  have hne := Kp.mk (dec_not0 hn)
  rw [hd.out] at hs hby hend hne hlen
  have hz := Kp.mk hn
  clear hd hn
  have hzn : decide (z < 0) = true := decide_eq_true hz0
  subst hs
  have hownI := World.ownsRow_nil w w.heap.size 3 1
  go_enter Tryz.func88, Tryz.ntmps88
  go_wp2_with fail
  go_loopw [5, 6] (fun s5 s6 wr => ∃ (r : Nat) (o : List Int), r ≤ d.length ∧ s6 = .int .i64 ((r : Int) - 1) ∧ Kp (o = rdig d r) ∧ Kp (o.length = d.length - r) ∧ wr.ownsRow w.heap.size 3 1 s5 o.length (o.flatMap intC) ∧ Below w.heap.size w wr) (fun s5 s6 wr => (intOf s6 + 1).toNat)
  case atStart => exact ⟨d.length, [], Nat.le_refl _, by go_num, ⟨(rdig_end _).symm⟩, ⟨by simp⟩, hownI, Below.refl _ _⟩
  case round =>
    clear hownI
    obtain ⟨r, o, hr, rfl, ho, hol, hown, hb⟩ := hrel
    cases r with
    | zero =>
      rw [show (((0 : Nat) : Int) - 1) = -1 from rfl]
      have hfin := dg_own hown (ho.out.trans hend.out)
      clear hown ho hend hby
      go_wp2
      go_ret2
      exact ⟨_, by rw [hzn]; rfl, hfin, hb⟩
    | succ r =>
      rw [show (((r + 1 : Nat) : Int) - 1) = (r : Int) by omega]
      have hrl : r < d.length := by omega
      have hx := hby r hrl
      have hst := Kp.mk (rdig_step hrl)
      have q1 : (d == [48]) = false := by simpa using hne.out
      have q2 : (d != [48]) = true := by simpa using hne.out
      have hol2 := hol.out
      have hol3 : o.length ≤ 1000000 := by omega
      clear hol2
      obtain ⟨i0, z0, hi, hz2, hs1, hz1, hbys⟩ := intI
      clear hend hby
      generalize hxx : d[r].toNat = x at *
      have hbn := bNewW wr (.cells #[.int .i64 ((x : Int) - 48)] 3)
      have hown1 := own_callG hown hbn
      go_wp2_with (at_builtin; refine wpList_append_own _ rfl (.tmp 24) (.tmp 30) 64 rfl w.heap.size 3 i0 z0 1 8 Tryz.underlying64 hi hz2 hs1 hbys hz1 (by decide) _ _ _ rfl hown1 ⟨wr.heap.size, 0, none⟩ 1 1 [.int .i64 ((x : Int) - 48)] rfl rfl ?_ ?_ ?_ ?_ ?_ ?_)
      all_goals first
        | (intro j u hj; rcases j with _ | j <;> simp at hj <;> subst hj <;> simp [Addr.add])
        | (intro u hu; simp at hu; subst hu; rfl)
        | rfl
        | (unfold maxLen; omega)
        | omega
        | (have := hbn.size; have := hb.size; omega)
        | skip
      intro v' w2 hown' hgrow _
      have hb' := (bCall hb hbn).grown hgrow (by have := hbn.size; have := hb.size; omega) (fun k hk => (hown1.lt k hk).1)
      clear hown1 hown hi hz2 hs1 hz1 hbys hgrow
      go_wp2
      refine ⟨⟨r, o ++ [(x : Int) - 48], by omega, by go_num, ⟨?_⟩, ⟨?_⟩, ?_, hb'⟩, by simp [intOf]⟩
      · rw [hst.out, ho.out]
      · rw [List.length_append, List.length_singleton, hol.out]; omega
      · rw [List.length_append, List.length_singleton, List.flatMap_append]
        exact hown'
set_option maxRecDepth 100000 in
set_option maxHeartbeats 4000000 in
theorem rdigits_pos (z : Int) (n : Nat) (s : List UInt8) (w : World) (hz0 : ¬ z < 0) (hs : s = Lib.decDigits n) (hn : n ≠ 0) (hlen : 0 < (Lib.decDigits n).length ∧ (Lib.decDigits n).length ≤ 1000000) :
    Calls Tryz.prog 88 #[.string ⟨s.toArray⟩] w fun e w' => ∃ v, e = .returned (.tuple #[.bool (decide (z < 0)), v]) ∧ DgAt w' n v ∧ Below w.heap.size w w' := by
  obtain ⟨d, hd⟩ := exK (Lib.decDigits n)
  have hby := fun r (h : r < (Lib.decDigits n).length) => dec_byte h
  have hend := Kp.mk (rdig_all hn)
  have hne := Kp.mk (dec_not0 hn)
  rw [hd.out] at hs hby hend hne hlen
  have hz := Kp.mk hn
  clear hd hn
  have hzn : decide (z < 0) = false := decide_eq_false hz0
  obtain rfl := hs
  have hpos : 0 < s.length := by omega
  have hnm : ¬ s[0].toNat = 45 := fun h => by have := (hby 0 hpos).1; omega
  have t9 : decide (((s[0].toNat : Nat) : Int) = 45) = false := decide_eq_false (by omega)
  have t9' : (((s[0].toNat : Nat) : Int) == 45) = false := by simp; omega
  have hownI := World.ownsRow_nil w w.heap.size 3 1
  go_enter Tryz.func88, Tryz.ntmps88
  go_wp2_with fail
  go_loopw [5, 6] (fun s5 s6 wr => ∃ (r : Nat) (o : List Int), r ≤ s.length ∧ s6 = .int .i64 ((r : Int) - 1) ∧ Kp (o = rdig s r) ∧ Kp (o.length = s.length - r) ∧ wr.ownsRow w.heap.size 3 1 s5 o.length (o.flatMap intC) ∧ Below w.heap.size w wr) (fun s5 s6 wr => (intOf s6 + 1).toNat)
  case atStart => exact ⟨s.length, [], Nat.le_refl _, by go_num, ⟨(rdig_end _).symm⟩, ⟨by simp⟩, hownI, Below.refl _ _⟩
  case round =>
    clear hownI
    obtain ⟨r, o, hr, rfl, ho, hol, hown, hb⟩ := hrel
    cases r with
    | zero =>
      rw [show (((0 : Nat) : Int) - 1) = -1 from rfl]
      have hfin := dg_own hown (ho.out.trans hend.out)
      clear hown ho hend hby
      go_wp2
      go_ret2
      exact ⟨_, by rw [hzn]; rfl, hfin, hb⟩
    | succ r =>
      rw [show (((r + 1 : Nat) : Int) - 1) = (r : Int) by omega]
      have hrl : r < s.length := by omega
      have hx := hby r hrl
      have hst := Kp.mk (rdig_step hrl)
      have q1 : (s == [48]) = false := by simpa using hne.out
      have q2 : (s != [48]) = true := by simpa using hne.out
      have hol2 := hol.out
      have hol3 : o.length ≤ 1000000 := by omega
      clear hol2
      obtain ⟨i0, z0, hi, hz2, hs1, hz1, hbys⟩ := intI
      clear hend hby
      generalize hxx : s[r].toNat = x at *
      have hbn := bNewW wr (.cells #[.int .i64 ((x : Int) - 48)] 3)
      have hown1 := own_callG hown hbn
      go_wp2_with (at_builtin; refine wpList_append_own _ rfl (.tmp 24) (.tmp 30) 64 rfl w.heap.size 3 i0 z0 1 8 Tryz.underlying64 hi hz2 hs1 hbys hz1 (by decide) _ _ _ rfl hown1 ⟨wr.heap.size, 0, none⟩ 1 1 [.int .i64 ((x : Int) - 48)] rfl rfl ?_ ?_ ?_ ?_ ?_ ?_)
      all_goals first
        | (intro j u hj; rcases j with _ | j <;> simp at hj <;> subst hj <;> simp [Addr.add])
        | (intro u hu; simp at hu; subst hu; rfl)
        | rfl
        | (unfold maxLen; omega)
        | omega
        | (have := hbn.size; have := hb.size; omega)
        | skip
      intro v' w2 hown' hgrow _
      have hb' := (bCall hb hbn).grown hgrow (by have := hbn.size; have := hb.size; omega) (fun k hk => (hown1.lt k hk).1)
      clear hown1 hown hi hz2 hs1 hz1 hbys hgrow
      go_wp2
      refine ⟨⟨r, o ++ [(x : Int) - 48], by omega, by go_num, ⟨?_⟩, ⟨?_⟩, ?_, hb'⟩, by simp [intOf]⟩
      · rw [hst.out, ho.out]
      · rw [List.length_append, List.length_singleton, hol.out]; omega
      · rw [List.length_append, List.length_singleton, List.flatMap_append]
        exact hown'
set_option maxRecDepth 100000 in
set_option maxHeartbeats 4000000 in
theorem rdigits_zero (w : World) : Calls Tryz.prog 88 #[.string ⟨#[48]⟩] w fun e w' => ∃ v, e = .returned (.tuple #[.bool false, v]) ∧ DgAt w' 0 v ∧ Below w.heap.size w w' := by
  have hfin : ∀ wr : World, DgAt wr 0 (.slice none 0 0) := fun wr => ⟨none, 0, by rw [Dx.grp_zero]; rfl, by rw [Dx.grp_zero]; exact At.nil, by rw [Dx.grp_zero]; exact Nat.le_refl _, Nat.zero_le _⟩
  go_enter Tryz.func88, Tryz.ntmps88
  go_wp2_with fail
  go_loopw [5, 6] (fun s5 s6 wr => s5 = .slice none 0 0 ∧ s6 = .int .i64 0 ∧ wr = w) (fun s5 s6 wr => 0)
  case atStart => exact ⟨rfl, rfl, rfl⟩
  case round =>
    obtain ⟨rfl, rfl, rfl⟩ := hrel
    go_wp2
    go_ret2
    exact ⟨_, rfl, hfin _, Below.refl _ _⟩
theorem rdigits_any (z : Int) (w : World) (hz : (Lib.decDigits z.natAbs).length ≤ 1000000) :
    Calls Tryz.prog 88 #[.string ⟨(Lib.itoa z).toArray⟩] w fun e w' => ∃ v, e = .returned (.tuple #[.bool (decide (z < 0)), v]) ∧ DgAt w' z.natAbs v ∧ Below w.heap.size w w' := by
  have hpos : 0 < (Lib.decDigits z.natAbs).length := by
    have := Ig.dec_ne z.natAbs
    cases h : Lib.decDigits z.natAbs with
    | nil => exact absurd h this
    | cons a l => simp
  by_cases h0 : z = 0
  · subst h0
    have e : Lib.itoa 0 = [48] := by rw [Ig.itoa_nonneg (by decide), show Int.natAbs 0 = 0 from rfl, Ig.dec_small (by decide)]; rfl
    have e2 : decide ((0 : Int) < 0) = false := rfl
    rw [e, e2]
    exact rdigits_zero w
  · by_cases hn : z < 0
    · exact rdigits_neg z z.natAbs _ w hn (Ig.itoa_neg hn) (by omega) ⟨hpos, hz⟩
    · exact rdigits_pos z z.natAbs _ w hn (Ig.itoa_nonneg (by omega)) (by omega) ⟨hpos, hz⟩
end Go.Proofs.YtllnepdighhkdaaGreatDoor

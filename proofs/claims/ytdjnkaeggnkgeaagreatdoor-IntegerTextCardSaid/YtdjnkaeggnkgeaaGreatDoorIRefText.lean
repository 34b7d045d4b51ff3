/- text of dialtoneref03. -/
import Derived.Test.YtdjnkaeggnkgeaaGreatDoorIRef
namespace Go.Proofs.YtdjnkaeggnkgeaaGreatDoor
set_option linter.unusedVariables false
set_option linter.unusedSimpArgs false
open Go.RowKit Go.Shelf
set_option maxRecDepth 100000 in
set_option maxHeartbeats 4000000 in
theorem rtext_nil (neg : Bool) (A : Option Addr) (cap : Nat) (w : World) :
    Calls Tryz.prog 36 #[.bool neg, .slice A 0 cap] w fun e w' => e = .returned (.tuple #[.string ⟨#[48]⟩, .bool true]) ∧ Below w.heap.size w w' := by
  go_enter Tryz.func36, Tryz.ntmps36
  go_wp2
  go_ret2
  exact ⟨rfl, Below.refl _ _⟩
set_option maxRecDepth 100000 in
set_option maxHeartbeats 4000000 in
theorem rtext_pos (neg : Bool) (l : List Int) (A : Option Addr) (cap : Nat) (w : World) (hA : At 1 intC w w.heap.size A l) (hn : l.length ≤ cap) (hl : l.length ≤ 1000000) (h0 : 0 < l.length) (hG : Dx.Gr l) (s : List UInt8) (fits : Bool)
    (hres : Kp ((if neg then [45] else []) ++ (l.reverse.map fun d => Ig.dg d.toNat) = s ∧ decide ((l.length : Int) ≤ 200) = fits)) :
    Calls Tryz.prog 36 #[.bool neg, .slice A l.length cap] w fun e w' => e = .returned (.tuple #[.string ⟨s.toArray⟩, .bool fits]) ∧ Below w.heap.size w w' := by
  have t0 : decide ((l.length : Int) = 0) = false := decide_eq_false (by omega)
  have t1 : ((l.length : Int) == 0) = false := beq_eq_false_iff_ne.2 (by omega)
  cases neg
  · have hown := World.ownsRow_nil w w.heap.size 5 1
    have hb := Below.refl w.heap.size w
    replace hres : Kp ([] ++ (l.reverse.map fun d => Ig.dg d.toNat) = s ∧ decide ((l.length : Int) ≤ 200) = fits) := hres
    go_enter Tryz.func36, Tryz.ntmps36
    go_wp2_with fail
    go_loopw [6, 7] (fun s6 s7 wr => ∃ (r : Nat) (o : List UInt8), r ≤ l.length ∧ s7 = .int .i64 ((r : Int) - 1) ∧ Kp (o = ([] : List UInt8) ++ (l.drop r).reverse.map fun d => Ig.dg d.toNat) ∧ o.length + r ≤ l.length + 1 ∧ wr.ownsRow w.heap.size 5 1 s6 o.length (Lib.byteCells o) ∧ Below w.heap.size w wr) (fun s6 s7 wr => (intOf s7 + 1).toNat)
    case atStart => exact ⟨l.length, ([] : List UInt8), Nat.le_refl _, rfl, ⟨by rw [List.drop_length]; simp⟩, by simp; try omega, hown, hb⟩
    case round =>
      clear hown hb
      obtain ⟨r, o, hr, rfl, ho, hol, hown, hb⟩ := hrel
      by_cases h0 : 0 < r
      · obtain ⟨t, rfl⟩ : ∃ t, r = t + 1 := ⟨r - 1, by omega⟩
        have hcast : ((t + 1 : Nat) : Int) - 1 = (t : Int) := by omega
        simp only [hcast]
        have htl : t < l.length := by omega
        have hgt := hG l[t] (List.getElem_mem htl)
        obtain ⟨b, off, rfl, hbB, hcell⟩ := (hA.below hb) (by omega)
        have hct : wr.cell? ⟨b, off + t, none⟩ = some (.int .i64 l[t]) := by
          have := hcell t _ (List.getElem?_eq_getElem htl) 0 _ rfl
          simpa using this
        obtain ⟨d, hd⟩ := Int.eq_ofNat_of_zero_le hgt.1
        have hnx : Kp (o ++ [Ig.dg d] = ([] : List UInt8) ++ (l.drop t).reverse.map fun d => Ig.dg d.toNat) := ⟨by
          rw [ho.out, List.drop_eq_getElem_cons htl, List.reverse_cons, List.map_append, hd, List.map_singleton, Int.toNat_natCast, List.append_assoc]⟩
        have hdg : (Ig.dg d).toNat = 48 + d := Ig.dg_nat (by omega)
        have hd9 : d < 10 := by omega
        rw [hd] at hct
        clear hcell hgt hd ho
        have hx8 : Kp ((Value.int .u8 ((48 : Int) + (d : Int))) = .int .u8 ((Ig.dg d).toNat : Int)) := ⟨by rw [hdg]; congr 1⟩
        clear hdg
        obtain ⟨i0, hi, hz, hs1, hby⟩ := byteI
        have hbn := bNewW wr (.cells #[.int .u8 ((48 : Int) + (d : Int))] 5)
        have hown1 := own_call hown hbn
        go_wp2_with (at_builtin; refine wpList_append_own _ rfl (.tmp 22) (.tmp 29) 72 rfl w.heap.size 5 i0 (.int .u8 0) 1 1 Tryz.underlying72 hi hz hs1 hby rfl (by decide) _ _ _ rfl hown1 ⟨wr.heap.size, 0, none⟩ 1 1 [.int .u8 ((48 : Int) + (d : Int))] rfl rfl ?c1 ?c2 ?c3 ?c4 ?c5 ?_)
        case c1 =>
          intro j u hj
          match j, hj with
          | 0, hj => simp at hj; subst hj; simp [Addr.add]
        case c2 => intro u hu; simp at hu; subst hu; rfl
        case c3 => unfold maxLen; omega
        case c4 => omega
        case c5 => have := hbn.size; have := hb.size; omega
        intro v' w2 hown' hgrow _
        have hb' := (bCall hb hbn).grown hgrow (by have := hbn.size; have := hb.size; omega) (fun k hk => (hown1.lt k hk).1)
        have hsz := hgrow.size
        obtain ⟨ao, n', cap, rfl⟩ : ∃ ao n' cap, v' = .slice ao n' cap := by
          rcases hown'.2 with ⟨hv, _⟩ | ⟨g, cap, cur, hv, _⟩
          · exact ⟨_, _, _, hv⟩
          · exact ⟨_, _, _, hv⟩
        rw [hx8.out, show [Value.int .u8 ((Ig.dg d).toNat : Int)] = Lib.byteCells [Ig.dg d] from rfl, ← Lib.byteCells_append] at hown'
        clear hx8 hi hz hs1 hby hown hown1 hct hgrow
        go_wp2
        exact ⟨⟨t, o ++ [Ig.dg d], by omega, rfl, hnx, by rw [List.length_append, List.length_singleton]; omega, by rw [List.length_append]; exact hown', hb'⟩, by simp [intOf]⟩
      · obtain rfl : r = 0 := by omega
        have hcast : ((0 : Nat) : Int) - 1 = -1 := rfl
        simp only [hcast]
        rw [List.drop_zero] at ho
        have hon : o ≠ [] := by
          have h2 : o.length = (([] : List UInt8)).length + l.length := by rw [ho.out, List.length_append, List.length_map, List.length_reverse]
          intro h
          rw [h, List.length_nil] at h2
          omega
        obtain ⟨g, cap, cur, rfl, -⟩ : ∃ g cap cur, u6 = .slice (some ⟨g, 0, none⟩) o.length cap ∧ (cur : Array Value) = cur := by
          rcases hown.2 with ⟨_, hz⟩ | ⟨g, cap, cur, hv, _⟩
          · exact absurd (List.length_eq_zero_iff.1 hz) hon
          · exact ⟨g, cap, cur, hv, rfl⟩
        have hcv := conv_row wr g cap o (fun j x hx => by
          have := hown.cells (g := g) rfl j (.int .u8 x.toNat) (by simp [Lib.byteCells, hx])
          rwa [Addr.add_lit, Nat.zero_add] at this)
        clear hA hown hon
        go_wp2
        go_ret2
        exact ⟨by rw [ho.out, hres.out.1, ← hres.out.2]; rfl, hb⟩
  · replace hres : Kp ([45] ++ (l.reverse.map fun d => Ig.dg d.toNat) = s ∧ decide ((l.length : Int) ≤ 200) = fits) := hres
    obtain ⟨i0, hi, hz, hs1, hby⟩ := byteI
    have hbn := bNewW w (.cells #[.int .u8 45] 5)
    have hown0 := own_call (World.ownsRow_nil w w.heap.size 5 1) hbn
    go_enter Tryz.func36, Tryz.ntmps36
    go_wp2_with (at_builtin; refine wpList_append_own _ rfl (.tmp 12) (.tmp 13) 72 rfl w.heap.size 5 i0 (.int .u8 0) 1 1 Tryz.underlying72 hi hz hs1 hby rfl (by decide) _ _ _ rfl hown0 ⟨w.heap.size, 0, none⟩ 1 1 [.int .u8 45] rfl rfl ?c1 ?c2 ?c3 ?c4 ?c5 ?_)
    case c1 =>
      intro j u hj
      match j, hj with
      | 0, hj => simp at hj; subst hj; simp [Addr.add]
    case c2 => intro u hu; simp at hu; subst hu; rfl
    case c3 => unfold maxLen; omega
    case c4 => omega
    case c5 => exact hbn.size
    intro v0 w2 hown hgrow _
    have hb := hbn.grown hgrow hbn.size (fun k hk => (hown0.lt k hk).1)
    obtain ⟨ao, n', cap0, rfl⟩ : ∃ ao n' cap, v0 = .slice ao n' cap := by
      rcases hown.2 with ⟨hv, _⟩ | ⟨g, cap, cur, hv, _⟩
      · exact ⟨_, _, _, hv⟩
      · exact ⟨_, _, _, hv⟩
    clear hown0 hgrow hbn hi hz hs1 hby
    go_wp2_with fail
    go_loopw [6, 7] (fun s6 s7 wr => ∃ (r : Nat) (o : List UInt8), r ≤ l.length ∧ s7 = .int .i64 ((r : Int) - 1) ∧ Kp (o = ([45] : List UInt8) ++ (l.drop r).reverse.map fun d => Ig.dg d.toNat) ∧ o.length + r ≤ l.length + 1 ∧ wr.ownsRow w.heap.size 5 1 s6 o.length (Lib.byteCells o) ∧ Below w.heap.size w wr) (fun s6 s7 wr => (intOf s7 + 1).toNat)
    case atStart => exact ⟨l.length, ([45] : List UInt8), Nat.le_refl _, rfl, ⟨by rw [List.drop_length]; simp⟩, by simp; try omega, hown, hb⟩
    case round =>
      clear hown hb
      obtain ⟨r, o, hr, rfl, ho, hol, hown, hb⟩ := hrel
      by_cases h0 : 0 < r
      · obtain ⟨t, rfl⟩ : ∃ t, r = t + 1 := ⟨r - 1, by omega⟩
        have hcast : ((t + 1 : Nat) : Int) - 1 = (t : Int) := by omega
        simp only [hcast]
        have htl : t < l.length := by omega
        have hgt := hG l[t] (List.getElem_mem htl)
        obtain ⟨b, off, rfl, hbB, hcell⟩ := (hA.below hb) (by omega)
        have hct : wr.cell? ⟨b, off + t, none⟩ = some (.int .i64 l[t]) := by
          have := hcell t _ (List.getElem?_eq_getElem htl) 0 _ rfl
          simpa using this
        obtain ⟨d, hd⟩ := Int.eq_ofNat_of_zero_le hgt.1
        have hnx : Kp (o ++ [Ig.dg d] = ([45] : List UInt8) ++ (l.drop t).reverse.map fun d => Ig.dg d.toNat) := ⟨by
          rw [ho.out, List.drop_eq_getElem_cons htl, List.reverse_cons, List.map_append, hd, List.map_singleton, Int.toNat_natCast, List.append_assoc]⟩
        have hdg : (Ig.dg d).toNat = 48 + d := Ig.dg_nat (by omega)
        have hd9 : d < 10 := by omega
        rw [hd] at hct
        clear hcell hgt hd ho
        have hx8 : Kp ((Value.int .u8 ((48 : Int) + (d : Int))) = .int .u8 ((Ig.dg d).toNat : Int)) := ⟨by rw [hdg]; congr 1⟩
        clear hdg
        obtain ⟨i0, hi, hz, hs1, hby⟩ := byteI
        have hbn := bNewW wr (.cells #[.int .u8 ((48 : Int) + (d : Int))] 5)
        have hown1 := own_call hown hbn
        go_wp2_with (at_builtin; refine wpList_append_own _ rfl (.tmp 22) (.tmp 29) 72 rfl w.heap.size 5 i0 (.int .u8 0) 1 1 Tryz.underlying72 hi hz hs1 hby rfl (by decide) _ _ _ rfl hown1 ⟨wr.heap.size, 0, none⟩ 1 1 [.int .u8 ((48 : Int) + (d : Int))] rfl rfl ?c1 ?c2 ?c3 ?c4 ?c5 ?_)
        case c1 =>
          intro j u hj
          match j, hj with
          | 0, hj => simp at hj; subst hj; simp [Addr.add]
        case c2 => intro u hu; simp at hu; subst hu; rfl
        case c3 => unfold maxLen; omega
        case c4 => omega
        case c5 => have := hbn.size; have := hb.size; omega
        intro v' w2 hown' hgrow _
        have hb' := (bCall hb hbn).grown hgrow (by have := hbn.size; have := hb.size; omega) (fun k hk => (hown1.lt k hk).1)
        have hsz := hgrow.size
        obtain ⟨ao, n', cap, rfl⟩ : ∃ ao n' cap, v' = .slice ao n' cap := by
          rcases hown'.2 with ⟨hv, _⟩ | ⟨g, cap, cur, hv, _⟩
          · exact ⟨_, _, _, hv⟩
          · exact ⟨_, _, _, hv⟩
        rw [hx8.out, show [Value.int .u8 ((Ig.dg d).toNat : Int)] = Lib.byteCells [Ig.dg d] from rfl, ← Lib.byteCells_append] at hown'
        clear hx8 hi hz hs1 hby hown hown1 hct hgrow
        go_wp2
        exact ⟨⟨t, o ++ [Ig.dg d], by omega, rfl, hnx, by rw [List.length_append, List.length_singleton]; omega, by rw [List.length_append]; exact hown', hb'⟩, by simp [intOf]⟩
      · obtain rfl : r = 0 := by omega
        have hcast : ((0 : Nat) : Int) - 1 = -1 := rfl
        simp only [hcast]
        rw [List.drop_zero] at ho
        have hon : o ≠ [] := by
          have h2 : o.length = (([45] : List UInt8)).length + l.length := by rw [ho.out, List.length_append, List.length_map, List.length_reverse]
          intro h
          rw [h, List.length_nil] at h2
          omega
        obtain ⟨g, cap, cur, rfl, -⟩ : ∃ g cap cur, u6 = .slice (some ⟨g, 0, none⟩) o.length cap ∧ (cur : Array Value) = cur := by
          rcases hown.2 with ⟨_, hz⟩ | ⟨g, cap, cur, hv, _⟩
          · exact absurd (List.length_eq_zero_iff.1 hz) hon
          · exact ⟨g, cap, cur, hv, rfl⟩
        have hcv := conv_row wr g cap o (fun j x hx => by
          have := hown.cells (g := g) rfl j (.int .u8 x.toNat) (by simp [Lib.byteCells, hx])
          rwa [Addr.add_lit, Nat.zero_add] at this)
        clear hA hown hon
        go_wp2
        go_ret2
        exact ⟨by rw [ho.out, hres.out.1, ← hres.out.2]; rfl, hb⟩
theorem rtext_any (neg : Bool) (n : Nat) (A : Option Addr) (cap : Nat) (w : World) (hA : At 1 intC w w.heap.size A (Dx.grp n)) (hn : (Dx.grp n).length ≤ cap) (hl : (Dx.grp n).length ≤ 1000000) :
    Calls Tryz.prog 36 #[.bool neg, .slice A (Dx.grp n).length cap] w fun e w' => e = .returned (.tuple #[.string ⟨(Lib.itoa (sgn neg n)).toArray⟩, .bool (decide (Lib.nDigits n ≤ 200))]) ∧ Below w.heap.size w w' := by
  by_cases h0 : n = 0
  · subst h0
    have e : (Dx.grp 0).length = 0 := by rw [Dx.grp_zero]; rfl
    have e2 : Lib.itoa (sgn neg 0) = [48] := by cases neg <;> decide +kernel
    have e3 : decide (Lib.nDigits 0 ≤ 200) = true := by decide +kernel
    rw [e, e2, e3]
    exact rtext_nil neg A cap w
  · have hlen := Dx.grp_nd h0
    have hnd := Ig.nd_pos n
    refine rtext_pos neg (Dx.grp n) A cap w hA hn hl (by omega) (Dx.gr_grp n) _ _ ⟨?_, by rw [hlen]; exact decide_eq_decide.2 (by omega)⟩
    rw [← Dx.dec_grp h0]
    cases neg
    · rw [Ig.itoa_nonneg (by simp [sgn]), sgn_abs]; rfl
    · rw [Ig.itoa_neg (by simp [sgn]; omega), sgn_abs]; rfl
end Go.Proofs.YtdjnkaeggnkgeaaGreatDoor

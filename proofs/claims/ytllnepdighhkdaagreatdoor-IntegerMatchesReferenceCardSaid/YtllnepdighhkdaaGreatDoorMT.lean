/- strings.Builder at this dump: copyCheck, WriteString, String, of a builder of the call's own. Texts of numbers: plain. text of package integer. -/
import Derived.Test.YtllnepdighhkdaaGreatDoorITimes
import Derived.Lib.Builder
import Derived.Lib.AppendStr
import Derived.Lib.UnsafeStr
import Derived.Lib.OthersKept
import Derived.Shelf.RegionOpenPlain
namespace Go.Proofs.YtllnepdighhkdaaGreatDoor
set_option linter.unusedVariables false
set_option linter.unusedSimpArgs false
open Go.RowKit Go.Shelf
theorem byteI : ∃ i, Tryz.prog.info? 5 = some i ∧ i.zero = some (.int .u8 0) ∧ i.size = 1 ∧ i.bytes = 1 := by
  have h : (Tryz.prog.info? 5).map (fun i => (i.zero, i.size, i.bytes)) = some (some (.int .u8 0), 1, 1) := by kernel_rfl
  cases hi : Tryz.prog.info? 5 with
  | none => rw [hi] at h; cases h
  | some i =>
    rw [hi] at h
    simp only [Option.map_some, Option.some.injEq, Prod.mk.injEq] at h
    exact ⟨i, rfl, h.1, h.2.1, h.2.2⟩
theorem builderI : ∃ i, Tryz.prog.info? 163 = some i ∧ i.size = 2 := by
  have h : (Tryz.prog.info? 163).map (fun i => i.size) = some 2 := by kernel_rfl
  cases hi : Tryz.prog.info? 163 with
  | none => rw [hi] at h; cases h
  | some i =>
    rw [hi] at h
    exact ⟨i, rfl, by simpa using h⟩
set_option maxHeartbeats 1000000 in
set_option maxRecDepth 100000 in
theorem copyCheck_used (b : Nat) (w : World) (h0 : w.cell? ⟨b, 0, none⟩ = some (.pointer (some ⟨b, 0, none⟩))) :
    Calls Tryz.prog 181 #[.pointer (some ⟨b, 0, none⟩)] w fun e w' => e = .returned (.tuple #[]) ∧ w' = w := by
  obtain ⟨j, hj, _⟩ := builderI
  go_enter Tryz.func181, Tryz.ntmps181
  go_wp2
  rw [Lib.run_neq_ptr_same w _ Tryz.underlying161 hj]
  go_wp2
  go_end0
  exact ⟨rfl, rfl⟩
set_option maxHeartbeats 1000000 in
set_option maxRecDepth 100000 in
theorem copyCheck_fresh (b : Nat) (w : World) (h0 : w.cell? ⟨b, 0, none⟩ = some (.pointer none)) (hsh : w.shape? b = some (163, 2)) (hfz : w.frozen? ⟨b, 0, none⟩ = false) :
    Calls Tryz.prog 181 #[.pointer (some ⟨b, 0, none⟩)] w fun e w' => e = .returned (.tuple #[]) ∧ w' = w.setCell ⟨b, 0, none⟩ (.pointer (some ⟨b, 0, none⟩)) := by
  obtain ⟨j, hj, hjs⟩ := builderI
  go_enter Tryz.func181, Tryz.ntmps181
  go_wp2
  rw [Lib.run_to_unsafe w ⟨b, 0, none⟩ Tryz.underlying161 Tryz.underlying203 hj (by rw [hjs]; decide) hsh (Nat.zero_lt_succ 1)]
  simp only [Result.andThen]
  rw [Oper.upon_value]
  go_wp2
  rw [run_callFunc_extern Tryz.func200 (by kernel_rfl) (by kernel_rfl) (by kernel_rfl) (e := Extern.AbiNoEscape.same) (by kernel_rfl)]
  rw [Lib.run_noEscape]
  simp only [Result.andThen]
  rw [Oper.upon_value]
  go_wp2
  rw [Lib.run_from_unsafe w ⟨b, 0, none⟩ Tryz.underlying203 Tryz.underlying161 hj hsh (by kernel_rfl)]
  simp only [Result.andThen]
  rw [Oper.upon_value]
  go_wp2
  go_end0
  exact ⟨rfl, rfl⟩
theorem copyCheck_any (B b : Nat) (bs : List Value) (w : World) (h : Lib.IsBuilder 163 5 B b bs w) :
    Calls Tryz.prog 181 #[.pointer (some ⟨b, 0, none⟩)] w fun e w' => e = .returned (.tuple #[]) ∧ Lib.BuilderAt 163 5 B b (.pointer (some ⟨b, 0, none⟩)) bs w' ∧ Below B w w' ∧ Lib.OthersKept 5 (some b) w w' := by
  rcases h with h | h
  · refine (copyCheck_fresh b w h.cell0 h.shape h.frozen0).mono ?_
    rintro e w' ⟨rfl, rfl⟩
    exact ⟨rfl, h.used _, (Below.refl B w).setCell (p := ⟨b, 0, none⟩) h.1 _, (Lib.OthersKept.refl _ _ w).setCell ⟨b, 0, none⟩ rfl _⟩
  · refine (copyCheck_used b w h.cell0).mono ?_
    rintro e w' ⟨rfl, rfl⟩
    exact ⟨rfl, h, Below.refl B _, Lib.OthersKept.refl _ _ _⟩
theorem own_kind {B n : Nat} {v : Value} {bs : List Value} {w : World} (h : w.ownsRow B 5 1 v n bs) : ∀ g, v.ownBlock = some g → ∃ c fz, w.heap[g]? = some (.cells c 5 fz) := fun g hg => by
  rcases h.2 with ⟨rfl, _⟩ | ⟨g', cap, cur, rfl, _, h1, _⟩
  · cases hg
  · simp only [Value.ownBlock, Option.some.injEq] at hg
    subst hg
    exact ⟨_, _, h1⟩
set_option maxHeartbeats 2000000 in
set_option maxRecDepth 100000 in
theorem WriteString_any (B b : Nat) (bs : List Value) (s : List UInt8) (w : World) (h : Lib.IsBuilder 163 5 B b bs w) (hlen : bs.length + s.length ≤ 140737488355328) (hBw : B ≤ w.heap.size) :
    Calls Tryz.prog 150 #[.pointer (some ⟨b, 0, none⟩), .string ⟨s.toArray⟩] w fun e w' => e = .returned (.tuple #[.int .i64 s.length, .nilIface]) ∧ Lib.BuilderAt 163 5 B b (.pointer (some ⟨b, 0, none⟩)) (bs ++ Lib.byteCells s) w' ∧ Below B w w' ∧ Lib.OthersKept 5 (some b) w w' := by
  obtain ⟨i0, hi, hz0, hz1, hz2⟩ := byteI
  go_enter Tryz.func150, Tryz.ntmps150
  go_wp2_with (go_at_call 181; refine (copyCheck_any B b bs _ h).mono ?_)
  rintro e w1 ⟨rfl, h1, hb1, hk1⟩
  obtain ⟨hB, v, hbk, hown, hne⟩ := h1
  have c0 : w1.cell? ⟨b, 0, none⟩ = some (.pointer (some ⟨b, 0, none⟩)) := by rw [Lib.cell_of_heap hbk]; rfl
  have c1 : w1.cell? ⟨b, 1, none⟩ = some v := by rw [Lib.cell_of_heap hbk]; rfl
  have hsz : (⟨s.toArray⟩ : ByteArray).size = s.length := rfl
  go_wp2_with (at_builtin; refine Lib.wpList_append_own_string _ rfl _ _ 49 9 rfl B 5 i0 Tryz.underlying49 Tryz.underlying9 hi hz0 hz1 hz2 _ _ _ rfl hown ⟨s.toArray⟩ rfl ?c3 ?c4 ?c5 ?_)
  case c3 => unfold maxLen; rw [hsz]; omega
  case c4 => rw [hsz]; omega
  case c5 => have := hb1.size; omega
  intro v' w2 hown' hgrow _
  have hlt : b < w1.heap.size := by
    rcases Nat.lt_or_ge b w1.heap.size with h' | h'
    · exact h'
    · simp [Array.getElem?_eq_none h'] at hbk
  have hb2 : w2.heap[b]? = some (.cells #[.pointer (some ⟨b, 0, none⟩), v] 163 (0, 0)) := by
    rw [hgrow.block b hlt (fun e => hne e.symm)]
    exact hbk
  have d0 : w2.cell? ⟨b, 0, none⟩ = some (.pointer (some ⟨b, 0, none⟩)) := by rw [Lib.cell_of_heap hb2]; rfl
  have d1 : w2.cell? ⟨b, 1, none⟩ = some v := by rw [Lib.cell_of_heap hb2]; rfl
  have f1 : w2.frozen? ⟨b, 1, none⟩ = false := Lib.frozen_of_heap hb2 1
  obtain ⟨ao, n', cap, rfl⟩ : ∃ ao n' cap, v' = .slice ao n' cap := by
    rcases hown'.2 with ⟨hv, _⟩ | ⟨g, cap, cur, hv, _⟩
    · exact ⟨_, _, _, hv⟩
    · exact ⟨_, _, _, hv⟩
  go_wp2
  go_ret2
  have hc : Lib.strCells ⟨s.toArray⟩ = Lib.byteCells s := Lib.strCells_eq _
  rw [hc] at hown'
  refine ⟨rfl, ?_, ?_, (hk1.grown hgrow (own_kind hown)).setCell ⟨b, 1, none⟩ rfl _⟩
  · exact Lib.BuilderAt.put (T := 163) (e := 5) hB hb2 (bs' := bs ++ Lib.byteCells s) (by rw [List.length_append, Lib.byteCells_length]; exact hown') (by decide)
  · exact (hb1.grown hgrow (by have := hb1.size; omega) (fun k hk => (hown.lt k hk).1)).setCell (p := ⟨b, 1, none⟩) hB _
set_option maxHeartbeats 2000000 in
set_option maxRecDepth 100000 in
theorem BString_any (B b : Nat) (l : List UInt8) (w : World) (h : Lib.IsBuilder 163 5 B b (Lib.byteCells l) w) (h0 : l ≠ []) :
    Calls Tryz.prog 151 #[.pointer (some ⟨b, 0, none⟩)] w fun e w' => e = .returned (.string ⟨l.toArray⟩) ∧ Below B w w' ∧ Lib.OthersKept 5 (some b) w w' := by
  obtain ⟨p, hB, v, hbk, hown, hne⟩ : ∃ p, Lib.BuilderAt 163 5 B b p (Lib.byteCells l) w := by
    rcases h with h | h
    · exact ⟨_, h⟩
    · exact ⟨_, h⟩
  have hl0 : l.length ≠ 0 := by simpa using h0
  rw [Lib.byteCells_length] at hown
  obtain ⟨g, cap, cur, rfl, hbg, hg, hnc, hcm, hcs, htake⟩ : ∃ g cap cur, v = .slice (some ⟨g, 0, none⟩) l.length cap ∧ B ≤ g ∧ w.heap[g]? = some (.cells cur 5 (0, 0)) ∧ l.length ≤ cap ∧ cap ≤ maxLen ∧ cur.size = cap * 1 ∧ cur.toList.take (l.length * 1) = Lib.byteCells l := by
    rcases hown.2 with ⟨_, hz⟩ | ⟨g, cap, cur, hv, r⟩
    · exact absurd hz hl0
    · exact ⟨g, cap, cur, hv, r⟩
  have c1 : w.drew.cell? ⟨b, 1, none⟩ = some (.slice (some ⟨g, 0, none⟩) l.length cap) := by
    have : w.drew.heap[b]? = some (.cells #[p, .slice (some ⟨g, 0, none⟩) l.length cap] 163 (0, 0)) := hbk
    rw [Lib.cell_of_heap this]; rfl
  have hSD : (Builtin.unsafeSliceData_ #[49] 185 #[.slice (some ⟨g, 0, none⟩) l.length cap]).run Tryz.prog w.drew = .ok (.pointer (some ⟨g, 0, none⟩)) w.drew :=
    Lib.run_unsafeSliceData_row _ _ _ _ _ _ (by omega)
  have hUS : (Builtin.unsafeString_ #[185, 3] 9 #[.pointer (some ⟨g, 0, none⟩), .int .i64 l.length]).run Tryz.prog w.drew = .ok (.string ⟨l.toArray⟩) (w.drew.freeze ⟨g, 0, none⟩ l.length) := by
    refine Lib.run_unsafeString_row w.drew 185 3 9 5 Tryz.underlying185 (by kernel_rfl) g cur.size (by have hg' : w.drew.heap[g]? = some (.cells cur 5 (0, 0)) := hg; simp [World.shape?, hg']) l h0 (by omega) (by unfold maxLen at hcm; omega) ?_
    intro j x hx
    have := hown.cells (g := g) rfl j (.int .u8 x.toNat) (by simp [Lib.byteCells, hx])
    exact this
  have hbl := Lib.below_freeze (Below.drew (Below.refl B w)) (p := ⟨g, 0, none⟩) hbg l.length
  have hok := ((Lib.OthersKept.refl 5 (some b) w).drew).freeze ⟨g, 0, none⟩ l.length ⟨cur, (0, 0), hg⟩
  clear htake hcs hg hown hne hbk h
  go_enter Tryz.func151, Tryz.ntmps151
  go_wp2
  go_region
  all_goals (go_wp2; go_ret; exact ⟨rfl, hbl, hok⟩)
end Go.Proofs.YtllnepdighhkdaaGreatDoor
namespace Ig
theorem gval_pos : ∀ {l : List Int}, Gr l → l ≠ [] → l.getLast? ≠ some 0 → 0 < gval l
  | [], _, h, _ => absurd rfl h
  | [g], h, _, hl => by
    have := h g (by simp)
    have : g ≠ 0 := fun e => hl (by simp [e])
    simp [gval]; omega
  | g :: a :: l, h, _, hl => by
    have h1 := h g (by simp)
    have h2 := gval_pos (l := a :: l) (fun x hx => h x (by simp [hx])) (by simp) (by rwa [List.getLast?_cons_cons] at hl)
    rw [gval]; omega
theorem from_pos (a i : Nat) (h : i < (grp a).length) : 0 < from_ (grp a) i := by
  refine gval_pos (fun g hg => gr_grp a g (List.mem_of_mem_drop hg)) (by simp; omega) ?_
  rw [List.getLast?_drop, if_neg (by omega)]
  exact grp_getLast a
theorem four_len (g : Nat) : (four g).length = 4 := rfl
theorem nd4 {g : Nat} (h : g < 10000) : Go.Lib.nDigits g ≤ 4 := (nd_le (by decide)).2 h
/-- what a result is written as -/
def resS (z : Int) : List UInt8 := if Go.Lib.nDigits z.natAbs ≤ 200 then Go.Lib.itoa z else []
def resE (z : Int) : Int := if Go.Lib.nDigits z.natAbs ≤ 200 then 0 else 30
theorem fits_iff (z : Int) : fits z ↔ Go.Lib.nDigits z.natAbs ≤ 200 := (nd_le (by decide)).symm
theorem resS_fits {z : Int} (h : fits z) : resS z = Go.Lib.itoa z := if_pos ((fits_iff z).1 h)
theorem resE_fits {z : Int} (h : fits z) : resE z = 0 := if_pos ((fits_iff z).1 h)
theorem resS_not {z : Int} (h : ¬ fits z) : resS z = [] := if_neg (fun k => h ((fits_iff z).2 k))
theorem resE_not {z : Int} (h : ¬ fits z) : resE z = 30 := if_neg (fun k => h ((fits_iff z).2 k))
end Ig
namespace Go.Proofs.YtllnepdighhkdaaGreatDoor
/-- what indices have written, from the highest on -/
def txt (l : List Int) (pre : List (Fin l.length)) : List UInt8 := pre.flatMap fun t => if t.1 + 1 < l.length then Ig.four l[t.1].toNat else Lib.decDigits l[t.1].toNat
theorem txt_snoc (l : List Int) (pre : List (Fin l.length)) (t : Fin l.length) : txt l (pre ++ [t]) = txt l pre ++ (if t.1 + 1 < l.length then Ig.four l[t.1].toNat else Lib.decDigits l[t.1].toNat) := by simp [txt]
theorem txt_len {l : List Int} (hl : Ig.Gr l) (pre : List (Fin l.length)) : (txt l pre).length ≤ 4 * pre.length := by
  unfold txt
  induction pre with
  | nil => simp
  | cons t pre ih =>
    rw [List.flatMap_cons, List.length_append, List.length_cons]
    have h := hl l[t.1] (List.getElem_mem t.2)
    have : (if t.1 + 1 < l.length then Ig.four l[t.1].toNat else Lib.decDigits l[t.1].toNat).length ≤ 4 := by
      split
      · exact Nat.le_of_eq (Ig.four_len _)
      · rw [Ig.dec_len]; exact Ig.nd4 (by omega)
    omega
theorem txt_take (a : Nat) : ∀ k, k + 1 ≤ (Ig.grp a).length → txt (Ig.grp a) ((allDown (Ig.grp a).length).take (k + 1)) = Lib.decDigits (Ig.from_ (Ig.grp a) ((Ig.grp a).length - (k + 1))).toNat
  | 0, hk => by
    have hs := down_succ (n := (Ig.grp a).length) (t := (Ig.grp a).length - 1) (by omega)
    rw [show (Ig.grp a).length - ((Ig.grp a).length - 1) = 0 + 1 by omega, show (Ig.grp a).length - ((Ig.grp a).length - 1 + 1) = 0 by omega] at hs
    rw [hs, txt_snoc, if_neg (by simp only; omega), Nat.zero_add, Ig.from_step (by omega), Ig.from_end (by omega)]
    simp [txt]
  | k + 1, hk => by
    have ih := txt_take a k (by omega)
    have hs := down_succ (n := (Ig.grp a).length) (t := (Ig.grp a).length - (k + 2)) (by omega)
    rw [show (Ig.grp a).length - ((Ig.grp a).length - (k + 2)) = k + 1 + 1 by omega, show (Ig.grp a).length - ((Ig.grp a).length - (k + 2) + 1) = k + 1 by omega] at hs
    have hp := Ig.from_pos a ((Ig.grp a).length - (k + 1)) (by omega)
    have hg := Ig.gr_grp a _ (List.getElem_mem (show (Ig.grp a).length - (k + 2) < (Ig.grp a).length by omega))
    rw [hs, txt_snoc, if_pos (by simp only; omega), ih, Ig.from_step (show (Ig.grp a).length - (k + 1 + 1) < (Ig.grp a).length by omega), show (Ig.grp a).length - (k + 1 + 1) + 1 = (Ig.grp a).length - (k + 1) by omega]
    generalize Ig.from_ (Ig.grp a) ((Ig.grp a).length - (k + 1)) = F at *
    generalize hgd : (Ig.grp a)[(Ig.grp a).length - (k + 2)] = g at *
    rw [Ig.dec_groups (n := (g + 10000 * F).toNat) (by omega)]
    have e1 : (g + 10000 * F).toNat / 10000 = F.toNat := by omega
    have e2 : (g + 10000 * F).toNat % 10000 = g.toNat := by omega
    rw [e1, e2]
theorem txt_all {a : Nat} (h : a ≠ 0) : txt (Ig.grp a) (allDown (Ig.grp a).length) = Lib.decDigits a := by
  have hl : (Ig.grp a).length ≠ 0 := fun e => h (Ig.grp_eq_nil.1 e)
  have := txt_take a ((Ig.grp a).length - 1) (by omega)
  rw [show (Ig.grp a).length - 1 + 1 = (Ig.grp a).length by omega, List.take_of_length_le (by rw [allDown_len]; omega), Nat.sub_self, Ig.from_zero, Ig.gval_grp, Int.toNat_natCast] at this
  exact this
end Go.Proofs.YtllnepdighhkdaaGreatDoor
namespace Go.Proofs.YtllnepdighhkdaaGreatDoor
set_option linter.unusedVariables false
set_option linter.unusedSimpArgs false
open Go.RowKit Go.Shelf
attribute [local go_sem] Oper.semAt_some
theorem own_call {B n : Nat} {v : Value} {bs : List Value} {w w' : World} (h : w.ownsRow B 5 1 v n bs) (hb : Below w.heap.size w w') : w'.ownsRow B 5 1 v n bs := by
  refine ⟨h.1, ?_⟩
  rcases h.2 with h1 | ⟨g, cap, cur, h1, h2, h3, h4⟩
  · exact .inl h1
  · exact .inr ⟨g, cap, cur, h1, h2, (hb.block g (Array.getElem?_eq_some_iff.1 h3).1).trans h3, h4⟩
theorem bat_call {B b : Nat} {p : Value} {bs : List Value} {w w' : World} (h : Lib.BuilderAt 163 5 B b p bs w) (hb : Below w.heap.size w w') : Lib.BuilderAt 163 5 B b p bs w' := by
  have hlt := h.lt
  obtain ⟨h1, v, h2, h3, h4⟩ := h
  exact ⟨h1, v, (hb.block b hlt).trans h2, own_call h3 hb, h4⟩
theorem bld_call {B b : Nat} {bs : List Value} {w w' : World} (h : Lib.IsBuilder 163 5 B b bs w) (hb : Below w.heap.size w w') : Lib.IsBuilder 163 5 B b bs w' :=
  h.elim (fun h => .inl (bat_call h hb)) (fun h => .inr (bat_call h hb))
theorem bld_lt {B b : Nat} {bs : List Value} {w : World} (h : Lib.IsBuilder 163 5 B b bs w) : b < w.heap.size := h.elim (fun h => h.lt) (fun h => h.lt)
theorem own_kept {B n : Nat} {v : Value} {bs : List Value} {W W' : World} {row : Option Nat} (h : W.ownsRow B 5 1 v n bs) (hg : W.grownBy W' row) (hr : ∀ r, row = some r → ∃ o : Obj, W.heap[r]? = some o ∧ o.isCells = false) : W'.ownsRow B 5 1 v n bs := by
  refine ⟨h.1, ?_⟩
  rcases h.2 with h1 | ⟨g, cap, cur, h1, h2, h3, h4⟩
  · exact .inl h1
  · exact .inr ⟨g, cap, cur, h1, h2, bx_kept (show Bx W g 5 cur from h3) hg hr, h4⟩
theorem bat_kept {B b : Nat} {p : Value} {bs : List Value} {W W' : World} {row : Option Nat} (h : Lib.BuilderAt 163 5 B b p bs W) (hg : W.grownBy W' row) (hr : ∀ r, row = some r → ∃ o : Obj, W.heap[r]? = some o ∧ o.isCells = false) : Lib.BuilderAt 163 5 B b p bs W' := by
  obtain ⟨h1, v, h2, h3, h4⟩ := h
  exact ⟨h1, v, bx_kept (show Bx W b 163 #[p, v] from h2) hg hr, own_kept h3 hg hr, h4⟩
theorem bld_kept {B b : Nat} {bs : List Value} {W W' : World} {row : Option Nat} (h : Lib.IsBuilder 163 5 B b bs W) (hg : W.grownBy W' row) (hr : ∀ r, row = some r → ∃ o : Obj, W.heap[r]? = some o ∧ o.isCells = false) : Lib.IsBuilder 163 5 B b bs W' :=
  h.elim (fun h => .inl (bat_kept h hg hr)) (fun h => .inr (bat_kept h hg hr))
theorem others_from {b : Nat} {W W' : World} (h : Lib.OthersKept 5 (some b) W W') (hs : W.heap.size ≤ W'.heap.size) {B : Nat} (hB : b < B) : KeepsFrom B W W' := ⟨hs, fun k o hk ho hc => h k o ho (by simp; omega) (fun c fz e => by rw [e] at hc; cases hc)⟩
theorem others_bx {b g : Nat} {t : TypeId} {cs : Array Value} {W W' : World} (h : Lib.OthersKept 5 (some b) W W') (hB : Bx W g t cs) (hg : g ≠ b) (ht : t ≠ 5) : Bx W' g t cs := h g _ hB (by simp; omega) (fun c fz e => by simp only [Obj.cells.injEq] at e; exact ht e.2.1)
def d_len (d : Nat) : Nat := (Lib.decDigits d).length
theorem rep_zero (k : Nat) : Lib.repeatL [48] k = List.replicate k 48 := by
  induction k with
  | zero => rfl
  | succ k ih => rw [List.replicate_succ, ← ih]; simp [Lib.repeatL, List.replicate_succ]
/-- between two rounds of text -/
structure TextI (w : World) (neg : Bool) (v : Value) (l : List Int) (pre : List (Fin l.length)) (W : World) : Prop where
  hb : Below w.heap.size w W
  le : w.heap.size + 3 ≤ W.heap.size
  B1 : Bx W w.heap.size 100 #[.bool neg, v]
  Bb : Lib.IsBuilder 163 5 (w.heap.size + 1) (w.heap.size + 1) (Lib.byteCells (txt l pre)) W
  B3 : Bx W (w.heap.size + 1 + 1) 98 #[v]
theorem TextI.kept {w W W' : World} {neg : Bool} {v : Value} {l : List Int} {pre : List (Fin l.length)} {row : Option Nat} (h : TextI w neg v l pre W) (hg : W.grownBy W' row) (hr : ∀ r, row = some r → w.heap.size ≤ r ∧ ∃ o : Obj, W.heap[r]? = some o ∧ o.isCells = false) : TextI w neg v l pre W' :=
  ⟨h.hb.grown hg h.hb.size (fun k e => (hr k e).1), Nat.le_trans h.le hg.size, bx_kept h.B1 hg (fun r e => (hr r e).2), bld_kept h.Bb hg (fun r e => (hr r e).2), bx_kept h.B3 hg (fun r e => (hr r e).2)⟩
set_option maxRecDepth 100000 in
set_option maxHeartbeats 4000000 in
theorem text_zero (neg : Bool) (A1 : Option Addr) (c1 : Nat) (w : World) :
    Calls Tryz.prog 87 #[.agg #[.bool neg, .slice A1 0 c1]] w fun e w' => e = .returned (.tuple #[.string ⟨#[48]⟩, .int .i64 0]) ∧ Below w.heap.size w w' := by
  have hb := bNewW w (.cells #[.bool neg, .slice A1 0 c1] 100)
  go_enter Tryz.func87, Tryz.ntmps87
  go_wp2
  go_ret2
  exact ⟨rfl, hb⟩
set_option maxRecDepth 100000 in
set_option maxHeartbeats 4000000 in
theorem text_pos (neg : Bool) (a : Nat) (A1 : Option Addr) (c1 : Nat) (w : World) (hA1 : At 1 intC w w.heap.size A1 (Ig.grp a)) (hn1 : (Ig.grp a).length ≤ c1) (h0 : a ≠ 0) (la : (Ig.grp a).length ≤ 50000) (hE : Env w) (r : List UInt8) (k : Int)
    (hr1 : Lib.nDigits a ≤ 200 → Kp (r = (if neg then 45 :: Lib.decDigits a else Lib.decDigits a) ∧ k = 0)) (hr2 : ¬ Lib.nDigits a ≤ 200 → Kp (r = [] ∧ k = 30)) :
    Calls Tryz.prog 87 #[.agg #[.bool neg, .slice A1 (Ig.grp a).length c1]] w fun e w' => e = .returned (.tuple #[.string ⟨r.toArray⟩, .int .i64 k]) ∧ Below w.heap.size w w' := by
  have hl0 : (Ig.grp a).length ≠ 0 := fun e => h0 (Ig.grp_eq_nil.1 e)
  have t0 : decide (((Ig.grp a).length : Int) = 0) = false := decide_eq_false (by omega)
  have t1 : (((Ig.grp a).length : Int) == 0) = false := beq_eq_false_iff_ne.2 (by omega)
  refine (callsIn_wide (n := 3)).1 ?_
  refine callsIn_of_wp_marks Tryz.func87 rfl trivial ?_ rfl
  simp only [Tryz.ntmps87, List.size_toArray, List.length_cons, List.length_nil, Nat.reduceAdd, Nat.reduceSub, Array.replicate_succ, Array.replicate_zero, List.push_toArray, List.append_toArray, List.nil_append, List.cons_append]
  gi_wp2_with (refine ⟨trivial, ?_⟩; gi_at_call 148; refine (back_in Fence.wide 2 trivial rfl _ _ _ _).mono ?_; rintro e w' ⟨rfl, rfl⟩)
  have hb0 := bNew (bNew (bNewW w (.cells #[.bool neg, .slice A1 (Ig.grp a).length c1] 100)) (.cells #[.pointer none, .slice none 0 0] 163)) (.cells #[.slice A1 (Ig.grp a).length c1] 98)
  have B1 := ((Bx.mk w 100 #[.bool neg, .slice A1 (Ig.grp a).length c1]).new (.cells #[.pointer none, .slice none 0 0] 163)).new (.cells #[.slice A1 (Ig.grp a).length c1] 98)
  have Bb := bld_call (Lib.fresh_isBuilder 163 5 (w.alloc (.cells #[.bool neg, .slice A1 (Ig.grp a).length c1] 100))) (bNewW _ (.cells #[.slice A1 (Ig.grp a).length c1] 98))
  have B7 := Bx.mk ((w.alloc (.cells #[.bool neg, .slice A1 (Ig.grp a).length c1] 100)).alloc (.cells #[.pointer none, .slice none 0 0] 163)) 98 #[.slice A1 (Ig.grp a).length c1]
  have hsz : (((w.alloc (.cells #[.bool neg, .slice A1 (Ig.grp a).length c1] 100)).alloc (.cells #[.pointer none, .slice none 0 0] 163)).alloc (.cells #[.slice A1 (Ig.grp a).length c1] 98)).heap.size = w.heap.size + 3 := by rw [alloc_size, alloc_size, alloc_size]
  rw [alloc_size] at Bb
  rw [alloc_size, alloc_size] at B7
  generalize (((w.alloc (.cells #[.bool neg, .slice A1 (Ig.grp a).length c1] 100)).alloc (.cells #[.pointer none, .slice none 0 0] 163)).alloc (.cells #[.slice A1 (Ig.grp a).length c1] 98)) = W0 at *
  refine wpIn_rangeFunc_ownG rfl (by decide) (gf := 178) (lb := #[.pointer (some ⟨w.heap.size + 1 + 1, 0, none⟩)]) rfl trivial (enters_of Tryz.func178 (by kernel_rfl) rfl)
    (back_stops Fence.wide 2 trivial rfl (by decide) (w.heap.size + 1 + 1) w.heap.size A1 c1 (Ig.grp a) (by omega) W0 (by omega) (by omega) (B7.cell 0 rfl) (hA1.below hb0)) KpB.trans (kpB_b (by omega) (by omega)) (Below.refl _ _) (fun _ => rfl)
    (fun pre W => TextI w neg (.slice A1 (Ig.grp a).length c1) (Ig.grp a) pre W) (fun _ _ _ => False)
    (fun pre W W' row hs hg hr => hs.kept hg (fun r e => ⟨by have := (hr r e).1; omega, (hr r e).2⟩))
    (fun _ _ _ _ _ hs _ _ => hs)
    ⟨hb0, by omega, B1, Bb, B7⟩
    (fun x => { tmps := #[.agg #[.bool neg, .slice A1 (Ig.grp a).length c1], .pointer (some ⟨w.heap.size, 0, none⟩), .string ⟨#[]⟩, .int .i64 0, .pointer (some ⟨w.heap.size + 1, 0, none⟩), .int .i64 (x.1 : Int), .int .i64 (Ig.grp a)[x.1], undef, undef, .pointer (some ⟨w.heap.size, 1, none⟩), .slice A1 (Ig.grp a).length c1, .int .i64 ((Ig.grp a).length : Int), .bool false, .pointer (some ⟨w.heap.size, 1, none⟩), .slice A1 (Ig.grp a).length c1,
      .func (.func 178) #[] #[.pointer (some ⟨w.heap.size + 1 + 1, 0, none⟩)], .int .i64 (x.1 : Int), .int .i64 (Ig.grp a)[x.1], undef, undef, undef, undef, undef, undef, undef, undef, undef, undef, undef, undef, undef, undef, undef, undef, undef, undef, undef, undef, undef, undef, undef, undef, undef], defers := [] }) ?assign ?body ?done ?stop
  case assign =>
    intro l x W K hK
    simp only [handed]
    gi_wp2
    exact hK
  case body =>
    rintro l pre x W ⟨hb, hle, B1, Bb, B3⟩ hlt
    have hgx := Ig.gr_grp a (Ig.grp a)[x.1] (List.getElem_mem x.2)
    obtain ⟨d, hd⟩ := Int.eq_ofNat_of_zero_le hgx.1
    have hd9 : d < 10000 := by omega
    have hsn := txt_snoc (Ig.grp a) pre x
    have htl := txt_len (Ig.gr_grp a) pre
    rw [hd, Int.toNat_natCast] at hsn
    have hit : Lib.itoa (d : Int) = Lib.decDigits d := by rw [Ig.itoa_nonneg (by omega), Int.natAbs_natCast]
    have hI := Itoa_any (d : Int) W (by omega) (by omega) (hE.below hb)
    rw [hit] at hI
    have hdl := Ig.dec_len d
    have hd4 := Ig.nd4 hd9
    simp only [hd]
    clear hgx hd hit
    have hc1 := fun w1 (hb1 : Below W.heap.size W w1) => (B1.call hb1).cell 1 rfl
    by_cases hx : x.1 + 1 < (Ig.grp a).length
    · have t2 : decide ((x.1 : Int) < ((Ig.grp a).length : Int) - 1) = true := by simp; omega
      have hR := fun w1 => Repeat_any [48] (4 - (d_len d : Int)) w1 (by unfold d_len; omega) (by unfold d_len; omega) (by decide)
      have hpad : Lib.repeatL [48] (4 - (d_len d : Int)).toNat ++ Lib.decDigits d = Ig.four d := by
        rw [← Ig.pad_four hd9, rep_zero]
        unfold d_len
        rw [hdl, show (4 - ((Lib.nDigits d : Nat) : Int)).toNat = 4 - Lib.nDigits d by omega]
      rw [if_pos hx, ← hpad] at hsn
      have hlr : (Lib.repeatL [48] (4 - (d_len d : Int)).toNat ++ Lib.decDigits d).length = 4 := by rw [hpad]; rfl
      have hs4 : (Lib.decDigits d).length ≤ 4 := by rw [hdl]; exact hd4
      clear hpad hdl hd4
      unfold d_len at hR hlr hsn
      generalize Lib.decDigits d = s at *
      gi_wp2_with fail
      refine ⟨trivial, ((callsIn_wide.2 hI).inRound _).mono ?_⟩
      rintro _ w1 ⟨rfl, hb1⟩
      have c1' := hc1 w1 hb1
      clear hc1 hI
      gi_wp2_with fail
      refine ⟨trivial, ((callsIn_wide.2 (hR _)).inRound _).mono ?_⟩
      rintro _ w2 ⟨rfl, hb2⟩
      have hb12 := bCall hb1 hb2
      have hW := WriteString_any (w.heap.size + 1) (w.heap.size + 1) _ (Lib.repeatL [48] (4 - (s.length : Int)).toNat ++ s) w2 (bld_call Bb hb12) (by rw [Lib.byteCells_length, hlr]; omega) (by have := hb12.size; omega)
      rw [← Lib.byteCells_append, ← hsn] at hW
      rw [List.length_append] at hlr
      clear hR hsn
      generalize Lib.repeatL [48] (4 - (s.length : Int)).toNat = s2 at *
      have hnl : ¬ 9223372036854775807 < s2.length + s.length := by omega
      clear hlr
      gi_wp2_with fail
      refine ⟨trivial, ((callsIn_wide.2 hW).inRound _).mono ?_⟩
      rintro _ w3 ⟨rfl, hb3, hb4, hk4⟩
      gi_wp2
      have hs3 := hb4.size
      have hB1 := (B1.call hb12).below hb4 (Nat.lt_succ_self _)
      have hB3 := others_bx hk4 (B3.call hb12) (by omega) (by decide)
      have hb5 := (bCall hb hb12).trans (hb4.mono (Nat.le_succ _))
      exact ⟨(keeps_below hb12 W0.heap.size).trans (others_from hk4 hs3 (by omega)), ⟨(hb12.mono (by omega)).trans (hb4.mono (Nat.le_succ _)), hB3.trans B3.symm⟩, hb5, Nat.le_trans hle (Nat.le_trans hb12.size hs3), hB1, .inr hb3, hB3⟩
    · have t2 : decide ((x.1 : Int) < ((Ig.grp a).length : Int) - 1) = false := by simp; omega
      rw [if_neg hx] at hsn
      have hs4 : (Lib.decDigits d).length ≤ 4 := by rw [hdl]; exact hd4
      clear hdl hd4
      generalize Lib.decDigits d = s at *
      gi_wp2_with fail
      refine ⟨trivial, ((callsIn_wide.2 hI).inRound _).mono ?_⟩
      rintro _ w2 ⟨rfl, hb12⟩
      have c1' := hc1 w2 hb12
      clear hc1 hI
      have hW := WriteString_any (w.heap.size + 1) (w.heap.size + 1) _ s w2 (bld_call Bb hb12) (by rw [Lib.byteCells_length]; omega) (by have := hb12.size; omega)
      rw [← Lib.byteCells_append, ← hsn] at hW
      gi_wp2_with fail
      refine ⟨trivial, ((callsIn_wide.2 hW).inRound _).mono ?_⟩
      rintro _ w3 ⟨rfl, hb3, hb4, hk4⟩
      gi_wp2
      have hs3 := hb4.size
      have hB1 := (B1.call hb12).below hb4 (Nat.lt_succ_self _)
      have hB3 := others_bx hk4 (B3.call hb12) (by omega) (by decide)
      have hb5 := (bCall hb hb12).trans (hb4.mono (Nat.le_succ _))
      exact ⟨(keeps_below hb12 W0.heap.size).trans (others_from hk4 hs3 (by omega)), ⟨(hb12.mono (by omega)).trans (hb4.mono (Nat.le_succ _)), hB3.trans B3.symm⟩, hb5, Nat.le_trans hle (Nat.le_trans hb12.size hs3), hB1, .inr hb3, hB3⟩
  case done =>
    rintro D ys W hD rfl ⟨hb, hle, B1, Bb, B3⟩ hK
    rw [txt_all h0] at Bb
    have hS := BString_any _ _ _ _ Bb (Ig.dec_ne a)
    have hdl := Ig.dec_len a
    have c0 := fun w1 (hb1 : Below (w.heap.size + 1) W w1) => (B1.below hb1 (Nat.lt_succ_self _)).cell 0 rfl
    have hKk : ∀ w1, Lib.OthersKept 5 (some (w.heap.size + 1)) W w1 → w1.heap[D]? = some (.deferred (some [])) := fun w1 h1 => h1 D _ hK (by simp; omega) (fun c fz e => by cases e)
    have hDw : w.heap.size ≤ D := by omega
    clear B1 Bb B3 hK hD
    by_cases hnd : Lib.nDigits a ≤ 200
    · have hfin := hr1 hnd
      have t3 : decide (((Lib.decDigits a).length : Int) > 200) = false := decide_eq_false (by rw [hdl]; omega)
      have hnl : ¬ 9223372036854775807 < (Lib.decDigits a).length := by rw [hdl]; omega
      have hnl2 : ¬ 9223372036854775807 < 1 + (Lib.decDigits a).length := by rw [hdl]; omega
      clear hdl
      generalize Lib.decDigits a = s at *
      gi_wp2_with fail
      refine ⟨trivial, (callsIn_wide.2 hS).mono ?_⟩
      rintro _ w1 ⟨rfl, hb1, hk1⟩
      have hK := hKk w1 hk1
      have c1' := c0 w1 hb1
      have hb2 := hb.trans (hb1.mono (Nat.le_succ _))
      clear hS hKk c0 hk1 hb1 hb
      have hg := grownBy_putObj' w1 D (.deferred none)
      have hbf : Below w.heap.size w (w1.putObj D (.deferred none)) := hb2.trans (belowK_b (w := w) (Nat.le_refl _) w1 D _ _ hDw hK rfl rfl)
      cases neg
      · gi_wp2
        refine ⟨by simp, .inl ⟨_, _, rfl, run_takeDeferred hK, ?_⟩⟩
        exact ⟨_, results_tmp2 rfl _ _ _, by rw [hfin.out.1, hfin.out.2]; rfl, hbf⟩
      · gi_wp2
        refine ⟨by simp, .inl ⟨_, _, rfl, run_takeDeferred hK, ?_⟩⟩
        exact ⟨_, results_tmp2 rfl _ _ _, by rw [hfin.out.1, hfin.out.2]; rfl, hbf⟩
    · have hfin := hr2 hnd
      have t3 : decide (((Lib.decDigits a).length : Int) > 200) = true := decide_eq_true (by rw [hdl]; omega)
      clear hdl
      generalize Lib.decDigits a = s at *
      gi_wp2_with fail
      refine ⟨trivial, (callsIn_wide.2 hS).mono ?_⟩
      rintro _ w1 ⟨rfl, hb1, hk1⟩
      have hK := hKk w1 hk1
      have hb2 := hb.trans (hb1.mono (Nat.le_succ _))
      clear hS hKk c0 hk1 hb1 hb
      have hbf : Below w.heap.size w (w1.putObj D (.deferred none)) := hb2.trans (belowK_b (w := w) (Nat.le_refl _) w1 D _ _ hDw hK rfl rfl)
      gi_wp2
      refine ⟨by simp, .inl ⟨_, _, rfl, run_takeDeferred hK, ?_⟩⟩
      exact ⟨_, results_tmp2 rfl _ _ _, by rw [hfin.out.1, hfin.out.2]; rfl, hbf⟩
  case stop =>
    rintro D c pre W _ _ h _
    exact h.elim
/-- the integer of a sign and a size -/
def sgn (neg : Bool) (a : Nat) : Int := if neg then -(a : Int) else a
theorem sgn_abs (neg : Bool) (a : Nat) : (sgn neg a).natAbs = a := by cases neg <;> simp [sgn]
theorem text_any (neg : Bool) (a : Nat) (v : Value) (w : World) (h : NumAt w a v) (la : (Ig.grp a).length ≤ 50000) (hE : Env w) :
    Calls Tryz.prog 87 #[.agg #[.bool neg, v]] w fun e w' => e = .returned (.tuple #[.string ⟨(Ig.resS (sgn neg a)).toArray⟩, .int .i64 (Ig.resE (sgn neg a))]) ∧ Below w.heap.size w w' := by
  obtain ⟨A1, c1, rfl, hA1, hn1, hm1⟩ := h.out
  by_cases h0 : a = 0
  · subst h0
    have e1 : Ig.resS (sgn neg 0) = [48] := by cases neg <;> decide +kernel
    have e2 : Ig.resE (sgn neg 0) = 0 := by cases neg <;> decide +kernel
    have hl : (Ig.grp 0).length = 0 := by rw [Ig.grp_zero]; rfl
    rw [e1, e2, hl]
    exact text_zero neg A1 c1 w
  · refine text_pos neg a A1 c1 w hA1 hn1 h0 la hE _ _ (fun h => ⟨?_, ?_⟩) (fun h => ⟨?_, ?_⟩)
    · rw [Ig.resS, sgn_abs, if_pos h]
      cases neg
      · rw [Ig.itoa_nonneg (by simp [sgn]), sgn_abs]; rfl
      · rw [Ig.itoa_neg (by simp [sgn]; omega), sgn_abs]; rfl
    · rw [Ig.resE, sgn_abs, if_pos h]
    · rw [Ig.resS, sgn_abs, if_neg h]
    · rw [Ig.resE, sgn_abs, if_neg h]
end Go.Proofs.YtllnepdighhkdaaGreatDoor

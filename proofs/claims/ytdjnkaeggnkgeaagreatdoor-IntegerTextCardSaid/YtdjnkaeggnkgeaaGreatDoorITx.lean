/- Texts of numbers: plain. -/
import Derived.Test.YtdjnkaeggnkgeaaGreatDoorITimes
namespace Ig
theorem gval_pos : ∀ {l : List Int}, Gr l → l ≠ [] → l.getLast? ≠ some 0 → 0 < gval l
  | [], _, h, _ => absurd rfl h
  | [g], h, _, hl => by
    have := h g (by simp)
    have : g ≠ 0 := fun e => hl (by simp [e])
    simp [gval]; omega
  | g :: a :: l, h, _, hl => by
    have h1 := h g (by simp)
    have h2 := gval_pos (l := a :: l) (fun x hx => h x (by simp [hx])) (by simp) (by rwa [List.getLast?_cons_cons] at hl)
    rw [gval]; omega
theorem from_pos (a i : Nat) (h : i < (grp a).length) : 0 < from_ (grp a) i := by
  refine gval_pos (fun g hg => gr_grp a g (List.mem_of_mem_drop hg)) (by simp; omega) ?_
  rw [List.getLast?_drop, if_neg (by omega)]
  exact grp_getLast a
theorem four_len (g : Nat) : (four g).length = 4 := rfl
theorem nd4 {g : Nat} (h : g < 10000) : Go.Lib.nDigits g ≤ 4 := (nd_le (by decide)).2 h
/-- what a result is written as -/
def resS (z : Int) : List UInt8 := if Go.Lib.nDigits z.natAbs ≤ 200 then Go.Lib.itoa z else []
def resE (z : Int) : Int := if Go.Lib.nDigits z.natAbs ≤ 200 then 0 else 30
theorem fits_iff (z : Int) : fits z ↔ Go.Lib.nDigits z.natAbs ≤ 200 := (nd_le (by decide)).symm
theorem resS_fits {z : Int} (h : fits z) : resS z = Go.Lib.itoa z := if_pos ((fits_iff z).1 h)
theorem resE_fits {z : Int} (h : fits z) : resE z = 0 := if_pos ((fits_iff z).1 h)
theorem resS_not {z : Int} (h : ¬ fits z) : resS z = [] := if_neg (fun k => h ((fits_iff z).2 k))
theorem resE_not {z : Int} (h : ¬ fits z) : resE z = 30 := if_neg (fun k => h ((fits_iff z).2 k))
end Ig
namespace Go.Proofs.YtdjnkaeggnkgeaaGreatDoor
/-- what indices have written, from the highest on -/
def txt (l : List Int) (pre : List (Fin l.length)) : List UInt8 := pre.flatMap fun t => if t.1 + 1 < l.length then Ig.four l[t.1].toNat else Lib.decDigits l[t.1].toNat
theorem txt_snoc (l : List Int) (pre : List (Fin l.length)) (t : Fin l.length) : txt l (pre ++ [t]) = txt l pre ++ (if t.1 + 1 < l.length then Ig.four l[t.1].toNat else Lib.decDigits l[t.1].toNat) := by simp [txt]
theorem txt_len {l : List Int} (hl : Ig.Gr l) (pre : List (Fin l.length)) : (txt l pre).length ≤ 4 * pre.length := by
  unfold txt
  induction pre with
  | nil => simp
  | cons t pre ih =>
    rw [List.flatMap_cons, List.length_append, List.length_cons]
    have h := hl l[t.1] (List.getElem_mem t.2)
    have : (if t.1 + 1 < l.length then Ig.four l[t.1].toNat else Lib.decDigits l[t.1].toNat).length ≤ 4 := by
      split
      · exact Nat.le_of_eq (Ig.four_len _)
      · rw [Ig.dec_len]; exact Ig.nd4 (by omega)
    omega
theorem txt_take (a : Nat) : ∀ k, k + 1 ≤ (Ig.grp a).length → txt (Ig.grp a) ((allDown (Ig.grp a).length).take (k + 1)) = Lib.decDigits (Ig.from_ (Ig.grp a) ((Ig.grp a).length - (k + 1))).toNat
  | 0, hk => by
    have hs := down_succ (n := (Ig.grp a).length) (t := (Ig.grp a).length - 1) (by omega)
    rw [show (Ig.grp a).length - ((Ig.grp a).length - 1) = 0 + 1 by omega, show (Ig.grp a).length - ((Ig.grp a).length - 1 + 1) = 0 by omega] at hs
    rw [hs, txt_snoc, if_neg (by simp only; omega), Nat.zero_add, Ig.from_step (by omega), Ig.from_end (by omega)]
    simp [txt]
  | k + 1, hk => by
    have ih := txt_take a k (by omega)
    have hs := down_succ (n := (Ig.grp a).length) (t := (Ig.grp a).length - (k + 2)) (by omega)
    rw [show (Ig.grp a).length - ((Ig.grp a).length - (k + 2)) = k + 1 + 1 by omega, show (Ig.grp a).length - ((Ig.grp a).length - (k + 2) + 1) = k + 1 by omega] at hs
    have hp := Ig.from_pos a ((Ig.grp a).length - (k + 1)) (by omega)
    have hg := Ig.gr_grp a _ (List.getElem_mem (show (Ig.grp a).length - (k + 2) < (Ig.grp a).length by omega))
    rw [hs, txt_snoc, if_pos (by simp only; omega), ih, Ig.from_step (show (Ig.grp a).length - (k + 1 + 1) < (Ig.grp a).length by omega), show (Ig.grp a).length - (k + 1 + 1) + 1 = (Ig.grp a).length - (k + 1) by omega]
    generalize Ig.from_ (Ig.grp a) ((Ig.grp a).length - (k + 1)) = F at *
    generalize hgd : (Ig.grp a)[(Ig.grp a).length - (k + 2)] = g at *
    rw [Ig.dec_groups (n := (g + 10000 * F).toNat) (by omega)]
    have e1 : (g + 10000 * F).toNat / 10000 = F.toNat := by omega
    have e2 : (g + 10000 * F).toNat % 10000 = g.toNat := by omega
    rw [e1, e2]
theorem txt_all {a : Nat} (h : a ≠ 0) : txt (Ig.grp a) (allDown (Ig.grp a).length) = Lib.decDigits a := by
  have hl : (Ig.grp a).length ≠ 0 := fun e => h (Ig.grp_eq_nil.1 e)
  have := txt_take a ((Ig.grp a).length - 1) (by omega)
  rw [show (Ig.grp a).length - 1 + 1 = (Ig.grp a).length by omega, List.take_of_length_le (by rw [allDown_len]; omega), Nat.sub_self, Ig.from_zero, Ig.gval_grp, Int.toNat_natCast] at this
  exact this
end Go.Proofs.YtdjnkaeggnkgeaaGreatDoor

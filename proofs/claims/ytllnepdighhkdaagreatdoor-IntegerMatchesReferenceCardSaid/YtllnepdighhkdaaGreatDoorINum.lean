/- trimmed, at and the digits of sums, differences, products of package integer. -/
import Derived.Test.YtllnepdighhkdaaGreatDoorIStr
import Derived.Test.YtllnepdighhkdaaGreatDoorMK
import Derived.IntWalk
namespace Go.Proofs.YtllnepdighhkdaaGreatDoor
set_option linter.unusedVariables false
set_option linter.unusedSimpArgs false
open Go.RowKit
set_option maxRecDepth 100000 in
set_option maxHeartbeats 1000000 in
theorem trimmed_any (l : List Int) (A : Option Addr) (cap : Nat) (w : World) (hA : At 1 intC w w.heap.size A l) (hn : l.length ≤ cap) (hl : l.length ≤ 1000000) :
    Calls Tryz.prog 153 #[.slice A l.length cap] w fun e w' => e = .returned (.slice A (Ig.trimG l).length cap) ∧ w = w' := by
  go_enter Tryz.func153, Tryz.ntmps153
  go_wp2
  go_loop [0] (fun s => ∃ k : Nat, k ≤ l.length ∧ s = .slice A k cap ∧ Hid (Ig.trimG (l.take k) = Ig.trimG l)) (fun s => match s with | .slice _ k _ => k | _ => 0)
  case atStart => exact ⟨l.length, Nat.le_refl _, rfl, Lib.hid (by rw [List.take_length])⟩
  case round =>
    obtain ⟨k, hk, rfl, ht⟩ := hrel
    by_cases h0 : 0 < k
    · obtain ⟨b, off, rfl, hbB, hcell⟩ := hA (by omega)
      obtain ⟨k, rfl⟩ : ∃ j, k = j + 1 := ⟨k - 1, by omega⟩
      have hck : l[k]? = some l[k] := List.getElem?_eq_getElem (by omega)
      have c0 : w.cell? ⟨b, off + k, none⟩ = some (.int .i64 l[k]) := by
        have := hcell k _ hck 0 _ rfl
        simpa using this
      have hsn := List.take_succ_eq_append_getElem (show k < l.length by omega)
      by_cases hz : l[k] = 0
      · have t1 : (l[k] == 0) = true := by simp [hz]
        have hnext := Lib.hid (show Ig.trimG (l.take k) = Ig.trimG l by rw [← ht.out, hsn, hz, Ig.trimG_snoc_zero])
        clear hck hcell hsn hz ht
        generalize l[k] = g at *
        go_wp2
        exact ⟨⟨k, by omega, rfl, hnext⟩, Nat.lt_succ_self k⟩
      · have t1 : (l[k] == 0) = false := by simp [hz]
        have hfin : Kp ((Ig.trimG l).length = k + 1) := ⟨by rw [← ht.out, hsn, Ig.trimG_snoc hz]; simp; omega⟩
        clear hck hcell hsn hz ht
        generalize l[k] = g at *
        go_wp2
        go_ret
        exact ⟨by rw [hfin.out]; rfl, rfl⟩
    · obtain rfl : k = 0 := by omega
      have hfin : Kp ((Ig.trimG l).length = 0) := ⟨by rw [← ht.out]; rfl⟩
      clear ht
      go_wp2
      go_ret
      exact ⟨by rw [hfin.out]; rfl, rfl⟩
theorem trim_take (l : List Int) : l.take (Ig.trimG l).length = Ig.trimG l := by
  have h : ∀ n (l : List Int), l.length = n → Ig.trimG l <+: l := by
    intro n
    induction n with
    | zero => intro l h; rw [List.length_eq_zero_iff.1 h]; exact List.prefix_refl _
    | succ n ih =>
      intro l h
      rcases Ig.snoc_cases l with rfl | ⟨m, g, rfl⟩
      · exact List.prefix_refl _
      · by_cases hg : g = 0
        · subst hg
          rw [Ig.trimG_snoc_zero]
          exact (ih m (by simpa using h)).trans (List.prefix_append _ _)
        · rw [Ig.trimG_snoc hg]; exact List.prefix_refl _
  exact (List.prefix_iff_eq_take.1 (h _ l rfl)).symm
theorem wpList_append_nums {w : World} {ops : Array Oper} {rest : List Oper} {o : Oper} {a : Act} {Q : Exit → Act → World → Prop} (hgd : o.guard = none) (s y : Operand) (ho : o.op = .call { callee := .builtin .append, args := #[s, y], argTypes := #[98, 98] })
    (B cap n m : Nat) (flat news : List Value) (v x : Value) (hes : a.eval s = v) (hey : a.eval y = x) (hv : RowC 3 1 B cap n flat v w) (hB : B ≤ w.heap.size) (hs : Src Tryz.prog 1 98 x m news w) (hcm : cap ≤ maxLen) (h63 : n + m ≤ 2000000)
    (h : ∀ v' w' cap', Below B w w' → (n = cap → Below w.heap.size w w') → RowC 3 1 B cap' (n + m) (flat ++ news) v' w' → cap' ≤ maxLen → wpList Tryz.prog ops Q rest (a.put o.dst v') w') : wpList Tryz.prog ops Q (o :: rest) a w := by
  obtain ⟨i, z, hi, hz, hs1, hz1, hby⟩ := intI
  exact wpList_append_row hgd s y _ _ ho i z 1 B cap n m flat news v x Tryz.underlying98 hi hz hs1 hz1 hes hey hv hB hs hcm (by unfold maxLen; omega) (by rw [hby]; omega) h
/-- one fresh cell is a source -/
theorem src_one (W : World) (x : Int) : Src Tryz.prog 1 98 (.slice (some ⟨W.heap.size, 0, none⟩) 1 1) 1 [.int .i64 x] (W.alloc (.cells #[.int .i64 x] 3)) :=
  RowC.src (B := W.heap.size) (cap := 1) (e := 3) (fun u hu => by simp at hu; subst hu; rfl) Tryz.underlying98 ⟨W.heap.size, _, rfl, Nat.le_refl _, Nat.le_refl _, Bx.mk _ _ _, rfl, rfl⟩
/-- a number in memory -/
structure NumAt (W : World) (a : Nat) (v : Value) : Prop where
  out : ∃ (A : Option Addr) (cap : Nat), v = .slice A (Ig.grp a).length cap ∧ At 1 intC W W.heap.size A (Ig.grp a) ∧ (Ig.grp a).length ≤ cap ∧ cap ≤ maxLen
theorem NumAt.call {W W' : World} {a : Nat} {v : Value} (h : NumAt W a v) (hb : Below W.heap.size W W') : NumAt W' a v := by
  obtain ⟨A, cap, h1, h2, h3, h4⟩ := h.out
  exact ⟨A, cap, h1, (h2.below hb).more hb.size, h3, h4⟩
/-- .. it is not too great for the walk -/
def Len (a : Nat) : Prop := (Ig.grp a).length ≤ 100000
set_option maxRecDepth 100000 in
set_option maxHeartbeats 1000000 in
theorem at_any (l : List Int) (A : Option Addr) (cap i : Nat) (w : World) (hA : At 1 intC w w.heap.size A l) (hn : l.length ≤ cap) (hl : l.length ≤ 1000000) (hi : i ≤ 1000000) :
    Calls Tryz.prog 158 #[.slice A l.length cap, .int .i64 i] w fun e w' => e = .returned (.int .i64 (Ig.atG l i)) ∧ w = w' := by
  by_cases hlt : i < l.length
  · obtain ⟨b, off, rfl, hbB, hcell⟩ := hA (by omega)
    have hck : l[i]? = some l[i] := List.getElem?_eq_getElem hlt
    have c0 : w.cell? ⟨b, off + i, none⟩ = some (.int .i64 l[i]) := by
      have := hcell i _ hck 0 _ rfl
      simpa using this
    have hfin : Kp (Ig.atG l i = l[i]) := ⟨Ig.atG_lt hlt⟩
    clear hck hcell
    generalize l[i] = g at *
    go_enter Tryz.func158, Tryz.ntmps158
    go_wp2
    go_ret
    exact ⟨ret_int hfin.out.symm, rfl⟩
  · have hfin : Kp (Ig.atG l i = 0) := ⟨Ig.atG_ge (by omega)⟩
    go_enter Tryz.func158, Tryz.ntmps158
    go_wp2
    go_ret
    exact ⟨ret_int hfin.out.symm, rfl⟩
/-- what a closure over two numbers finds in its boxes; all of it lies below B -/
structure Two (B : Nat) (W : World) (b1 b2 : Nat) (l m : List Int) : Prop where
  out : ∃ A1 c1 A2 c2, Bx W b1 98 #[.slice A1 l.length c1] ∧ Bx W b2 98 #[.slice A2 m.length c2] ∧ At 1 intC W B A1 l ∧ At 1 intC W B A2 m ∧ l.length ≤ c1 ∧ m.length ≤ c2
  lt1 : b1 < B
  lt2 : b2 < B
  le : B ≤ W.heap.size
theorem Two.call {B : Nat} {W W' : World} {b1 b2 : Nat} {l m : List Int} (h : Two B W b1 b2 l m) (hb : Below B W W') : Two B W' b1 b2 l m := by
  obtain ⟨A1, c1, A2, c2, h1, h2, h3, h4, h5, h6⟩ := h.out
  exact ⟨⟨A1, c1, A2, c2, h1.below hb h.lt1, h2.below hb h.lt2, h3.below hb, h4.below hb, h5, h6⟩, h.lt1, h.lt2, Nat.le_trans h.le hb.size⟩
set_option maxRecDepth 100000 in
set_option maxHeartbeats 1000000 in
theorem plusIn_any (B : Nat) (l m : List Int) (b1 b2 i : Nat) (w : World) (h : Two B w b1 b2 l m) (hl : l.length ≤ 100000) (hm : m.length ≤ 100000) (gl : Ig.Gr l) (gm : Ig.Gr m) (hi : i ≤ 1000000) :
    Calls Tryz.prog 157 #[.int .i64 i, .pointer (some ⟨b1, 0, none⟩), .pointer (some ⟨b2, 0, none⟩)] w fun e w' => e = .returned (.int .i64 (Ig.atG l i + Ig.atG m i)) ∧ Below w.heap.size w w' := by
  obtain ⟨A1, c1, A2, c2, B1, B2, h3, h4, h5, h6⟩ := h.out
  replace h3 := h3.more h.le; replace h4 := h4.more h.le
  have x1 := Ig.atG_in gl i
  have x2 := Ig.atG_in gm i
  have k1 := fun d os => at_any l A1 c1 i (Sort.grow (redrawn w d) os) ((h3.below (below_regrown w d os)).more (below_regrown w d os).size) h5 (by omega) hi
  have k2 := fun d os => at_any m A2 c2 i (Sort.grow (redrawn w d) os) ((h4.below (below_regrown w d os)).more (below_regrown w d os).size) h6 (by omega) hi
  have g1 := fun d os => (B1.again d os).cell 0 rfl
  have g2 := fun d os => (B2.again d os).cell 0 rfl
  clear h h3 h4 B1 B2
  generalize Ig.atG l i = p at *
  generalize Ig.atG m i = q at *
  go_enter Tryz.func157, Tryz.ntmps157
  go_wp2
  refine wp_region_quiet_below (by kernel_rfl) (by kernel_rfl) ?_
  repeat (go_big_quiet_step (first
    | (go_at_call 158; with_reducible exact Calls.regrown_of (calls_below (k1 _ _)))
    | (go_at_call 158; with_reducible exact Calls.regrown_of (calls_below (k2 _ _)))))
  refine wpQuiet_nil ?_
  rintro _ ⟨z, rfl⟩
  go_wp2
  go_ret
  exact ⟨rfl, below_regrown w z.d z.os⟩
set_option maxRecDepth 100000 in
set_option maxHeartbeats 1000000 in
theorem minusIn_any (B : Nat) (l m : List Int) (b1 b2 i : Nat) (w : World) (h : Two B w b1 b2 l m) (hl : l.length ≤ 100000) (hm : m.length ≤ 100000) (gl : Ig.Gr l) (gm : Ig.Gr m) (hi : i ≤ 1000000) :
    Calls Tryz.prog 159 #[.int .i64 i, .pointer (some ⟨b1, 0, none⟩), .pointer (some ⟨b2, 0, none⟩)] w fun e w' => e = .returned (.int .i64 (Ig.atG l i - Ig.atG m i)) ∧ Below w.heap.size w w' := by
  obtain ⟨A1, c1, A2, c2, B1, B2, h3, h4, h5, h6⟩ := h.out
  replace h3 := h3.more h.le; replace h4 := h4.more h.le
  have x1 := Ig.atG_in gl i
  have x2 := Ig.atG_in gm i
  have k1 := fun d os => at_any l A1 c1 i (Sort.grow (redrawn w d) os) ((h3.below (below_regrown w d os)).more (below_regrown w d os).size) h5 (by omega) hi
  have k2 := fun d os => at_any m A2 c2 i (Sort.grow (redrawn w d) os) ((h4.below (below_regrown w d os)).more (below_regrown w d os).size) h6 (by omega) hi
  have g1 := fun d os => (B1.again d os).cell 0 rfl
  have g2 := fun d os => (B2.again d os).cell 0 rfl
  clear h h3 h4 B1 B2
  generalize Ig.atG l i = p at *
  generalize Ig.atG m i = q at *
  go_enter Tryz.func159, Tryz.ntmps159
  go_wp2
  refine wp_region_quiet_below (by kernel_rfl) (by kernel_rfl) ?_
  repeat (go_big_quiet_step (first
    | (go_at_call 158; with_reducible exact Calls.regrown_of (calls_below (k1 _ _)))
    | (go_at_call 158; with_reducible exact Calls.regrown_of (calls_below (k2 _ _)))))
  refine wpQuiet_nil ?_
  rintro _ ⟨z, rfl⟩
  go_wp2
  go_ret
  exact ⟨rfl, below_regrown w z.d z.os⟩
/-- what a closure over a number and a factor finds in its boxes; all of it lies below B -/
structure OneBy (B : Nat) (W : World) (b1 b2 : Nat) (l : List Int) (n : Int) : Prop where
  out : ∃ A1 c1, Bx W b1 98 #[.slice A1 l.length c1] ∧ Bx W b2 3 #[.int .i64 n] ∧ At 1 intC W B A1 l ∧ l.length ≤ c1
  lt1 : b1 < B
  lt2 : b2 < B
  le : B ≤ W.heap.size
theorem OneBy.call {B : Nat} {W W' : World} {b1 b2 : Nat} {l : List Int} {n : Int} (h : OneBy B W b1 b2 l n) (hb : Below B W W') : OneBy B W' b1 b2 l n := by
  obtain ⟨A1, c1, h1, h2, h3, h5⟩ := h.out
  exact ⟨⟨A1, c1, h1.below hb h.lt1, h2.below hb h.lt2, h3.below hb, h5⟩, h.lt1, h.lt2, Nat.le_trans h.le hb.size⟩
set_option maxRecDepth 100000 in
set_option maxHeartbeats 1000000 in
theorem byIn_any (B : Nat) (l : List Int) (n : Int) (b1 b2 i : Nat) (w : World) (h : OneBy B w b1 b2 l n) (hl : l.length ≤ 100000) (gl : Ig.Gr l) (n0 : 0 ≤ n) (n1 : n ≤ 10000) (hi : i ≤ 1000000) :
    Calls Tryz.prog 182 #[.int .i64 i, .pointer (some ⟨b1, 0, none⟩), .pointer (some ⟨b2, 0, none⟩)] w fun e w' => e = .returned (.int .i64 (Ig.atG l i * n)) ∧ Below w.heap.size w w' := by
  obtain ⟨A1, c1, B1, B2, h3, h5⟩ := h.out
  replace h3 := h3.more h.le
  have x1 := Ig.atG_in gl i
  have k1 := fun d os => at_any l A1 c1 i (Sort.grow (redrawn w d) os) ((h3.below (below_regrown w d os)).more (below_regrown w d os).size) h5 (by omega) hi
  have g1 := fun d os => (B1.again d os).cell 0 rfl
  have g2 := fun d os => (B2.again d os).cell 0 rfl
  clear h h3 B1 B2
  generalize Ig.atG l i = p at *
  have hm : 0 ≤ p * n ∧ p * n ≤ 100000000 := by
    refine ⟨Int.mul_nonneg x1.1 n0, ?_⟩
    have := Int.mul_le_mul (show p ≤ 10000 by omega) n1 n0 (by omega)
    omega
  obtain ⟨hm0, hm1⟩ := hm
  go_enter Tryz.func182, Tryz.ntmps182
  go_wp2
  refine wp_region_quiet_below (by kernel_rfl) (by kernel_rfl) ?_
  repeat (go_big_quiet_step (first
    | (go_at_call 158; with_reducible exact Calls.regrown_of (calls_below (k1 _ _)))))
  refine wpQuiet_nil ?_
  rintro _ ⟨z, rfl⟩
  have hw : IntKind.i64.wrap (p * n) = p * n := IntWalk.i64_in _ (by omega)
  go_wp2
  go_ret
  exact ⟨by simp [hw], below_regrown w z.d z.os⟩
end Go.Proofs.YtllnepdighhkdaaGreatDoor

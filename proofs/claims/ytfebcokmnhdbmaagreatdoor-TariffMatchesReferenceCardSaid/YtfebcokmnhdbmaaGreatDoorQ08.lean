/- A calculation of package rational: its struct between two calls; do. trimmed, at and the digits of sums, differences, products of package integer. fold of package integer, at the closure of plus. fold of package integer, at the closure of minus. fold of package integer, at the closure of by. -/
import Derived.Test.YtfebcokmnhdbmaaGreatDoorQ01
import Derived.Test.YtfebcokmnhdbmaaGreatDoorQ00
import Derived.IntWalk
namespace Go.Proofs.YtfebcokmnhdbmaaGreatDoor
set_option linter.unusedVariables false
set_option linter.unusedSimpArgs false
open Go.RowKit Go.Shelf
/-- the struct lies in block g, made after w0; nothing that there was at w0 has changed -/
structure Wk (w0 W : World) (g : Nat) (bad : Bool) : Prop where
  hb : Below w0.heap.size w0 W
  ge : w0.heap.size ≤ g
  bx : Bx W g 108 #[.bool bad]
section
variable {w0 W W' : World} {g : Nat} {bad : Bool}
theorem Wk.call (h : Wk w0 W g bad) (hb : Below W.heap.size W W') : Wk w0 W' g bad := ⟨bCall h.hb hb, h.ge, h.bx.call hb⟩
theorem Wk.cell (h : Wk w0 W g bad) : W.cell? ⟨g, 0, none⟩ = some (.bool bad) := h.bx.cell 0 rfl
theorem Wk.frozen (h : Wk w0 W g bad) : W.frozen? ⟨g, 0, none⟩ = false := h.bx.frozen 0
theorem Wk.set (h : Wk w0 W g bad) (b : Bool) : Wk w0 (W.setCell ⟨g, 0, none⟩ (.bool b)) g b := ⟨bSet h.hb h.ge _, h.ge, by simpa using h.bx.set 0 (.bool b)⟩
theorem Wk.far (h : Wk w0 W g bad) {p : Addr} (hp : g ≠ p.block) (hp2 : w0.heap.size ≤ p.block) (u : Value) : Wk w0 (W.setCell p u) g bad := ⟨bSet h.hb hp2 _, h.ge, h.bx.far hp u⟩
end
/-- all blocks but g are as they were -/
structure Ks (g : Nat) (W W' : World) : Prop where
  size : W.heap.size ≤ W'.heap.size
  same : ∀ k, k < W.heap.size → k ≠ g → W'.heap[k]? = W.heap[k]?
theorem Ks.of {g : Nat} {W W' : World} (h : Below W.heap.size W W') : Ks g W W' := ⟨h.size, fun k hk _ => h.block k hk⟩
theorem Ks.set {g : Nat} {W W' : World} (h : Ks g W W') (hg : g < W'.heap.size) (u : Value) : Ks g W (W'.setCell ⟨g, 0, none⟩ u) :=
  ⟨Nat.le_trans h.size (by simp [World.setCell]), fun k hk hne => (Below.heap_setCell W' ⟨g, 0, none⟩ u k hne).trans (h.same k hk hne)⟩
theorem Ks.trans {g : Nat} {W W' W'' : World} (h : Ks g W W') (h' : Ks g W' W'') : Ks g W W'' :=
  ⟨Nat.le_trans h.size h'.size, fun k hk hne => (h'.same k (Nat.lt_of_lt_of_le hk h.size) hne).trans (h.same k hk hne)⟩
theorem Bx.ks {g k : Nat} {W W' : World} {t : TypeId} {cs : Array Value} (h : Bx W k t cs) (hk : Ks g W W') (hne : k ≠ g) : Bx W' k t cs := (hk.same k h.lt hne).trans h
set_option maxRecDepth 100000 in
set_option maxHeartbeats 1000000 in
theorem doMul_bad (a b : List UInt8) (w0 W : World) (g : Nat) (h : Wk w0 W g true) :
    Calls Tryz.prog 84 #[.pointer (some ⟨g, 0, none⟩), .func (.func 109) #[] #[], .string ⟨a.toArray⟩, .string ⟨b.toArray⟩] W fun e w' => e = .returned (.string ⟨#[]⟩) ∧ w' = W := by
  have hc := h.cell
  go_enter Tryz.func84, Tryz.ntmps84
  go_wp2
  go_ret
  exact ⟨rfl, rfl⟩
set_option maxRecDepth 100000 in
set_option maxHeartbeats 1000000 in
theorem doMul_good (a b s : List UInt8) (e : Int) (w0 W : World) (g : Nat) (h : Wk w0 W g false)
    (hop : ∀ W', Below w0.heap.size w0 W' → Calls Tryz.prog 109 #[.string ⟨a.toArray⟩, .string ⟨b.toArray⟩] W' fun e' w' => e' = .returned (.tuple #[.string ⟨s.toArray⟩, .int .i64 e]) ∧ Below W'.heap.size W' w') :
    Calls Tryz.prog 84 #[.pointer (some ⟨g, 0, none⟩), .func (.func 109) #[] #[], .string ⟨a.toArray⟩, .string ⟨b.toArray⟩] W fun e' w' => e' = .returned (.string ⟨s.toArray⟩) ∧ Wk w0 w' g (e != 0) ∧ Ks g W w' := by
  have hc := h.cell
  have hO := hop W h.hb
  clear hop
  go_enter Tryz.func84, Tryz.ntmps84
  go_wp2_with fail
  refine hO.mono ?_
  rintro _ w1 ⟨rfl, hb1⟩
  have h1 := h.call hb1
  have hc1 := h1.cell
  have hf1 := h1.frozen
  have h2 := h1.set (e != 0)
  have hk := (Ks.of (g := g) hb1).set h1.bx.lt (.bool (e != 0))
  clear hO hc h hb1
  go_wp2
  go_ret
  exact ⟨rfl, h2, hk⟩
set_option maxRecDepth 100000 in
set_option maxHeartbeats 1000000 in
theorem doSub_bad (a b : List UInt8) (w0 W : World) (g : Nat) (h : Wk w0 W g true) :
    Calls Tryz.prog 84 #[.pointer (some ⟨g, 0, none⟩), .func (.func 110) #[] #[], .string ⟨a.toArray⟩, .string ⟨b.toArray⟩] W fun e w' => e = .returned (.string ⟨#[]⟩) ∧ w' = W := by
  have hc := h.cell
  go_enter Tryz.func84, Tryz.ntmps84
  go_wp2
  go_ret
  exact ⟨rfl, rfl⟩
set_option maxRecDepth 100000 in
set_option maxHeartbeats 1000000 in
theorem doSub_good (a b s : List UInt8) (e : Int) (w0 W : World) (g : Nat) (h : Wk w0 W g false)
    (hop : ∀ W', Below w0.heap.size w0 W' → Calls Tryz.prog 110 #[.string ⟨a.toArray⟩, .string ⟨b.toArray⟩] W' fun e' w' => e' = .returned (.tuple #[.string ⟨s.toArray⟩, .int .i64 e]) ∧ Below W'.heap.size W' w') :
    Calls Tryz.prog 84 #[.pointer (some ⟨g, 0, none⟩), .func (.func 110) #[] #[], .string ⟨a.toArray⟩, .string ⟨b.toArray⟩] W fun e' w' => e' = .returned (.string ⟨s.toArray⟩) ∧ Wk w0 w' g (e != 0) ∧ Ks g W w' := by
  have hc := h.cell
  have hO := hop W h.hb
  clear hop
  go_enter Tryz.func84, Tryz.ntmps84
  go_wp2_with fail
  refine hO.mono ?_
  rintro _ w1 ⟨rfl, hb1⟩
  have h1 := h.call hb1
  have hc1 := h1.cell
  have hf1 := h1.frozen
  have h2 := h1.set (e != 0)
  have hk := (Ks.of (g := g) hb1).set h1.bx.lt (.bool (e != 0))
  clear hO hc h hb1
  go_wp2
  go_ret
  exact ⟨rfl, h2, hk⟩
set_option maxRecDepth 100000 in
set_option maxHeartbeats 1000000 in
theorem doGcd_bad (a b : List UInt8) (w0 W : World) (g : Nat) (h : Wk w0 W g true) :
    Calls Tryz.prog 84 #[.pointer (some ⟨g, 0, none⟩), .func (.func 93) #[] #[], .string ⟨a.toArray⟩, .string ⟨b.toArray⟩] W fun e w' => e = .returned (.string ⟨#[]⟩) ∧ w' = W := by
  have hc := h.cell
  go_enter Tryz.func84, Tryz.ntmps84
  go_wp2
  go_ret
  exact ⟨rfl, rfl⟩
set_option maxRecDepth 100000 in
set_option maxHeartbeats 1000000 in
theorem doGcd_good (a b s : List UInt8) (e : Int) (w0 W : World) (g : Nat) (h : Wk w0 W g false)
    (hop : ∀ W', Below w0.heap.size w0 W' → Calls Tryz.prog 93 #[.string ⟨a.toArray⟩, .string ⟨b.toArray⟩] W' fun e' w' => e' = .returned (.tuple #[.string ⟨s.toArray⟩, .int .i64 e]) ∧ Below W'.heap.size W' w') :
    Calls Tryz.prog 84 #[.pointer (some ⟨g, 0, none⟩), .func (.func 93) #[] #[], .string ⟨a.toArray⟩, .string ⟨b.toArray⟩] W fun e' w' => e' = .returned (.string ⟨s.toArray⟩) ∧ Wk w0 w' g (e != 0) ∧ Ks g W w' := by
  have hc := h.cell
  have hO := hop W h.hb
  clear hop
  go_enter Tryz.func84, Tryz.ntmps84
  go_wp2_with fail
  refine hO.mono ?_
  rintro _ w1 ⟨rfl, hb1⟩
  have h1 := h.call hb1
  have hc1 := h1.cell
  have hf1 := h1.frozen
  have h2 := h1.set (e != 0)
  have hk := (Ks.of (g := g) hb1).set h1.bx.lt (.bool (e != 0))
  clear hO hc h hb1
  go_wp2
  go_ret
  exact ⟨rfl, h2, hk⟩
set_option maxRecDepth 100000 in
set_option maxHeartbeats 1000000 in
theorem doAdd_bad (a b : List UInt8) (w0 W : World) (g : Nat) (h : Wk w0 W g true) :
    Calls Tryz.prog 84 #[.pointer (some ⟨g, 0, none⟩), .func (.func 67) #[] #[], .string ⟨a.toArray⟩, .string ⟨b.toArray⟩] W fun e w' => e = .returned (.string ⟨#[]⟩) ∧ w' = W := by
  have hc := h.cell
  go_enter Tryz.func84, Tryz.ntmps84
  go_wp2
  go_ret
  exact ⟨rfl, rfl⟩
set_option maxRecDepth 100000 in
set_option maxHeartbeats 1000000 in
theorem doAdd_good (a b s : List UInt8) (e : Int) (w0 W : World) (g : Nat) (h : Wk w0 W g false)
    (hop : ∀ W', Below w0.heap.size w0 W' → Calls Tryz.prog 67 #[.string ⟨a.toArray⟩, .string ⟨b.toArray⟩] W' fun e' w' => e' = .returned (.tuple #[.string ⟨s.toArray⟩, .int .i64 e]) ∧ Below W'.heap.size W' w') :
    Calls Tryz.prog 84 #[.pointer (some ⟨g, 0, none⟩), .func (.func 67) #[] #[], .string ⟨a.toArray⟩, .string ⟨b.toArray⟩] W fun e' w' => e' = .returned (.string ⟨s.toArray⟩) ∧ Wk w0 w' g (e != 0) ∧ Ks g W w' := by
  have hc := h.cell
  have hO := hop W h.hb
  clear hop
  go_enter Tryz.func84, Tryz.ntmps84
  go_wp2_with fail
  refine hO.mono ?_
  rintro _ w1 ⟨rfl, hb1⟩
  have h1 := h.call hb1
  have hc1 := h1.cell
  have hf1 := h1.frozen
  have h2 := h1.set (e != 0)
  have hk := (Ks.of (g := g) hb1).set h1.bx.lt (.bool (e != 0))
  clear hO hc h hb1
  go_wp2
  go_ret
  exact ⟨rfl, h2, hk⟩
set_option maxRecDepth 100000 in
set_option maxHeartbeats 1000000 in
theorem doQuo_bad (a b : List UInt8) (w0 W : World) (g : Nat) (h : Wk w0 W g true) :
    Calls Tryz.prog 84 #[.pointer (some ⟨g, 0, none⟩), .func (.func 142) #[] #[], .string ⟨a.toArray⟩, .string ⟨b.toArray⟩] W fun e w' => e = .returned (.string ⟨#[]⟩) ∧ w' = W := by
  have hc := h.cell
  go_enter Tryz.func84, Tryz.ntmps84
  go_wp2
  go_ret
  exact ⟨rfl, rfl⟩
set_option maxRecDepth 100000 in
set_option maxHeartbeats 1000000 in
theorem doQuo_good (a b s : List UInt8) (e : Int) (w0 W : World) (g : Nat) (h : Wk w0 W g false)
    (hop : ∀ W', Below w0.heap.size w0 W' → Calls Tryz.prog 142 #[.string ⟨a.toArray⟩, .string ⟨b.toArray⟩] W' fun e' w' => e' = .returned (.tuple #[.string ⟨s.toArray⟩, .int .i64 e]) ∧ Below W'.heap.size W' w') :
    Calls Tryz.prog 84 #[.pointer (some ⟨g, 0, none⟩), .func (.func 142) #[] #[], .string ⟨a.toArray⟩, .string ⟨b.toArray⟩] W fun e' w' => e' = .returned (.string ⟨s.toArray⟩) ∧ Wk w0 w' g (e != 0) ∧ Ks g W w' := by
  have hc := h.cell
  have hO := hop W h.hb
  clear hop
  go_enter Tryz.func84, Tryz.ntmps84
  go_wp2_with fail
  refine hO.mono ?_
  rintro _ w1 ⟨rfl, hb1⟩
  have h1 := h.call hb1
  have hc1 := h1.cell
  have hf1 := h1.frozen
  have h2 := h1.set (e != 0)
  have hk := (Ks.of (g := g) hb1).set h1.bx.lt (.bool (e != 0))
  clear hO hc h hb1
  go_wp2
  go_ret
  exact ⟨rfl, h2, hk⟩
set_option maxRecDepth 100000 in
set_option maxHeartbeats 1000000 in
theorem mul_bad (a b : List UInt8) (w0 W : World) (g : Nat) (h : Wk w0 W g true) :
    Calls Tryz.prog 85 #[.pointer (some ⟨g, 0, none⟩), .string ⟨a.toArray⟩, .string ⟨b.toArray⟩] W fun e w' => e = .returned (.string ⟨#[]⟩) ∧ w' = W := by
  have hD := doMul_bad a b w0 W g h
  clear h
  go_enter Tryz.func85, Tryz.ntmps85
  go_wp2_with fail
  refine hD.mono ?_
  rintro _ w1 ⟨rfl, rfl⟩
  clear hD
  go_wp2
  go_ret
  exact ⟨rfl, rfl⟩
set_option maxRecDepth 100000 in
set_option maxHeartbeats 1000000 in
theorem quo_bad (a b : List UInt8) (w0 W : World) (g : Nat) (h : Wk w0 W g true) :
    Calls Tryz.prog 111 #[.pointer (some ⟨g, 0, none⟩), .string ⟨a.toArray⟩, .string ⟨b.toArray⟩] W fun e w' => e = .returned (.string ⟨#[]⟩) ∧ w' = W := by
  have hD := doQuo_bad a b w0 W g h
  clear h
  go_enter Tryz.func111, Tryz.ntmps111
  go_wp2_with fail
  refine hD.mono ?_
  rintro _ w1 ⟨rfl, rfl⟩
  clear hD
  go_wp2
  go_ret
  exact ⟨rfl, rfl⟩
end Go.Proofs.YtfebcokmnhdbmaaGreatDoor
namespace Go.Proofs.YtfebcokmnhdbmaaGreatDoor
set_option linter.unusedVariables false
set_option linter.unusedSimpArgs false
open Go.RowKit
set_option maxRecDepth 100000 in
set_option maxHeartbeats 1000000 in
theorem trimmed_any (l : List Int) (A : Option Addr) (cap : Nat) (w : World) (hA : At 1 intC w w.heap.size A l) (hn : l.length ≤ cap) (hl : l.length ≤ 1000000) :
    Calls Tryz.prog 122 #[.slice A l.length cap] w fun e w' => e = .returned (.slice A (Ig.trimG l).length cap) ∧ w = w' := by
  go_enter Tryz.func122, Tryz.ntmps122
  go_wp2
  go_loop [0] (fun s => ∃ k : Nat, k ≤ l.length ∧ s = .slice A k cap ∧ Hid (Ig.trimG (l.take k) = Ig.trimG l)) (fun s => match s with | .slice _ k _ => k | _ => 0)
  case atStart => exact ⟨l.length, Nat.le_refl _, rfl, Lib.hid (by rw [List.take_length])⟩
  case round =>
    obtain ⟨k, hk, rfl, ht⟩ := hrel
    by_cases h0 : 0 < k
    · obtain ⟨b, off, rfl, hbB, hcell⟩ := hA (by omega)
      obtain ⟨k, rfl⟩ : ∃ j, k = j + 1 := ⟨k - 1, by omega⟩
      have hck : l[k]? = some l[k] := List.getElem?_eq_getElem (by omega)
      have c0 : w.cell? ⟨b, off + k, none⟩ = some (.int .i64 l[k]) := by
        have := hcell k _ hck 0 _ rfl
        simpa using this
      have hsn := List.take_succ_eq_append_getElem (show k < l.length by omega)
      by_cases hz : l[k] = 0
      · have t1 : (l[k] == 0) = true := by simp [hz]
        have hnext := Lib.hid (show Ig.trimG (l.take k) = Ig.trimG l by rw [← ht.out, hsn, hz, Ig.trimG_snoc_zero])
        clear hck hcell hsn hz ht
        generalize l[k] = g at *
        go_wp2
        exact ⟨⟨k, by omega, rfl, hnext⟩, Nat.lt_succ_self k⟩
      · have t1 : (l[k] == 0) = false := by simp [hz]
        have hfin : Kp ((Ig.trimG l).length = k + 1) := ⟨by rw [← ht.out, hsn, Ig.trimG_snoc hz]; simp; omega⟩
        clear hck hcell hsn hz ht
        generalize l[k] = g at *
        go_wp2
        go_ret
        exact ⟨by rw [hfin.out]; rfl, rfl⟩
    · obtain rfl : k = 0 := by omega
      have hfin : Kp ((Ig.trimG l).length = 0) := ⟨by rw [← ht.out]; rfl⟩
      clear ht
      go_wp2
      go_ret
      exact ⟨by rw [hfin.out]; rfl, rfl⟩
theorem trim_take (l : List Int) : l.take (Ig.trimG l).length = Ig.trimG l := by
  have h : ∀ n (l : List Int), l.length = n → Ig.trimG l <+: l := by
    intro n
    induction n with
    | zero => intro l h; rw [List.length_eq_zero_iff.1 h]; exact List.prefix_refl _
    | succ n ih =>
      intro l h
      rcases Ig.snoc_cases l with rfl | ⟨m, g, rfl⟩
      · exact List.prefix_refl _
      · by_cases hg : g = 0
        · subst hg
          rw [Ig.trimG_snoc_zero]
          exact (ih m (by simpa using h)).trans (List.prefix_append _ _)
        · rw [Ig.trimG_snoc hg]; exact List.prefix_refl _
  exact (List.prefix_iff_eq_take.1 (h _ l rfl)).symm
theorem wpList_append_nums {w : World} {ops : Array Oper} {rest : List Oper} {o : Oper} {a : Act} {Q : Exit → Act → World → Prop} (hgd : o.guard = none) (s y : Operand) (ho : o.op = .call { callee := .builtin .append, args := #[s, y], argTypes := #[112, 112] })
    (B cap n m : Nat) (flat news : List Value) (v x : Value) (hes : a.eval s = v) (hey : a.eval y = x) (hv : RowC 3 1 B cap n flat v w) (hB : B ≤ w.heap.size) (hs : Src Tryz.prog 1 112 x m news w) (hcm : cap ≤ maxLen) (h63 : n + m ≤ 2000000)
    (h : ∀ v' w' cap', Below B w w' → (n = cap → Below w.heap.size w w') → RowC 3 1 B cap' (n + m) (flat ++ news) v' w' → cap' ≤ maxLen → wpList Tryz.prog ops Q rest (a.put o.dst v') w') : wpList Tryz.prog ops Q (o :: rest) a w := by
  obtain ⟨i, z, hi, hz, hs1, hz1, hby⟩ := intI
  exact wpList_append_row hgd s y _ _ ho i z 1 B cap n m flat news v x Tryz.underlying112 hi hz hs1 hz1 hes hey hv hB hs hcm (by unfold maxLen; omega) (by rw [hby]; omega) h
/-- one fresh cell is a source -/
theorem src_one (W : World) (x : Int) : Src Tryz.prog 1 112 (.slice (some ⟨W.heap.size, 0, none⟩) 1 1) 1 [.int .i64 x] (W.alloc (.cells #[.int .i64 x] 3)) :=
  RowC.src (B := W.heap.size) (cap := 1) (e := 3) (fun u hu => by simp at hu; subst hu; rfl) Tryz.underlying112 ⟨W.heap.size, _, rfl, Nat.le_refl _, Nat.le_refl _, Bx.mk _ _ _, rfl, rfl⟩
/-- a number in memory -/
structure NumAt (W : World) (a : Nat) (v : Value) : Prop where
  out : ∃ (A : Option Addr) (cap : Nat), v = .slice A (Ig.grp a).length cap ∧ At 1 intC W W.heap.size A (Ig.grp a) ∧ (Ig.grp a).length ≤ cap ∧ cap ≤ maxLen
theorem NumAt.call {W W' : World} {a : Nat} {v : Value} (h : NumAt W a v) (hb : Below W.heap.size W W') : NumAt W' a v := by
  obtain ⟨A, cap, h1, h2, h3, h4⟩ := h.out
  exact ⟨A, cap, h1, (h2.below hb).more hb.size, h3, h4⟩
/-- .. it is not too great for the walk -/
def Len (a : Nat) : Prop := (Ig.grp a).length ≤ 100000
set_option maxRecDepth 100000 in
set_option maxHeartbeats 1000000 in
theorem at_any (l : List Int) (A : Option Addr) (cap i : Nat) (w : World) (hA : At 1 intC w w.heap.size A l) (hn : l.length ≤ cap) (hl : l.length ≤ 1000000) (hi : i ≤ 1000000) :
    Calls Tryz.prog 128 #[.slice A l.length cap, .int .i64 i] w fun e w' => e = .returned (.int .i64 (Ig.atG l i)) ∧ w = w' := by
  by_cases hlt : i < l.length
  · obtain ⟨b, off, rfl, hbB, hcell⟩ := hA (by omega)
    have hck : l[i]? = some l[i] := List.getElem?_eq_getElem hlt
    have c0 : w.cell? ⟨b, off + i, none⟩ = some (.int .i64 l[i]) := by
      have := hcell i _ hck 0 _ rfl
      simpa using this
    have hfin : Kp (Ig.atG l i = l[i]) := ⟨Ig.atG_lt hlt⟩
    clear hck hcell
    generalize l[i] = g at *
    go_enter Tryz.func128, Tryz.ntmps128
    go_wp2
    go_ret
    exact ⟨ret_int hfin.out.symm, rfl⟩
  · have hfin : Kp (Ig.atG l i = 0) := ⟨Ig.atG_ge (by omega)⟩
    go_enter Tryz.func128, Tryz.ntmps128
    go_wp2
    go_ret
    exact ⟨ret_int hfin.out.symm, rfl⟩
/-- what a closure over two numbers finds in its boxes; all of it lies below B -/
structure Two (B : Nat) (W : World) (b1 b2 : Nat) (l m : List Int) : Prop where
  out : ∃ A1 c1 A2 c2, Bx W b1 112 #[.slice A1 l.length c1] ∧ Bx W b2 112 #[.slice A2 m.length c2] ∧ At 1 intC W B A1 l ∧ At 1 intC W B A2 m ∧ l.length ≤ c1 ∧ m.length ≤ c2
  lt1 : b1 < B
  lt2 : b2 < B
  le : B ≤ W.heap.size
theorem Two.call {B : Nat} {W W' : World} {b1 b2 : Nat} {l m : List Int} (h : Two B W b1 b2 l m) (hb : Below B W W') : Two B W' b1 b2 l m := by
  obtain ⟨A1, c1, A2, c2, h1, h2, h3, h4, h5, h6⟩ := h.out
  exact ⟨⟨A1, c1, A2, c2, h1.below hb h.lt1, h2.below hb h.lt2, h3.below hb, h4.below hb, h5, h6⟩, h.lt1, h.lt2, Nat.le_trans h.le hb.size⟩
set_option maxRecDepth 100000 in
set_option maxHeartbeats 1000000 in
theorem plusIn_any (B : Nat) (l m : List Int) (b1 b2 i : Nat) (w : World) (h : Two B w b1 b2 l m) (hl : l.length ≤ 100000) (hm : m.length ≤ 100000) (gl : Ig.Gr l) (gm : Ig.Gr m) (hi : i ≤ 1000000) :
    Calls Tryz.prog 127 #[.int .i64 i, .pointer (some ⟨b1, 0, none⟩), .pointer (some ⟨b2, 0, none⟩)] w fun e w' => e = .returned (.int .i64 (Ig.atG l i + Ig.atG m i)) ∧ Below w.heap.size w w' := by
  obtain ⟨A1, c1, A2, c2, B1, B2, h3, h4, h5, h6⟩ := h.out
  replace h3 := h3.more h.le; replace h4 := h4.more h.le
  have x1 := Ig.atG_in gl i
  have x2 := Ig.atG_in gm i
  have k1 := fun d os => at_any l A1 c1 i (Sort.grow (redrawn w d) os) ((h3.below (below_regrown w d os)).more (below_regrown w d os).size) h5 (by omega) hi
  have k2 := fun d os => at_any m A2 c2 i (Sort.grow (redrawn w d) os) ((h4.below (below_regrown w d os)).more (below_regrown w d os).size) h6 (by omega) hi
  have g1 := fun d os => (B1.again d os).cell 0 rfl
  have g2 := fun d os => (B2.again d os).cell 0 rfl
  clear h h3 h4 B1 B2
  generalize Ig.atG l i = p at *
  generalize Ig.atG m i = q at *
  go_enter Tryz.func127, Tryz.ntmps127
  go_wp2
  refine wp_region_quiet_below (by kernel_rfl) (by kernel_rfl) ?_
  repeat (go_big_quiet_step (first
    | (go_at_call 128; with_reducible exact Calls.regrown_of (calls_below (k1 _ _)))
    | (go_at_call 128; with_reducible exact Calls.regrown_of (calls_below (k2 _ _)))))
  refine wpQuiet_nil ?_
  rintro _ ⟨z, rfl⟩
  go_wp2
  go_ret
  exact ⟨rfl, below_regrown w z.d z.os⟩
set_option maxRecDepth 100000 in
set_option maxHeartbeats 1000000 in
theorem minusIn_any (B : Nat) (l m : List Int) (b1 b2 i : Nat) (w : World) (h : Two B w b1 b2 l m) (hl : l.length ≤ 100000) (hm : m.length ≤ 100000) (gl : Ig.Gr l) (gm : Ig.Gr m) (hi : i ≤ 1000000) :
    Calls Tryz.prog 129 #[.int .i64 i, .pointer (some ⟨b1, 0, none⟩), .pointer (some ⟨b2, 0, none⟩)] w fun e w' => e = .returned (.int .i64 (Ig.atG l i - Ig.atG m i)) ∧ Below w.heap.size w w' := by
  obtain ⟨A1, c1, A2, c2, B1, B2, h3, h4, h5, h6⟩ := h.out
  replace h3 := h3.more h.le; replace h4 := h4.more h.le
  have x1 := Ig.atG_in gl i
  have x2 := Ig.atG_in gm i
  have k1 := fun d os => at_any l A1 c1 i (Sort.grow (redrawn w d) os) ((h3.below (below_regrown w d os)).more (below_regrown w d os).size) h5 (by omega) hi
  have k2 := fun d os => at_any m A2 c2 i (Sort.grow (redrawn w d) os) ((h4.below (below_regrown w d os)).more (below_regrown w d os).size) h6 (by omega) hi
  have g1 := fun d os => (B1.again d os).cell 0 rfl
  have g2 := fun d os => (B2.again d os).cell 0 rfl
  clear h h3 h4 B1 B2
  generalize Ig.atG l i = p at *
  generalize Ig.atG m i = q at *
  go_enter Tryz.func129, Tryz.ntmps129
  go_wp2
  refine wp_region_quiet_below (by kernel_rfl) (by kernel_rfl) ?_
  repeat (go_big_quiet_step (first
    | (go_at_call 128; with_reducible exact Calls.regrown_of (calls_below (k1 _ _)))
    | (go_at_call 128; with_reducible exact Calls.regrown_of (calls_below (k2 _ _)))))
  refine wpQuiet_nil ?_
  rintro _ ⟨z, rfl⟩
  go_wp2
  go_ret
  exact ⟨rfl, below_regrown w z.d z.os⟩
/-- what a closure over a number and a factor finds in its boxes; all of it lies below B -/
structure OneBy (B : Nat) (W : World) (b1 b2 : Nat) (l : List Int) (n : Int) : Prop where
  out : ∃ A1 c1, Bx W b1 112 #[.slice A1 l.length c1] ∧ Bx W b2 3 #[.int .i64 n] ∧ At 1 intC W B A1 l ∧ l.length ≤ c1
  lt1 : b1 < B
  lt2 : b2 < B
  le : B ≤ W.heap.size
theorem OneBy.call {B : Nat} {W W' : World} {b1 b2 : Nat} {l : List Int} {n : Int} (h : OneBy B W b1 b2 l n) (hb : Below B W W') : OneBy B W' b1 b2 l n := by
  obtain ⟨A1, c1, h1, h2, h3, h5⟩ := h.out
  exact ⟨⟨A1, c1, h1.below hb h.lt1, h2.below hb h.lt2, h3.below hb, h5⟩, h.lt1, h.lt2, Nat.le_trans h.le hb.size⟩
set_option maxRecDepth 100000 in
set_option maxHeartbeats 1000000 in
theorem byIn_any (B : Nat) (l : List Int) (n : Int) (b1 b2 i : Nat) (w : World) (h : OneBy B w b1 b2 l n) (hl : l.length ≤ 100000) (gl : Ig.Gr l) (n0 : 0 ≤ n) (n1 : n ≤ 10000) (hi : i ≤ 1000000) :
    Calls Tryz.prog 156 #[.int .i64 i, .pointer (some ⟨b1, 0, none⟩), .pointer (some ⟨b2, 0, none⟩)] w fun e w' => e = .returned (.int .i64 (Ig.atG l i * n)) ∧ Below w.heap.size w w' := by
  obtain ⟨A1, c1, B1, B2, h3, h5⟩ := h.out
  replace h3 := h3.more h.le
  have x1 := Ig.atG_in gl i
  have k1 := fun d os => at_any l A1 c1 i (Sort.grow (redrawn w d) os) ((h3.below (below_regrown w d os)).more (below_regrown w d os).size) h5 (by omega) hi
  have g1 := fun d os => (B1.again d os).cell 0 rfl
  have g2 := fun d os => (B2.again d os).cell 0 rfl
  clear h h3 B1 B2
  generalize Ig.atG l i = p at *
  have hm : 0 ≤ p * n ∧ p * n ≤ 100000000 := by
    refine ⟨Int.mul_nonneg x1.1 n0, ?_⟩
    have := Int.mul_le_mul (show p ≤ 10000 by omega) n1 n0 (by omega)
    omega
  obtain ⟨hm0, hm1⟩ := hm
  go_enter Tryz.func156, Tryz.ntmps156
  go_wp2
  refine wp_region_quiet_below (by kernel_rfl) (by kernel_rfl) ?_
  repeat (go_big_quiet_step (first
    | (go_at_call 128; with_reducible exact Calls.regrown_of (calls_below (k1 _ _)))))
  refine wpQuiet_nil ?_
  rintro _ ⟨z, rfl⟩
  have hw : IntKind.i64.wrap (p * n) = p * n := IntWalk.i64_in _ (by omega)
  go_wp2
  go_ret
  exact ⟨by simp [hw], below_regrown w z.d z.os⟩
end Go.Proofs.YtfebcokmnhdbmaaGreatDoor
namespace Go.Proofs.YtfebcokmnhdbmaaGreatDoor
set_option linter.unusedVariables false
set_option linter.unusedSimpArgs false
open Go.RowKit
set_option maxRecDepth 100000 in
set_option maxHeartbeats 2000000 in
theorem foldPlus_any (n : Nat) (d : Nat → Int) (b1 b2 : Nat) (I : World → Prop) (w : World) (hI : ∀ W W', I W → Below w.heap.size W W' → I W')
    (hcall : ∀ (W : World) (i : Nat), I W → i ≤ 1000000 → Calls Tryz.prog 127 #[.int .i64 i, .pointer (some ⟨b1, 0, none⟩), .pointer (some ⟨b2, 0, none⟩)] W fun e w' => e = .returned (.int .i64 (d i)) ∧ Below W.heap.size W w')
    (hd : ∀ i, -9999 ≤ d i ∧ d i ≤ 100000000) (h0 : ∀ i, n ≤ i → d i = 0) (hpos : 0 ≤ Ig.dsum d n) (hn : n ≤ 100000) (hIw : I w) :
    Calls Tryz.prog 126 #[.int .i64 n, .int .i64 0, .func (.func 127) #[] #[.pointer (some ⟨b1, 0, none⟩), .pointer (some ⟨b2, 0, none⟩)]] w fun e w' =>
      ∃ (A : Option Addr) (out : List Int) (cap : Nat), e = .returned (.slice A out.length cap) ∧ At 1 intC w' w'.heap.size A out ∧ out.length ≤ cap ∧ cap ≤ maxLen ∧ out.length ≤ n + 2 ∧ Kp (Ig.trimG out = Ig.grp (Ig.dsum d n).toNat) ∧ Below w.heap.size w w' := by
  obtain ⟨ti, z, hi, hz, hs1, hz1, hby⟩ := intI
  have hmk := run_makeSlice (P := Tryz.prog) (w := w) 112 3 ti z Tryz.underlying112 hi hz .i64 .i64 0 ((n : Int) + 1) (Int.le_refl _) (by omega) (by rw [hs1]; omega) (by rw [hby]; omega) (by omega)
  rw [hs1, Nat.mul_one, show ((n : Int) + 1).toNat = n + 1 by omega, show (0 : Int).toNat = 0 from rfl] at hmk
  have hcs : (madeCells z.cells (n + 1)).size = n + 1 := by rw [size_madeCells]
  generalize madeCells z.cells (n + 1) = cs at *
  clear hi hz hs1 hz1 hby
  have hrow : RowC 3 1 w.heap.size (n + 1) 0 [] (.slice (some ⟨w.heap.size, 0, none⟩) 0 (n + 1)) (w.alloc (.cells cs 3)) :=
    ⟨w.heap.size, _, rfl, Nat.le_refl _, Nat.zero_le _, Bx.mk _ _ _, by omega, rfl⟩
  have hI1 := hI w _ hIw (bNewW w (.cells cs 3))
  have hb1 := bNewW w (.cells cs 3)
  go_enter Tryz.func126, Tryz.ntmps126
  go_wp2
  clear hmk hIw
  generalize (w.alloc (.cells cs 3)) = w1 at *
  go_loopw [1, 7, 8, 9] (fun s1 s7 s8 s9 wr => ∃ (i cap : Nat) (out : List Int) (carry : Int), s8 = .int .i64 i ∧ s1 = .int .i64 carry ∧ RowC 3 1 w.heap.size cap out.length (out.flatMap intC) s7 wr ∧ cap ≤ maxLen ∧ i ≤ n + 2 ∧ -1 ≤ carry ∧ carry ≤ 20000 ∧ (i = n + 1 → carry ≤ 2) ∧ (i = n + 2 → carry = 0) ∧ (n ≤ i → 0 ≤ carry) ∧ Kp (out.length = i) ∧ out.length ≤ n + 2 ∧ Kp (Ig.FoldAt d i out carry) ∧ I wr ∧ Below w.heap.size w wr)
    (fun s1 s7 s8 s9 _ => (n + 3 - (intOf s8).toNat))
  case atStart => exact ⟨0, n + 1, [], 0, rfl, rfl, hrow, by unfold maxLen; omega, by omega, by omega, by omega, by omega, by omega, by omega, ⟨rfl⟩, by simp, ⟨Ig.fold_start d⟩, hI1, hb1⟩
  case round =>
    clear hrow hI1 hb1
    obtain ⟨i, cap, out, carry, rfl, rfl, hrow, hcm, hi2, hc1, hc2, hc3, hc4, hc5, hol, hol2, hf, hIr, hb⟩ := hrel
    by_cases hstop : n ≤ i ∧ carry = 0
    · obtain ⟨hni, rfl⟩ := hstop
      have t0 : decide ((i : Int) < (n : Int)) = false := by simp; omega
      have hnl : ¬ i < n := by omega
      have hfin : Kp (Ig.trimG out = Ig.grp (Ig.dsum d n).toNat) := ⟨by rw [Ig.fold_end hf.out, Ig.dsum_gap h0 hni]⟩
      obtain ⟨A2, rfl, hA2, hlen2⟩ := RowC.at (f := intC) (fun _ => rfl) hrow
      clear hf hcall hI
      go_wp2
      go_ret
      exact ⟨A2, out, cap, rfl, hA2, hlen2, hcm, hol2, hfin, hb⟩
    · have hdi := hd i
      have hz0 : n ≤ i → d i = 0 := h0 i
      have hrun : (i < n ∨ (¬ i < n ∧ carry ≠ 0)) := by omega
      have hnext := Ig.fold_step hf.out
      have hcp : n ≤ i + 1 → 0 ≤ (d i + carry) / 10000 := fun h => Ig.fold_carry hnext (by rw [Ig.dsum_gap h0 h]; exact hpos)
      have hns : i ≠ n + 2 := by omega
      have hbig : i ≤ 1000000 := by omega
      have hob : out.length + 1 ≤ 1000000 := by omega
      have hc := hcall wr i hIr hbig
      clear hcall hstop hf
      generalize hdd : d i = di at *
      have hi9 : out.length ≤ i := by have := hol.out; omega
      have hi8 : Kp (out.length = i) := hol
      clear hol
      rcases hrun with hlt | ⟨hge, hne⟩
      · have t0 : decide ((i : Int) < (n : Int)) = true := by simp; omega
        rcases (show (di + carry < 0) ∨ (0 ≤ di + carry ∧ di + carry < 10000) ∨ 10000 ≤ di + carry by omega) with hs | ⟨hs, hs'⟩ | hs
        · have t1 : decide (di + carry < 0) = true := by simp; omega
          go_wp2_with fail
          refine hc.mono ?_
          rintro _ w2 ⟨rfl, hb2⟩
          replace hrow := stab_rowC _ _ _ _ _ _ _ _ _ hrow hb2
          replace hIr := hI _ _ hIr (hb2.mono hb.size)
          replace hb := bCall hb hb2
          clear hc hb2
          go_wp2_with (at_builtin; refine wpList_append_nums rfl (.tmp 37) (.tmp 39) rfl w.heap.size cap out.length 1 (out.flatMap intC) [.int .i64 (di + carry + 10000)] _ _ rfl rfl (stab_rowC _ _ _ _ _ _ _ _ _ hrow (bNewW w2 _)) (by rw [alloc_size]; have := hb.size; omega) (src_one w2 _) hcm (by omega) ?_; intro v' w' cap' e1 e2 e3 e4)
          replace hIr := hI _ _ hIr (((bNewW w2 (.cells #[.int .i64 (di + carry + 10000)] 3))).mono hb.size)
          replace hIr := hI _ _ hIr e1
          have hb9 := (bNew hb (.cells #[.int .i64 (di + carry + 10000)] 3)).trans e1
          refine ⟨⟨i + 1, cap', out ++ [di + carry + 10000], (-1), by go_num, rfl, by simpa [intC] using e3, e4, by omega, by omega, by omega, by omega, by omega, ?_, ⟨by simp; exact hi8.out⟩, by simp; omega, ⟨?_⟩, hIr, hb9⟩, by simp [intOf]; omega⟩
          · intro h; have := hcp h; omega
          · have h1 : (di + carry) % 10000 = di + carry + 10000 := by omega
            have h2 : (di + carry) / 10000 = (-1) := by omega
            rw [h1, h2] at hnext; exact hnext
        · have t1 : decide (di + carry < 0) = false := by simp; omega
          have t2 : decide (di + carry ≥ 10000) = false := by simp; omega
          go_wp2_with fail
          refine hc.mono ?_
          rintro _ w2 ⟨rfl, hb2⟩
          replace hrow := stab_rowC _ _ _ _ _ _ _ _ _ hrow hb2
          replace hIr := hI _ _ hIr (hb2.mono hb.size)
          replace hb := bCall hb hb2
          clear hc hb2
          go_wp2_with (at_builtin; refine wpList_append_nums rfl (.tmp 37) (.tmp 39) rfl w.heap.size cap out.length 1 (out.flatMap intC) [.int .i64 (di + carry)] _ _ rfl rfl (stab_rowC _ _ _ _ _ _ _ _ _ hrow (bNewW w2 _)) (by rw [alloc_size]; have := hb.size; omega) (src_one w2 _) hcm (by omega) ?_; intro v' w' cap' e1 e2 e3 e4)
          replace hIr := hI _ _ hIr (((bNewW w2 (.cells #[.int .i64 (di + carry)] 3))).mono hb.size)
          replace hIr := hI _ _ hIr e1
          have hb9 := (bNew hb (.cells #[.int .i64 (di + carry)] 3)).trans e1
          refine ⟨⟨i + 1, cap', out ++ [di + carry], 0, by go_num, rfl, by simpa [intC] using e3, e4, by omega, by omega, by omega, by omega, by omega, ?_, ⟨by simp; exact hi8.out⟩, by simp; omega, ⟨?_⟩, hIr, hb9⟩, by simp [intOf]; omega⟩
          · intro h; have := hcp h; omega
          · have h1 : (di + carry) % 10000 = di + carry := by omega
            have h2 : (di + carry) / 10000 = 0 := by omega
            rw [h1, h2] at hnext; exact hnext
        · have t1 : decide (di + carry < 0) = false := by simp; omega
          have t2 : decide (di + carry ≥ 10000) = true := by simp; omega
          go_wp2_with fail
          refine hc.mono ?_
          rintro _ w2 ⟨rfl, hb2⟩
          replace hrow := stab_rowC _ _ _ _ _ _ _ _ _ hrow hb2
          replace hIr := hI _ _ hIr (hb2.mono hb.size)
          replace hb := bCall hb hb2
          clear hc hb2
          go_wp2_with (at_builtin; refine wpList_append_nums rfl (.tmp 37) (.tmp 39) rfl w.heap.size cap out.length 1 (out.flatMap intC) [.int .i64 ((di + carry) % 10000)] _ _ rfl rfl (stab_rowC _ _ _ _ _ _ _ _ _ hrow (bNewW w2 _)) (by rw [alloc_size]; have := hb.size; omega) (src_one w2 _) hcm (by omega) ?_; intro v' w' cap' e1 e2 e3 e4)
          replace hIr := hI _ _ hIr (((bNewW w2 (.cells #[.int .i64 ((di + carry) % 10000)] 3))).mono hb.size)
          replace hIr := hI _ _ hIr e1
          have hb9 := (bNew hb (.cells #[.int .i64 ((di + carry) % 10000)] 3)).trans e1
          refine ⟨⟨i + 1, cap', out ++ [(di + carry) % 10000], ((di + carry) / 10000), by go_num, rfl, by simpa [intC] using e3, e4, by omega, by omega, by omega, by omega, by omega, ?_, ⟨by simp; exact hi8.out⟩, by simp; omega, ⟨?_⟩, hIr, hb9⟩, by simp [intOf]; omega⟩
          · intro h; have := hcp h; omega
          · have h1 : (di + carry) % 10000 = (di + carry) % 10000 := by omega
            have h2 : (di + carry) / 10000 = ((di + carry) / 10000) := by omega
            rw [h1, h2] at hnext; exact hnext
      · have t0 : decide ((i : Int) < (n : Int)) = false := by simp; omega
        have t9 : (carry != 0) = true := by simp [hne]
        clear hne
        rcases (show (di + carry < 0) ∨ (0 ≤ di + carry ∧ di + carry < 10000) ∨ 10000 ≤ di + carry by omega) with hs | ⟨hs, hs'⟩ | hs
        · exfalso
          have x1 := hz0 (by omega)
          have x2 := hc5 (by omega)
          omega
        · have t1 : decide (di + carry < 0) = false := by simp; omega
          have t2 : decide (di + carry ≥ 10000) = false := by simp; omega
          go_wp2_with fail
          refine hc.mono ?_
          rintro _ w2 ⟨rfl, hb2⟩
          replace hrow := stab_rowC _ _ _ _ _ _ _ _ _ hrow hb2
          replace hIr := hI _ _ hIr (hb2.mono hb.size)
          replace hb := bCall hb hb2
          clear hc hb2
          go_wp2_with (at_builtin; refine wpList_append_nums rfl (.tmp 37) (.tmp 39) rfl w.heap.size cap out.length 1 (out.flatMap intC) [.int .i64 (di + carry)] _ _ rfl rfl (stab_rowC _ _ _ _ _ _ _ _ _ hrow (bNewW w2 _)) (by rw [alloc_size]; have := hb.size; omega) (src_one w2 _) hcm (by omega) ?_; intro v' w' cap' e1 e2 e3 e4)
          replace hIr := hI _ _ hIr (((bNewW w2 (.cells #[.int .i64 (di + carry)] 3))).mono hb.size)
          replace hIr := hI _ _ hIr e1
          have hb9 := (bNew hb (.cells #[.int .i64 (di + carry)] 3)).trans e1
          refine ⟨⟨i + 1, cap', out ++ [di + carry], 0, by go_num, rfl, by simpa [intC] using e3, e4, by omega, by omega, by omega, by omega, by omega, ?_, ⟨by simp; exact hi8.out⟩, by simp; omega, ⟨?_⟩, hIr, hb9⟩, by simp [intOf]; omega⟩
          · intro h; have := hcp h; omega
          · have h1 : (di + carry) % 10000 = di + carry := by omega
            have h2 : (di + carry) / 10000 = 0 := by omega
            rw [h1, h2] at hnext; exact hnext
        · have t1 : decide (di + carry < 0) = false := by simp; omega
          have t2 : decide (di + carry ≥ 10000) = true := by simp; omega
          go_wp2_with fail
          refine hc.mono ?_
          rintro _ w2 ⟨rfl, hb2⟩
          replace hrow := stab_rowC _ _ _ _ _ _ _ _ _ hrow hb2
          replace hIr := hI _ _ hIr (hb2.mono hb.size)
          replace hb := bCall hb hb2
          clear hc hb2
          go_wp2_with (at_builtin; refine wpList_append_nums rfl (.tmp 37) (.tmp 39) rfl w.heap.size cap out.length 1 (out.flatMap intC) [.int .i64 ((di + carry) % 10000)] _ _ rfl rfl (stab_rowC _ _ _ _ _ _ _ _ _ hrow (bNewW w2 _)) (by rw [alloc_size]; have := hb.size; omega) (src_one w2 _) hcm (by omega) ?_; intro v' w' cap' e1 e2 e3 e4)
          replace hIr := hI _ _ hIr (((bNewW w2 (.cells #[.int .i64 ((di + carry) % 10000)] 3))).mono hb.size)
          replace hIr := hI _ _ hIr e1
          have hb9 := (bNew hb (.cells #[.int .i64 ((di + carry) % 10000)] 3)).trans e1
          refine ⟨⟨i + 1, cap', out ++ [(di + carry) % 10000], ((di + carry) / 10000), by go_num, rfl, by simpa [intC] using e3, e4, by omega, by omega, by omega, by omega, by omega, ?_, ⟨by simp; exact hi8.out⟩, by simp; omega, ⟨?_⟩, hIr, hb9⟩, by simp [intOf]; omega⟩
          · intro h; have := hcp h; omega
          · have h1 : (di + carry) % 10000 = (di + carry) % 10000 := by omega
            have h2 : (di + carry) / 10000 = ((di + carry) / 10000) := by omega
            rw [h1, h2] at hnext; exact hnext
end Go.Proofs.YtfebcokmnhdbmaaGreatDoor
namespace Go.Proofs.YtfebcokmnhdbmaaGreatDoor
set_option linter.unusedVariables false
set_option linter.unusedSimpArgs false
open Go.RowKit
set_option maxRecDepth 100000 in
set_option maxHeartbeats 2000000 in
theorem foldMinus_any (n : Nat) (d : Nat → Int) (b1 b2 : Nat) (I : World → Prop) (w : World) (hI : ∀ W W', I W → Below w.heap.size W W' → I W')
    (hcall : ∀ (W : World) (i : Nat), I W → i ≤ 1000000 → Calls Tryz.prog 129 #[.int .i64 i, .pointer (some ⟨b1, 0, none⟩), .pointer (some ⟨b2, 0, none⟩)] W fun e w' => e = .returned (.int .i64 (d i)) ∧ Below W.heap.size W w')
    (hd : ∀ i, -9999 ≤ d i ∧ d i ≤ 100000000) (h0 : ∀ i, n ≤ i → d i = 0) (hpos : 0 ≤ Ig.dsum d n) (hn : n ≤ 100000) (hIw : I w) :
    Calls Tryz.prog 126 #[.int .i64 n, .int .i64 0, .func (.func 129) #[] #[.pointer (some ⟨b1, 0, none⟩), .pointer (some ⟨b2, 0, none⟩)]] w fun e w' =>
      ∃ (A : Option Addr) (out : List Int) (cap : Nat), e = .returned (.slice A out.length cap) ∧ At 1 intC w' w'.heap.size A out ∧ out.length ≤ cap ∧ cap ≤ maxLen ∧ out.length ≤ n + 2 ∧ Kp (Ig.trimG out = Ig.grp (Ig.dsum d n).toNat) ∧ Below w.heap.size w w' := by
  obtain ⟨ti, z, hi, hz, hs1, hz1, hby⟩ := intI
  have hmk := run_makeSlice (P := Tryz.prog) (w := w) 112 3 ti z Tryz.underlying112 hi hz .i64 .i64 0 ((n : Int) + 1) (Int.le_refl _) (by omega) (by rw [hs1]; omega) (by rw [hby]; omega) (by omega)
  rw [hs1, Nat.mul_one, show ((n : Int) + 1).toNat = n + 1 by omega, show (0 : Int).toNat = 0 from rfl] at hmk
  have hcs : (madeCells z.cells (n + 1)).size = n + 1 := by rw [size_madeCells]
  generalize madeCells z.cells (n + 1) = cs at *
  clear hi hz hs1 hz1 hby
  have hrow : RowC 3 1 w.heap.size (n + 1) 0 [] (.slice (some ⟨w.heap.size, 0, none⟩) 0 (n + 1)) (w.alloc (.cells cs 3)) :=
    ⟨w.heap.size, _, rfl, Nat.le_refl _, Nat.zero_le _, Bx.mk _ _ _, by omega, rfl⟩
  have hI1 := hI w _ hIw (bNewW w (.cells cs 3))
  have hb1 := bNewW w (.cells cs 3)
  go_enter Tryz.func126, Tryz.ntmps126
  go_wp2
  clear hmk hIw
  generalize (w.alloc (.cells cs 3)) = w1 at *
  go_loopw [1, 7, 8, 9] (fun s1 s7 s8 s9 wr => ∃ (i cap : Nat) (out : List Int) (carry : Int), s8 = .int .i64 i ∧ s1 = .int .i64 carry ∧ RowC 3 1 w.heap.size cap out.length (out.flatMap intC) s7 wr ∧ cap ≤ maxLen ∧ i ≤ n + 2 ∧ -1 ≤ carry ∧ carry ≤ 20000 ∧ (i = n + 1 → carry ≤ 2) ∧ (i = n + 2 → carry = 0) ∧ (n ≤ i → 0 ≤ carry) ∧ Kp (out.length = i) ∧ out.length ≤ n + 2 ∧ Kp (Ig.FoldAt d i out carry) ∧ I wr ∧ Below w.heap.size w wr)
    (fun s1 s7 s8 s9 _ => (n + 3 - (intOf s8).toNat))
  case atStart => exact ⟨0, n + 1, [], 0, rfl, rfl, hrow, by unfold maxLen; omega, by omega, by omega, by omega, by omega, by omega, by omega, ⟨rfl⟩, by simp, ⟨Ig.fold_start d⟩, hI1, hb1⟩
  case round =>
    clear hrow hI1 hb1
    obtain ⟨i, cap, out, carry, rfl, rfl, hrow, hcm, hi2, hc1, hc2, hc3, hc4, hc5, hol, hol2, hf, hIr, hb⟩ := hrel
    by_cases hstop : n ≤ i ∧ carry = 0
    · obtain ⟨hni, rfl⟩ := hstop
      have t0 : decide ((i : Int) < (n : Int)) = false := by simp; omega
      have hnl : ¬ i < n := by omega
      have hfin : Kp (Ig.trimG out = Ig.grp (Ig.dsum d n).toNat) := ⟨by rw [Ig.fold_end hf.out, Ig.dsum_gap h0 hni]⟩
      obtain ⟨A2, rfl, hA2, hlen2⟩ := RowC.at (f := intC) (fun _ => rfl) hrow
      clear hf hcall hI
      go_wp2
      go_ret
      exact ⟨A2, out, cap, rfl, hA2, hlen2, hcm, hol2, hfin, hb⟩
    · have hdi := hd i
      have hz0 : n ≤ i → d i = 0 := h0 i
      have hrun : (i < n ∨ (¬ i < n ∧ carry ≠ 0)) := by omega
      have hnext := Ig.fold_step hf.out
      have hcp : n ≤ i + 1 → 0 ≤ (d i + carry) / 10000 := fun h => Ig.fold_carry hnext (by rw [Ig.dsum_gap h0 h]; exact hpos)
      have hns : i ≠ n + 2 := by omega
      have hbig : i ≤ 1000000 := by omega
      have hob : out.length + 1 ≤ 1000000 := by omega
      have hc := hcall wr i hIr hbig
      clear hcall hstop hf
      generalize hdd : d i = di at *
      have hi9 : out.length ≤ i := by have := hol.out; omega
      have hi8 : Kp (out.length = i) := hol
      clear hol
      rcases hrun with hlt | ⟨hge, hne⟩
      · have t0 : decide ((i : Int) < (n : Int)) = true := by simp; omega
        rcases (show (di + carry < 0) ∨ (0 ≤ di + carry ∧ di + carry < 10000) ∨ 10000 ≤ di + carry by omega) with hs | ⟨hs, hs'⟩ | hs
        · have t1 : decide (di + carry < 0) = true := by simp; omega
          go_wp2_with fail
          refine hc.mono ?_
          rintro _ w2 ⟨rfl, hb2⟩
          replace hrow := stab_rowC _ _ _ _ _ _ _ _ _ hrow hb2
          replace hIr := hI _ _ hIr (hb2.mono hb.size)
          replace hb := bCall hb hb2
          clear hc hb2
          go_wp2_with (at_builtin; refine wpList_append_nums rfl (.tmp 37) (.tmp 39) rfl w.heap.size cap out.length 1 (out.flatMap intC) [.int .i64 (di + carry + 10000)] _ _ rfl rfl (stab_rowC _ _ _ _ _ _ _ _ _ hrow (bNewW w2 _)) (by rw [alloc_size]; have := hb.size; omega) (src_one w2 _) hcm (by omega) ?_; intro v' w' cap' e1 e2 e3 e4)
          replace hIr := hI _ _ hIr (((bNewW w2 (.cells #[.int .i64 (di + carry + 10000)] 3))).mono hb.size)
          replace hIr := hI _ _ hIr e1
          have hb9 := (bNew hb (.cells #[.int .i64 (di + carry + 10000)] 3)).trans e1
          refine ⟨⟨i + 1, cap', out ++ [di + carry + 10000], (-1), by go_num, rfl, by simpa [intC] using e3, e4, by omega, by omega, by omega, by omega, by omega, ?_, ⟨by simp; exact hi8.out⟩, by simp; omega, ⟨?_⟩, hIr, hb9⟩, by simp [intOf]; omega⟩
          · intro h; have := hcp h; omega
          · have h1 : (di + carry) % 10000 = di + carry + 10000 := by omega
            have h2 : (di + carry) / 10000 = (-1) := by omega
            rw [h1, h2] at hnext; exact hnext
        · have t1 : decide (di + carry < 0) = false := by simp; omega
          have t2 : decide (di + carry ≥ 10000) = false := by simp; omega
          go_wp2_with fail
          refine hc.mono ?_
          rintro _ w2 ⟨rfl, hb2⟩
          replace hrow := stab_rowC _ _ _ _ _ _ _ _ _ hrow hb2
          replace hIr := hI _ _ hIr (hb2.mono hb.size)
          replace hb := bCall hb hb2
          clear hc hb2
          go_wp2_with (at_builtin; refine wpList_append_nums rfl (.tmp 37) (.tmp 39) rfl w.heap.size cap out.length 1 (out.flatMap intC) [.int .i64 (di + carry)] _ _ rfl rfl (stab_rowC _ _ _ _ _ _ _ _ _ hrow (bNewW w2 _)) (by rw [alloc_size]; have := hb.size; omega) (src_one w2 _) hcm (by omega) ?_; intro v' w' cap' e1 e2 e3 e4)
          replace hIr := hI _ _ hIr (((bNewW w2 (.cells #[.int .i64 (di + carry)] 3))).mono hb.size)
          replace hIr := hI _ _ hIr e1
          have hb9 := (bNew hb (.cells #[.int .i64 (di + carry)] 3)).trans e1
          refine ⟨⟨i + 1, cap', out ++ [di + carry], 0, by go_num, rfl, by simpa [intC] using e3, e4, by omega, by omega, by omega, by omega, by omega, ?_, ⟨by simp; exact hi8.out⟩, by simp; omega, ⟨?_⟩, hIr, hb9⟩, by simp [intOf]; omega⟩
          · intro h; have := hcp h; omega
          · have h1 : (di + carry) % 10000 = di + carry := by omega
            have h2 : (di + carry) / 10000 = 0 := by omega
            rw [h1, h2] at hnext; exact hnext
        · have t1 : decide (di + carry < 0) = false := by simp; omega
          have t2 : decide (di + carry ≥ 10000) = true := by simp; omega
          go_wp2_with fail
          refine hc.mono ?_
          rintro _ w2 ⟨rfl, hb2⟩
          replace hrow := stab_rowC _ _ _ _ _ _ _ _ _ hrow hb2
          replace hIr := hI _ _ hIr (hb2.mono hb.size)
          replace hb := bCall hb hb2
          clear hc hb2
          go_wp2_with (at_builtin; refine wpList_append_nums rfl (.tmp 37) (.tmp 39) rfl w.heap.size cap out.length 1 (out.flatMap intC) [.int .i64 ((di + carry) % 10000)] _ _ rfl rfl (stab_rowC _ _ _ _ _ _ _ _ _ hrow (bNewW w2 _)) (by rw [alloc_size]; have := hb.size; omega) (src_one w2 _) hcm (by omega) ?_; intro v' w' cap' e1 e2 e3 e4)
          replace hIr := hI _ _ hIr (((bNewW w2 (.cells #[.int .i64 ((di + carry) % 10000)] 3))).mono hb.size)
          replace hIr := hI _ _ hIr e1
          have hb9 := (bNew hb (.cells #[.int .i64 ((di + carry) % 10000)] 3)).trans e1
          refine ⟨⟨i + 1, cap', out ++ [(di + carry) % 10000], ((di + carry) / 10000), by go_num, rfl, by simpa [intC] using e3, e4, by omega, by omega, by omega, by omega, by omega, ?_, ⟨by simp; exact hi8.out⟩, by simp; omega, ⟨?_⟩, hIr, hb9⟩, by simp [intOf]; omega⟩
          · intro h; have := hcp h; omega
          · have h1 : (di + carry) % 10000 = (di + carry) % 10000 := by omega
            have h2 : (di + carry) / 10000 = ((di + carry) / 10000) := by omega
            rw [h1, h2] at hnext; exact hnext
      · have t0 : decide ((i : Int) < (n : Int)) = false := by simp; omega
        have t9 : (carry != 0) = true := by simp [hne]
        clear hne
        rcases (show (di + carry < 0) ∨ (0 ≤ di + carry ∧ di + carry < 10000) ∨ 10000 ≤ di + carry by omega) with hs | ⟨hs, hs'⟩ | hs
        · exfalso
          have x1 := hz0 (by omega)
          have x2 := hc5 (by omega)
          omega
        · have t1 : decide (di + carry < 0) = false := by simp; omega
          have t2 : decide (di + carry ≥ 10000) = false := by simp; omega
          go_wp2_with fail
          refine hc.mono ?_
          rintro _ w2 ⟨rfl, hb2⟩
          replace hrow := stab_rowC _ _ _ _ _ _ _ _ _ hrow hb2
          replace hIr := hI _ _ hIr (hb2.mono hb.size)
          replace hb := bCall hb hb2
          clear hc hb2
          go_wp2_with (at_builtin; refine wpList_append_nums rfl (.tmp 37) (.tmp 39) rfl w.heap.size cap out.length 1 (out.flatMap intC) [.int .i64 (di + carry)] _ _ rfl rfl (stab_rowC _ _ _ _ _ _ _ _ _ hrow (bNewW w2 _)) (by rw [alloc_size]; have := hb.size; omega) (src_one w2 _) hcm (by omega) ?_; intro v' w' cap' e1 e2 e3 e4)
          replace hIr := hI _ _ hIr (((bNewW w2 (.cells #[.int .i64 (di + carry)] 3))).mono hb.size)
          replace hIr := hI _ _ hIr e1
          have hb9 := (bNew hb (.cells #[.int .i64 (di + carry)] 3)).trans e1
          refine ⟨⟨i + 1, cap', out ++ [di + carry], 0, by go_num, rfl, by simpa [intC] using e3, e4, by omega, by omega, by omega, by omega, by omega, ?_, ⟨by simp; exact hi8.out⟩, by simp; omega, ⟨?_⟩, hIr, hb9⟩, by simp [intOf]; omega⟩
          · intro h; have := hcp h; omega
          · have h1 : (di + carry) % 10000 = di + carry := by omega
            have h2 : (di + carry) / 10000 = 0 := by omega
            rw [h1, h2] at hnext; exact hnext
        · have t1 : decide (di + carry < 0) = false := by simp; omega
          have t2 : decide (di + carry ≥ 10000) = true := by simp; omega
          go_wp2_with fail
          refine hc.mono ?_
          rintro _ w2 ⟨rfl, hb2⟩
          replace hrow := stab_rowC _ _ _ _ _ _ _ _ _ hrow hb2
          replace hIr := hI _ _ hIr (hb2.mono hb.size)
          replace hb := bCall hb hb2
          clear hc hb2
          go_wp2_with (at_builtin; refine wpList_append_nums rfl (.tmp 37) (.tmp 39) rfl w.heap.size cap out.length 1 (out.flatMap intC) [.int .i64 ((di + carry) % 10000)] _ _ rfl rfl (stab_rowC _ _ _ _ _ _ _ _ _ hrow (bNewW w2 _)) (by rw [alloc_size]; have := hb.size; omega) (src_one w2 _) hcm (by omega) ?_; intro v' w' cap' e1 e2 e3 e4)
          replace hIr := hI _ _ hIr (((bNewW w2 (.cells #[.int .i64 ((di + carry) % 10000)] 3))).mono hb.size)
          replace hIr := hI _ _ hIr e1
          have hb9 := (bNew hb (.cells #[.int .i64 ((di + carry) % 10000)] 3)).trans e1
          refine ⟨⟨i + 1, cap', out ++ [(di + carry) % 10000], ((di + carry) / 10000), by go_num, rfl, by simpa [intC] using e3, e4, by omega, by omega, by omega, by omega, by omega, ?_, ⟨by simp; exact hi8.out⟩, by simp; omega, ⟨?_⟩, hIr, hb9⟩, by simp [intOf]; omega⟩
          · intro h; have := hcp h; omega
          · have h1 : (di + carry) % 10000 = (di + carry) % 10000 := by omega
            have h2 : (di + carry) / 10000 = ((di + carry) / 10000) := by omega
            rw [h1, h2] at hnext; exact hnext
end Go.Proofs.YtfebcokmnhdbmaaGreatDoor
namespace Go.Proofs.YtfebcokmnhdbmaaGreatDoor
set_option linter.unusedVariables false
set_option linter.unusedSimpArgs false
open Go.RowKit
set_option maxRecDepth 100000 in
set_option maxHeartbeats 2000000 in
theorem foldBy_any (n : Nat) (d : Nat → Int) (b1 b2 : Nat) (I : World → Prop) (w : World) (hI : ∀ W W', I W → Below w.heap.size W W' → I W')
    (hcall : ∀ (W : World) (i : Nat), I W → i ≤ 1000000 → Calls Tryz.prog 156 #[.int .i64 i, .pointer (some ⟨b1, 0, none⟩), .pointer (some ⟨b2, 0, none⟩)] W fun e w' => e = .returned (.int .i64 (d i)) ∧ Below W.heap.size W w')
    (hd : ∀ i, -9999 ≤ d i ∧ d i ≤ 100000000) (h0 : ∀ i, n ≤ i → d i = 0) (hpos : 0 ≤ Ig.dsum d n) (hn : n ≤ 100000) (hIw : I w) :
    Calls Tryz.prog 126 #[.int .i64 n, .int .i64 0, .func (.func 156) #[] #[.pointer (some ⟨b1, 0, none⟩), .pointer (some ⟨b2, 0, none⟩)]] w fun e w' =>
      ∃ (A : Option Addr) (out : List Int) (cap : Nat), e = .returned (.slice A out.length cap) ∧ At 1 intC w' w'.heap.size A out ∧ out.length ≤ cap ∧ cap ≤ maxLen ∧ out.length ≤ n + 2 ∧ Kp (Ig.trimG out = Ig.grp (Ig.dsum d n).toNat) ∧ Below w.heap.size w w' := by
  obtain ⟨ti, z, hi, hz, hs1, hz1, hby⟩ := intI
  have hmk := run_makeSlice (P := Tryz.prog) (w := w) 112 3 ti z Tryz.underlying112 hi hz .i64 .i64 0 ((n : Int) + 1) (Int.le_refl _) (by omega) (by rw [hs1]; omega) (by rw [hby]; omega) (by omega)
  rw [hs1, Nat.mul_one, show ((n : Int) + 1).toNat = n + 1 by omega, show (0 : Int).toNat = 0 from rfl] at hmk
  have hcs : (madeCells z.cells (n + 1)).size = n + 1 := by rw [size_madeCells]
  generalize madeCells z.cells (n + 1) = cs at *
  clear hi hz hs1 hz1 hby
  have hrow : RowC 3 1 w.heap.size (n + 1) 0 [] (.slice (some ⟨w.heap.size, 0, none⟩) 0 (n + 1)) (w.alloc (.cells cs 3)) :=
    ⟨w.heap.size, _, rfl, Nat.le_refl _, Nat.zero_le _, Bx.mk _ _ _, by omega, rfl⟩
  have hI1 := hI w _ hIw (bNewW w (.cells cs 3))
  have hb1 := bNewW w (.cells cs 3)
  go_enter Tryz.func126, Tryz.ntmps126
  go_wp2
  clear hmk hIw
  generalize (w.alloc (.cells cs 3)) = w1 at *
  go_loopw [1, 7, 8, 9] (fun s1 s7 s8 s9 wr => ∃ (i cap : Nat) (out : List Int) (carry : Int), s8 = .int .i64 i ∧ s1 = .int .i64 carry ∧ RowC 3 1 w.heap.size cap out.length (out.flatMap intC) s7 wr ∧ cap ≤ maxLen ∧ i ≤ n + 2 ∧ -1 ≤ carry ∧ carry ≤ 20000 ∧ (i = n + 1 → carry ≤ 2) ∧ (i = n + 2 → carry = 0) ∧ (n ≤ i → 0 ≤ carry) ∧ Kp (out.length = i) ∧ out.length ≤ n + 2 ∧ Kp (Ig.FoldAt d i out carry) ∧ I wr ∧ Below w.heap.size w wr)
    (fun s1 s7 s8 s9 _ => (n + 3 - (intOf s8).toNat))
  case atStart => exact ⟨0, n + 1, [], 0, rfl, rfl, hrow, by unfold maxLen; omega, by omega, by omega, by omega, by omega, by omega, by omega, ⟨rfl⟩, by simp, ⟨Ig.fold_start d⟩, hI1, hb1⟩
  case round =>
    clear hrow hI1 hb1
    obtain ⟨i, cap, out, carry, rfl, rfl, hrow, hcm, hi2, hc1, hc2, hc3, hc4, hc5, hol, hol2, hf, hIr, hb⟩ := hrel
    by_cases hstop : n ≤ i ∧ carry = 0
    · obtain ⟨hni, rfl⟩ := hstop
      have t0 : decide ((i : Int) < (n : Int)) = false := by simp; omega
      have hnl : ¬ i < n := by omega
      have hfin : Kp (Ig.trimG out = Ig.grp (Ig.dsum d n).toNat) := ⟨by rw [Ig.fold_end hf.out, Ig.dsum_gap h0 hni]⟩
      obtain ⟨A2, rfl, hA2, hlen2⟩ := RowC.at (f := intC) (fun _ => rfl) hrow
      clear hf hcall hI
      go_wp2
      go_ret
      exact ⟨A2, out, cap, rfl, hA2, hlen2, hcm, hol2, hfin, hb⟩
    · have hdi := hd i
      have hz0 : n ≤ i → d i = 0 := h0 i
      have hrun : (i < n ∨ (¬ i < n ∧ carry ≠ 0)) := by omega
      have hnext := Ig.fold_step hf.out
      have hcp : n ≤ i + 1 → 0 ≤ (d i + carry) / 10000 := fun h => Ig.fold_carry hnext (by rw [Ig.dsum_gap h0 h]; exact hpos)
      have hns : i ≠ n + 2 := by omega
      have hbig : i ≤ 1000000 := by omega
      have hob : out.length + 1 ≤ 1000000 := by omega
      have hc := hcall wr i hIr hbig
      clear hcall hstop hf
      generalize hdd : d i = di at *
      have hi9 : out.length ≤ i := by have := hol.out; omega
      have hi8 : Kp (out.length = i) := hol
      clear hol
      rcases hrun with hlt | ⟨hge, hne⟩
      · have t0 : decide ((i : Int) < (n : Int)) = true := by simp; omega
        rcases (show (di + carry < 0) ∨ (0 ≤ di + carry ∧ di + carry < 10000) ∨ 10000 ≤ di + carry by omega) with hs | ⟨hs, hs'⟩ | hs
        · have t1 : decide (di + carry < 0) = true := by simp; omega
          go_wp2_with fail
          refine hc.mono ?_
          rintro _ w2 ⟨rfl, hb2⟩
          replace hrow := stab_rowC _ _ _ _ _ _ _ _ _ hrow hb2
          replace hIr := hI _ _ hIr (hb2.mono hb.size)
          replace hb := bCall hb hb2
          clear hc hb2
          go_wp2_with (at_builtin; refine wpList_append_nums rfl (.tmp 37) (.tmp 39) rfl w.heap.size cap out.length 1 (out.flatMap intC) [.int .i64 (di + carry + 10000)] _ _ rfl rfl (stab_rowC _ _ _ _ _ _ _ _ _ hrow (bNewW w2 _)) (by rw [alloc_size]; have := hb.size; omega) (src_one w2 _) hcm (by omega) ?_; intro v' w' cap' e1 e2 e3 e4)
          replace hIr := hI _ _ hIr (((bNewW w2 (.cells #[.int .i64 (di + carry + 10000)] 3))).mono hb.size)
          replace hIr := hI _ _ hIr e1
          have hb9 := (bNew hb (.cells #[.int .i64 (di + carry + 10000)] 3)).trans e1
          refine ⟨⟨i + 1, cap', out ++ [di + carry + 10000], (-1), by go_num, rfl, by simpa [intC] using e3, e4, by omega, by omega, by omega, by omega, by omega, ?_, ⟨by simp; exact hi8.out⟩, by simp; omega, ⟨?_⟩, hIr, hb9⟩, by simp [intOf]; omega⟩
          · intro h; have := hcp h; omega
          · have h1 : (di + carry) % 10000 = di + carry + 10000 := by omega
            have h2 : (di + carry) / 10000 = (-1) := by omega
            rw [h1, h2] at hnext; exact hnext
        · have t1 : decide (di + carry < 0) = false := by simp; omega
          have t2 : decide (di + carry ≥ 10000) = false := by simp; omega
          go_wp2_with fail
          refine hc.mono ?_
          rintro _ w2 ⟨rfl, hb2⟩
          replace hrow := stab_rowC _ _ _ _ _ _ _ _ _ hrow hb2
          replace hIr := hI _ _ hIr (hb2.mono hb.size)
          replace hb := bCall hb hb2
          clear hc hb2
          go_wp2_with (at_builtin; refine wpList_append_nums rfl (.tmp 37) (.tmp 39) rfl w.heap.size cap out.length 1 (out.flatMap intC) [.int .i64 (di + carry)] _ _ rfl rfl (stab_rowC _ _ _ _ _ _ _ _ _ hrow (bNewW w2 _)) (by rw [alloc_size]; have := hb.size; omega) (src_one w2 _) hcm (by omega) ?_; intro v' w' cap' e1 e2 e3 e4)
          replace hIr := hI _ _ hIr (((bNewW w2 (.cells #[.int .i64 (di + carry)] 3))).mono hb.size)
          replace hIr := hI _ _ hIr e1
          have hb9 := (bNew hb (.cells #[.int .i64 (di + carry)] 3)).trans e1
          refine ⟨⟨i + 1, cap', out ++ [di + carry], 0, by go_num, rfl, by simpa [intC] using e3, e4, by omega, by omega, by omega, by omega, by omega, ?_, ⟨by simp; exact hi8.out⟩, by simp; omega, ⟨?_⟩, hIr, hb9⟩, by simp [intOf]; omega⟩
          · intro h; have := hcp h; omega
          · have h1 : (di + carry) % 10000 = di + carry := by omega
            have h2 : (di + carry) / 10000 = 0 := by omega
            rw [h1, h2] at hnext; exact hnext
        · have t1 : decide (di + carry < 0) = false := by simp; omega
          have t2 : decide (di + carry ≥ 10000) = true := by simp; omega
          go_wp2_with fail
          refine hc.mono ?_
          rintro _ w2 ⟨rfl, hb2⟩
          replace hrow := stab_rowC _ _ _ _ _ _ _ _ _ hrow hb2
          replace hIr := hI _ _ hIr (hb2.mono hb.size)
          replace hb := bCall hb hb2
          clear hc hb2
          go_wp2_with (at_builtin; refine wpList_append_nums rfl (.tmp 37) (.tmp 39) rfl w.heap.size cap out.length 1 (out.flatMap intC) [.int .i64 ((di + carry) % 10000)] _ _ rfl rfl (stab_rowC _ _ _ _ _ _ _ _ _ hrow (bNewW w2 _)) (by rw [alloc_size]; have := hb.size; omega) (src_one w2 _) hcm (by omega) ?_; intro v' w' cap' e1 e2 e3 e4)
          replace hIr := hI _ _ hIr (((bNewW w2 (.cells #[.int .i64 ((di + carry) % 10000)] 3))).mono hb.size)
          replace hIr := hI _ _ hIr e1
          have hb9 := (bNew hb (.cells #[.int .i64 ((di + carry) % 10000)] 3)).trans e1
          refine ⟨⟨i + 1, cap', out ++ [(di + carry) % 10000], ((di + carry) / 10000), by go_num, rfl, by simpa [intC] using e3, e4, by omega, by omega, by omega, by omega, by omega, ?_, ⟨by simp; exact hi8.out⟩, by simp; omega, ⟨?_⟩, hIr, hb9⟩, by simp [intOf]; omega⟩
          · intro h; have := hcp h; omega
          · have h1 : (di + carry) % 10000 = (di + carry) % 10000 := by omega
            have h2 : (di + carry) / 10000 = ((di + carry) / 10000) := by omega
            rw [h1, h2] at hnext; exact hnext
      · have t0 : decide ((i : Int) < (n : Int)) = false := by simp; omega
        have t9 : (carry != 0) = true := by simp [hne]
        clear hne
        rcases (show (di + carry < 0) ∨ (0 ≤ di + carry ∧ di + carry < 10000) ∨ 10000 ≤ di + carry by omega) with hs | ⟨hs, hs'⟩ | hs
        · exfalso
          have x1 := hz0 (by omega)
          have x2 := hc5 (by omega)
          omega
        · have t1 : decide (di + carry < 0) = false := by simp; omega
          have t2 : decide (di + carry ≥ 10000) = false := by simp; omega
          go_wp2_with fail
          refine hc.mono ?_
          rintro _ w2 ⟨rfl, hb2⟩
          replace hrow := stab_rowC _ _ _ _ _ _ _ _ _ hrow hb2
          replace hIr := hI _ _ hIr (hb2.mono hb.size)
          replace hb := bCall hb hb2
          clear hc hb2
          go_wp2_with (at_builtin; refine wpList_append_nums rfl (.tmp 37) (.tmp 39) rfl w.heap.size cap out.length 1 (out.flatMap intC) [.int .i64 (di + carry)] _ _ rfl rfl (stab_rowC _ _ _ _ _ _ _ _ _ hrow (bNewW w2 _)) (by rw [alloc_size]; have := hb.size; omega) (src_one w2 _) hcm (by omega) ?_; intro v' w' cap' e1 e2 e3 e4)
          replace hIr := hI _ _ hIr (((bNewW w2 (.cells #[.int .i64 (di + carry)] 3))).mono hb.size)
          replace hIr := hI _ _ hIr e1
          have hb9 := (bNew hb (.cells #[.int .i64 (di + carry)] 3)).trans e1
          refine ⟨⟨i + 1, cap', out ++ [di + carry], 0, by go_num, rfl, by simpa [intC] using e3, e4, by omega, by omega, by omega, by omega, by omega, ?_, ⟨by simp; exact hi8.out⟩, by simp; omega, ⟨?_⟩, hIr, hb9⟩, by simp [intOf]; omega⟩
          · intro h; have := hcp h; omega
          · have h1 : (di + carry) % 10000 = di + carry := by omega
            have h2 : (di + carry) / 10000 = 0 := by omega
            rw [h1, h2] at hnext; exact hnext
        · have t1 : decide (di + carry < 0) = false := by simp; omega
          have t2 : decide (di + carry ≥ 10000) = true := by simp; omega
          go_wp2_with fail
          refine hc.mono ?_
          rintro _ w2 ⟨rfl, hb2⟩
          replace hrow := stab_rowC _ _ _ _ _ _ _ _ _ hrow hb2
          replace hIr := hI _ _ hIr (hb2.mono hb.size)
          replace hb := bCall hb hb2
          clear hc hb2
          go_wp2_with (at_builtin; refine wpList_append_nums rfl (.tmp 37) (.tmp 39) rfl w.heap.size cap out.length 1 (out.flatMap intC) [.int .i64 ((di + carry) % 10000)] _ _ rfl rfl (stab_rowC _ _ _ _ _ _ _ _ _ hrow (bNewW w2 _)) (by rw [alloc_size]; have := hb.size; omega) (src_one w2 _) hcm (by omega) ?_; intro v' w' cap' e1 e2 e3 e4)
          replace hIr := hI _ _ hIr (((bNewW w2 (.cells #[.int .i64 ((di + carry) % 10000)] 3))).mono hb.size)
          replace hIr := hI _ _ hIr e1
          have hb9 := (bNew hb (.cells #[.int .i64 ((di + carry) % 10000)] 3)).trans e1
          refine ⟨⟨i + 1, cap', out ++ [(di + carry) % 10000], ((di + carry) / 10000), by go_num, rfl, by simpa [intC] using e3, e4, by omega, by omega, by omega, by omega, by omega, ?_, ⟨by simp; exact hi8.out⟩, by simp; omega, ⟨?_⟩, hIr, hb9⟩, by simp [intOf]; omega⟩
          · intro h; have := hcp h; omega
          · have h1 : (di + carry) % 10000 = (di + carry) % 10000 := by omega
            have h2 : (di + carry) / 10000 = ((di + carry) / 10000) := by omega
            rw [h1, h2] at hnext; exact hnext
end Go.Proofs.YtfebcokmnhdbmaaGreatDoor

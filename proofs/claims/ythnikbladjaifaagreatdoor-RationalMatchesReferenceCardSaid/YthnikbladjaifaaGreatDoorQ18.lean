/- Small functions of dialtonelaw04: is, four. One store of two cells into memory that a drawn region makes: what is used. Of of package rational; check. sane of dialtonelaw04. -/
import Derived.Test.YthnikbladjaifaaGreatDoorQ07
import Derived.Test.YthnikbladjaifaaGreatDoorQ10
import Derived.Test.YthnikbladjaifaaGreatDoorQ12
import Derived.Test.YthnikbladjaifaaGreatDoorQ17
namespace Go.Proofs.YthnikbladjaifaaGreatDoor
set_option linter.unusedVariables false
set_option linter.unusedSimpArgs false
open Go.RowKit Go.Shelf
/-- a fraction of two strings as a value -/
def rv (n d : List UInt8) : Value := .agg #[.string ⟨n.toArray⟩, .string ⟨d.toArray⟩]
theorem rv_q (q : Rat) : QV q = rv (Lib.itoa q.num) (Lib.itoa (q.den : Int)) := rfl
theorem rv_z : QZ = rv [] [] := rfl
theorem results_Q1 {fn : Func} {t : Tmp} {g : Nat} {n d : ByteArray} (h : fn.results = #[.cell t 23]) (tmps : Array Value) (w : World) (ht : tmps.getD t undef = .pointer (some ⟨g, 0, none⟩)) (hB : Bx w g 23 #[.string n, .string d]) :
    (results fn tmps).run Tryz.prog w = .ok (.agg #[.string n, .string d]) w := by
  have h0 := hB.cell 0 rfl
  have h1 := hB.cell 1 rfl
  have ht' : tmps[t]?.getD undef = .pointer (some ⟨g, 0, none⟩) := by simpa using ht
  simp only [results, h]
  simp [go_sem, ht', h0, h1, loadVar]
theorem is_any (a b : List UInt8) (w : World) :
    Calls Tryz.prog 27 #[.string ⟨a.toArray⟩, .string ⟨b.toArray⟩] w fun e w' => e = .returned (rv a b) ∧ Below w.heap.size w w' := by
  have hb := bNewW w (.cells #[.string ⟨a.toArray⟩, .string ⟨b.toArray⟩] 23)
  have hB := Bx.mk w 23 #[.string ⟨a.toArray⟩, .string ⟨b.toArray⟩]
  go_enter Tryz.func27, Tryz.ntmps27
  go_wp2
  exact bodyPost_ret (results_Q1 rfl _ _ rfl hB) rfl ⟨rfl, hb⟩
/-- four fractions as an array's cells, as a value -/
def c8 (a b c d e f g h : List UInt8) : Array Value := #[.string ⟨a.toArray⟩, .string ⟨b.toArray⟩, .string ⟨c.toArray⟩, .string ⟨d.toArray⟩, .string ⟨e.toArray⟩, .string ⟨f.toArray⟩, .string ⟨g.toArray⟩, .string ⟨h.toArray⟩]
theorem results_44 {fn : Func} {t u : Tmp} {g g' : Nat} {a b c d e f i j : ByteArray} {x1 x2 x3 x4 : Value} (h : fn.results = #[.cell t 31, .cell u 33]) (tmps : Array Value) (w : World) (ht : tmps.getD t undef = .pointer (some ⟨g, 0, none⟩)) (hu : tmps.getD u undef = .pointer (some ⟨g', 0, none⟩)) (hB : Bx w g 31 #[.string a, .string b, .string c, .string d, .string e, .string f, .string i, .string j]) (hE : Bx w g' 33 #[x1, x2, x3, x4]) :
    (results fn tmps).run Tryz.prog w = .ok (.tuple #[.agg #[.string a, .string b, .string c, .string d, .string e, .string f, .string i, .string j], .agg #[x1, x2, x3, x4]]) w := by
  have h0 := hB.cell 0 rfl
  have h1 := hB.cell 1 rfl
  have h2 := hB.cell 2 rfl
  have h3 := hB.cell 3 rfl
  have h4 := hB.cell 4 rfl
  have h5 := hB.cell 5 rfl
  have h6 := hB.cell 6 rfl
  have h7 := hB.cell 7 rfl
  have k0 := hE.cell 0 rfl
  have k1 := hE.cell 1 rfl
  have k2 := hE.cell 2 rfl
  have k3 := hE.cell 3 rfl
  have ht' : tmps[t]?.getD undef = .pointer (some ⟨g, 0, none⟩) := by simpa using ht
  have hu' : tmps[u]?.getD undef = .pointer (some ⟨g', 0, none⟩) := by simpa using hu
  simp only [results, h]
  simp [go_sem, ht', hu', h0, h1, h2, h3, h4, h5, h6, h7, k0, k1, k2, k3, loadVar]
set_option maxRecDepth 100000 in
set_option maxHeartbeats 4000000 in
theorem four_walk (a1 a2 b1 b2 p1 p2 q1 q2 r1 r2 s1 s2 : List UInt8) (e1 e2 e3 e4 : Int) (w : World) (hE : Env w)
    (hA : ∀ w0, Env w0 → Calls Tryz.prog 26 #[rv a1 a2, rv b1 b2] w0 fun e w' => e = .returned (.tuple #[rv p1 p2, .int .i64 e1]) ∧ Below w0.heap.size w0 w')
    (hS : ∀ w0, Env w0 → Calls Tryz.prog 32 #[rv a1 a2, rv b1 b2] w0 fun e w' => e = .returned (.tuple #[rv q1 q2, .int .i64 e2]) ∧ Below w0.heap.size w0 w')
    (hM : ∀ w0, Env w0 → Calls Tryz.prog 33 #[rv a1 a2, rv b1 b2] w0 fun e w' => e = .returned (.tuple #[rv r1 r2, .int .i64 e3]) ∧ Below w0.heap.size w0 w')
    (hD : ∀ w0, Env w0 → Calls Tryz.prog 28 #[rv a1 a2, rv b1 b2] w0 fun e w' => e = .returned (.tuple #[rv s1 s2, .int .i64 e4]) ∧ Below w0.heap.size w0 w') :
    Calls Tryz.prog 8 #[rv a1 a2, rv b1 b2] w fun e w' => e = .returned (.tuple #[.agg (c8 p1 p2 q1 q2 r1 r2 s1 s2), .agg #[.int .i64 e1, .int .i64 e2, .int .i64 e3, .int .i64 e4]]) ∧ Below w.heap.size w w' := by
  unfold rv at *
  unfold c8
  have hb := bNew (bNew (bNew (bNew (bNew (bNewW w (.cells #[.string ⟨a1.toArray⟩, .string ⟨a2.toArray⟩] 23)) (.cells #[.string ⟨b1.toArray⟩, .string ⟨b2.toArray⟩] 23)) (.cells #[.string ⟨#[]⟩, .string ⟨#[]⟩, .string ⟨#[]⟩, .string ⟨#[]⟩, .string ⟨#[]⟩, .string ⟨#[]⟩, .string ⟨#[]⟩, .string ⟨#[]⟩] 31)) (.cells #[.int .i64 0, .int .i64 0, .int .i64 0, .int .i64 0] 33)) (.cells #[.string ⟨#[]⟩, .string ⟨#[]⟩, .string ⟨#[]⟩, .string ⟨#[]⟩, .string ⟨#[]⟩, .string ⟨#[]⟩, .string ⟨#[]⟩, .string ⟨#[]⟩] 31)) (.cells #[.int .i64 0, .int .i64 0, .int .i64 0, .int .i64 0] 33)
  have BA := (((((Bx.mk w 23 #[.string ⟨a1.toArray⟩, .string ⟨a2.toArray⟩]).new (.cells #[.string ⟨b1.toArray⟩, .string ⟨b2.toArray⟩] 23)).new (.cells #[.string ⟨#[]⟩, .string ⟨#[]⟩, .string ⟨#[]⟩, .string ⟨#[]⟩, .string ⟨#[]⟩, .string ⟨#[]⟩, .string ⟨#[]⟩, .string ⟨#[]⟩] 31)).new (.cells #[.int .i64 0, .int .i64 0, .int .i64 0, .int .i64 0] 33)).new (.cells #[.string ⟨#[]⟩, .string ⟨#[]⟩, .string ⟨#[]⟩, .string ⟨#[]⟩, .string ⟨#[]⟩, .string ⟨#[]⟩, .string ⟨#[]⟩, .string ⟨#[]⟩] 31)).new (.cells #[.int .i64 0, .int .i64 0, .int .i64 0, .int .i64 0] 33)
  have BB := ((((Bx.mk (w.alloc (.cells #[.string ⟨a1.toArray⟩, .string ⟨a2.toArray⟩] 23)) 23 #[.string ⟨b1.toArray⟩, .string ⟨b2.toArray⟩]).new (.cells #[.string ⟨#[]⟩, .string ⟨#[]⟩, .string ⟨#[]⟩, .string ⟨#[]⟩, .string ⟨#[]⟩, .string ⟨#[]⟩, .string ⟨#[]⟩, .string ⟨#[]⟩] 31)).new (.cells #[.int .i64 0, .int .i64 0, .int .i64 0, .int .i64 0] 33)).new (.cells #[.string ⟨#[]⟩, .string ⟨#[]⟩, .string ⟨#[]⟩, .string ⟨#[]⟩, .string ⟨#[]⟩, .string ⟨#[]⟩, .string ⟨#[]⟩, .string ⟨#[]⟩] 31)).new (.cells #[.int .i64 0, .int .i64 0, .int .i64 0, .int .i64 0] 33)
  rw [alloc_size] at BB
  have BR := (((Bx.mk ((w.alloc (.cells #[.string ⟨a1.toArray⟩, .string ⟨a2.toArray⟩] 23)).alloc (.cells #[.string ⟨b1.toArray⟩, .string ⟨b2.toArray⟩] 23)) 31 #[.string ⟨#[]⟩, .string ⟨#[]⟩, .string ⟨#[]⟩, .string ⟨#[]⟩, .string ⟨#[]⟩, .string ⟨#[]⟩, .string ⟨#[]⟩, .string ⟨#[]⟩]).new (.cells #[.int .i64 0, .int .i64 0, .int .i64 0, .int .i64 0] 33)).new (.cells #[.string ⟨#[]⟩, .string ⟨#[]⟩, .string ⟨#[]⟩, .string ⟨#[]⟩, .string ⟨#[]⟩, .string ⟨#[]⟩, .string ⟨#[]⟩, .string ⟨#[]⟩] 31)).new (.cells #[.int .i64 0, .int .i64 0, .int .i64 0, .int .i64 0] 33)
  rw [alloc_size, alloc_size] at BR
  have BE := ((Bx.mk (((w.alloc (.cells #[.string ⟨a1.toArray⟩, .string ⟨a2.toArray⟩] 23)).alloc (.cells #[.string ⟨b1.toArray⟩, .string ⟨b2.toArray⟩] 23)).alloc (.cells #[.string ⟨#[]⟩, .string ⟨#[]⟩, .string ⟨#[]⟩, .string ⟨#[]⟩, .string ⟨#[]⟩, .string ⟨#[]⟩, .string ⟨#[]⟩, .string ⟨#[]⟩] 31)) 33 #[.int .i64 0, .int .i64 0, .int .i64 0, .int .i64 0]).new (.cells #[.string ⟨#[]⟩, .string ⟨#[]⟩, .string ⟨#[]⟩, .string ⟨#[]⟩, .string ⟨#[]⟩, .string ⟨#[]⟩, .string ⟨#[]⟩, .string ⟨#[]⟩] 31)).new (.cells #[.int .i64 0, .int .i64 0, .int .i64 0, .int .i64 0] 33)
  rw [alloc_size, alloc_size, alloc_size] at BE
  have Br := (Bx.mk ((((w.alloc (.cells #[.string ⟨a1.toArray⟩, .string ⟨a2.toArray⟩] 23)).alloc (.cells #[.string ⟨b1.toArray⟩, .string ⟨b2.toArray⟩] 23)).alloc (.cells #[.string ⟨#[]⟩, .string ⟨#[]⟩, .string ⟨#[]⟩, .string ⟨#[]⟩, .string ⟨#[]⟩, .string ⟨#[]⟩, .string ⟨#[]⟩, .string ⟨#[]⟩] 31)).alloc (.cells #[.int .i64 0, .int .i64 0, .int .i64 0, .int .i64 0] 33)) 31 #[.string ⟨#[]⟩, .string ⟨#[]⟩, .string ⟨#[]⟩, .string ⟨#[]⟩, .string ⟨#[]⟩, .string ⟨#[]⟩, .string ⟨#[]⟩, .string ⟨#[]⟩]).new (.cells #[.int .i64 0, .int .i64 0, .int .i64 0, .int .i64 0] 33)
  rw [alloc_size, alloc_size, alloc_size, alloc_size] at Br
  have Be := Bx.mk (((((w.alloc (.cells #[.string ⟨a1.toArray⟩, .string ⟨a2.toArray⟩] 23)).alloc (.cells #[.string ⟨b1.toArray⟩, .string ⟨b2.toArray⟩] 23)).alloc (.cells #[.string ⟨#[]⟩, .string ⟨#[]⟩, .string ⟨#[]⟩, .string ⟨#[]⟩, .string ⟨#[]⟩, .string ⟨#[]⟩, .string ⟨#[]⟩, .string ⟨#[]⟩] 31)).alloc (.cells #[.int .i64 0, .int .i64 0, .int .i64 0, .int .i64 0] 33)).alloc (.cells #[.string ⟨#[]⟩, .string ⟨#[]⟩, .string ⟨#[]⟩, .string ⟨#[]⟩, .string ⟨#[]⟩, .string ⟨#[]⟩, .string ⟨#[]⟩, .string ⟨#[]⟩] 31)) 33 #[.int .i64 0, .int .i64 0, .int .i64 0, .int .i64 0]
  rw [alloc_size, alloc_size, alloc_size, alloc_size, alloc_size] at Be
  have cA0 := BA.cell 0 rfl
  have cA1 := BA.cell 1 rfl
  have cB0 := BB.cell 0 rfl
  have cB1 := BB.cell 1 rfl
  have h1 := hA _ (hE.below hb)
  clear hA
  go_enter Tryz.func8, Tryz.ntmps8
  go_wp2_with fail
  refine (h1).mono ?_
  rintro _ w1 ⟨rfl, hb1⟩
  replace hb := bCall hb hb1
  replace BA := BA.call hb1
  replace BB := BB.call hb1
  replace BR := BR.call hb1
  replace BE := BE.call hb1
  replace Br := Br.call hb1
  replace Be := Be.call hb1
  clear hb1
  clear h1 cA0 cA1 cB0 cB1
  have cA0 := BA.cell 0 rfl
  have cA1 := BA.cell 1 rfl
  have cB0 := BB.cell 0 rfl
  have cB1 := BB.cell 1 rfl
  have cr0 := Br.cell 0 rfl
  have fr0 := Br.frozen 0
  have cr1 := Br.cell 1 rfl
  have fr1 := Br.frozen 1
  have cr2 := Br.cell 2 rfl
  have fr2 := Br.frozen 2
  have cr3 := Br.cell 3 rfl
  have fr3 := Br.frozen 3
  have cr4 := Br.cell 4 rfl
  have fr4 := Br.frozen 4
  have cr5 := Br.cell 5 rfl
  have fr5 := Br.frozen 5
  have cr6 := Br.cell 6 rfl
  have fr6 := Br.frozen 6
  have cr7 := Br.cell 7 rfl
  have fr7 := Br.frozen 7
  have ce0 := Be.cell 0 rfl
  have fe0 := Be.frozen 0
  have ce1 := Be.cell 1 rfl
  have fe1 := Be.frozen 1
  have ce2 := Be.cell 2 rfl
  have fe2 := Be.frozen 2
  have ce3 := Be.cell 3 rfl
  have fe3 := Be.frozen 3
  have old := True.intro
  have OA := BA
  have OB := BB
  have OR := BR
  have OE := BE
  have Or := Br
  have Oe := Be
  have Oh := hb
  replace BA := BA.far (p := ⟨w.heap.size + 1 + 1 + 1 + 1, 0, none⟩) (by show w.heap.size ≠ w.heap.size + 1 + 1 + 1 + 1; omega) (.string ⟨p1.toArray⟩)
  replace BB := BB.far (p := ⟨w.heap.size + 1 + 1 + 1 + 1, 0, none⟩) (by show w.heap.size + 1 ≠ w.heap.size + 1 + 1 + 1 + 1; omega) (.string ⟨p1.toArray⟩)
  replace BR := BR.far (p := ⟨w.heap.size + 1 + 1 + 1 + 1, 0, none⟩) (by show w.heap.size + 1 + 1 ≠ w.heap.size + 1 + 1 + 1 + 1; omega) (.string ⟨p1.toArray⟩)
  replace BE := BE.far (p := ⟨w.heap.size + 1 + 1 + 1 + 1, 0, none⟩) (by show w.heap.size + 1 + 1 + 1 ≠ w.heap.size + 1 + 1 + 1 + 1; omega) (.string ⟨p1.toArray⟩)
  replace Br := Br.set 0 (.string ⟨p1.toArray⟩)
  replace Be := Be.far (p := ⟨w.heap.size + 1 + 1 + 1 + 1, 0, none⟩) (by show w.heap.size + 1 + 1 + 1 + 1 + 1 ≠ w.heap.size + 1 + 1 + 1 + 1; omega) (.string ⟨p1.toArray⟩)
  replace hb := bSet hb (p := ⟨w.heap.size + 1 + 1 + 1 + 1, 0, none⟩) (by show w.heap.size ≤ w.heap.size + 1 + 1 + 1 + 1; omega) (.string ⟨p1.toArray⟩)
  replace BA := BA.far (p := ⟨w.heap.size + 1 + 1 + 1 + 1, 1, none⟩) (by show w.heap.size ≠ w.heap.size + 1 + 1 + 1 + 1; omega) (.string ⟨p2.toArray⟩)
  replace BB := BB.far (p := ⟨w.heap.size + 1 + 1 + 1 + 1, 1, none⟩) (by show w.heap.size + 1 ≠ w.heap.size + 1 + 1 + 1 + 1; omega) (.string ⟨p2.toArray⟩)
  replace BR := BR.far (p := ⟨w.heap.size + 1 + 1 + 1 + 1, 1, none⟩) (by show w.heap.size + 1 + 1 ≠ w.heap.size + 1 + 1 + 1 + 1; omega) (.string ⟨p2.toArray⟩)
  replace BE := BE.far (p := ⟨w.heap.size + 1 + 1 + 1 + 1, 1, none⟩) (by show w.heap.size + 1 + 1 + 1 ≠ w.heap.size + 1 + 1 + 1 + 1; omega) (.string ⟨p2.toArray⟩)
  replace Br := Br.set 1 (.string ⟨p2.toArray⟩)
  replace Be := Be.far (p := ⟨w.heap.size + 1 + 1 + 1 + 1, 1, none⟩) (by show w.heap.size + 1 + 1 + 1 + 1 + 1 ≠ w.heap.size + 1 + 1 + 1 + 1; omega) (.string ⟨p2.toArray⟩)
  replace hb := bSet hb (p := ⟨w.heap.size + 1 + 1 + 1 + 1, 1, none⟩) (by show w.heap.size ≤ w.heap.size + 1 + 1 + 1 + 1; omega) (.string ⟨p2.toArray⟩)
  replace BA := BA.far (p := ⟨w.heap.size + 1 + 1 + 1 + 1 + 1, 0, none⟩) (by show w.heap.size ≠ w.heap.size + 1 + 1 + 1 + 1 + 1; omega) (.int .i64 e1)
  replace BB := BB.far (p := ⟨w.heap.size + 1 + 1 + 1 + 1 + 1, 0, none⟩) (by show w.heap.size + 1 ≠ w.heap.size + 1 + 1 + 1 + 1 + 1; omega) (.int .i64 e1)
  replace BR := BR.far (p := ⟨w.heap.size + 1 + 1 + 1 + 1 + 1, 0, none⟩) (by show w.heap.size + 1 + 1 ≠ w.heap.size + 1 + 1 + 1 + 1 + 1; omega) (.int .i64 e1)
  replace BE := BE.far (p := ⟨w.heap.size + 1 + 1 + 1 + 1 + 1, 0, none⟩) (by show w.heap.size + 1 + 1 + 1 ≠ w.heap.size + 1 + 1 + 1 + 1 + 1; omega) (.int .i64 e1)
  replace Br := Br.far (p := ⟨w.heap.size + 1 + 1 + 1 + 1 + 1, 0, none⟩) (by show w.heap.size + 1 + 1 + 1 + 1 ≠ w.heap.size + 1 + 1 + 1 + 1 + 1; omega) (.int .i64 e1)
  replace Be := Be.set 0 (.int .i64 e1)
  replace hb := bSet hb (p := ⟨w.heap.size + 1 + 1 + 1 + 1 + 1, 0, none⟩) (by show w.heap.size ≤ w.heap.size + 1 + 1 + 1 + 1 + 1; omega) (.int .i64 e1)
  have h2 := hS _ (hE.below hb)
  clear hS
  clear OA OB OR OE Or Oe Oh old
  have k0 := True.intro
  have dA0 := BA.cell 0 rfl
  have dA1 := BA.cell 1 rfl
  have dB0 := BB.cell 0 rfl
  have dB1 := BB.cell 1 rfl
  go_wp2_with fail
  refine (h2).mono ?_
  rintro _ w2 ⟨rfl, hb1⟩
  replace hb := bCall hb hb1
  replace BA := BA.call hb1
  replace BB := BB.call hb1
  replace BR := BR.call hb1
  replace BE := BE.call hb1
  replace Br := Br.call hb1
  replace Be := Be.call hb1
  clear hb1
  clear h2 cA0 cA1 cB0 cB1
  have cA0 := BA.cell 0 rfl
  have cA1 := BA.cell 1 rfl
  have cB0 := BB.cell 0 rfl
  have cB1 := BB.cell 1 rfl
  have cr0 := Br.cell 0 rfl
  have fr0 := Br.frozen 0
  have cr1 := Br.cell 1 rfl
  have fr1 := Br.frozen 1
  have cr2 := Br.cell 2 rfl
  have fr2 := Br.frozen 2
  have cr3 := Br.cell 3 rfl
  have fr3 := Br.frozen 3
  have cr4 := Br.cell 4 rfl
  have fr4 := Br.frozen 4
  have cr5 := Br.cell 5 rfl
  have fr5 := Br.frozen 5
  have cr6 := Br.cell 6 rfl
  have fr6 := Br.frozen 6
  have cr7 := Br.cell 7 rfl
  have fr7 := Br.frozen 7
  have ce0 := Be.cell 0 rfl
  have fe0 := Be.frozen 0
  have ce1 := Be.cell 1 rfl
  have fe1 := Be.frozen 1
  have ce2 := Be.cell 2 rfl
  have fe2 := Be.frozen 2
  have ce3 := Be.cell 3 rfl
  have fe3 := Be.frozen 3
  have old := True.intro
  have OA := BA
  have OB := BB
  have OR := BR
  have OE := BE
  have Or := Br
  have Oe := Be
  have Oh := hb
  replace BA := BA.far (p := ⟨w.heap.size + 1 + 1 + 1 + 1, 2, none⟩) (by show w.heap.size ≠ w.heap.size + 1 + 1 + 1 + 1; omega) (.string ⟨q1.toArray⟩)
  replace BB := BB.far (p := ⟨w.heap.size + 1 + 1 + 1 + 1, 2, none⟩) (by show w.heap.size + 1 ≠ w.heap.size + 1 + 1 + 1 + 1; omega) (.string ⟨q1.toArray⟩)
  replace BR := BR.far (p := ⟨w.heap.size + 1 + 1 + 1 + 1, 2, none⟩) (by show w.heap.size + 1 + 1 ≠ w.heap.size + 1 + 1 + 1 + 1; omega) (.string ⟨q1.toArray⟩)
  replace BE := BE.far (p := ⟨w.heap.size + 1 + 1 + 1 + 1, 2, none⟩) (by show w.heap.size + 1 + 1 + 1 ≠ w.heap.size + 1 + 1 + 1 + 1; omega) (.string ⟨q1.toArray⟩)
  replace Br := Br.set 2 (.string ⟨q1.toArray⟩)
  replace Be := Be.far (p := ⟨w.heap.size + 1 + 1 + 1 + 1, 2, none⟩) (by show w.heap.size + 1 + 1 + 1 + 1 + 1 ≠ w.heap.size + 1 + 1 + 1 + 1; omega) (.string ⟨q1.toArray⟩)
  replace hb := bSet hb (p := ⟨w.heap.size + 1 + 1 + 1 + 1, 2, none⟩) (by show w.heap.size ≤ w.heap.size + 1 + 1 + 1 + 1; omega) (.string ⟨q1.toArray⟩)
  replace BA := BA.far (p := ⟨w.heap.size + 1 + 1 + 1 + 1, 3, none⟩) (by show w.heap.size ≠ w.heap.size + 1 + 1 + 1 + 1; omega) (.string ⟨q2.toArray⟩)
  replace BB := BB.far (p := ⟨w.heap.size + 1 + 1 + 1 + 1, 3, none⟩) (by show w.heap.size + 1 ≠ w.heap.size + 1 + 1 + 1 + 1; omega) (.string ⟨q2.toArray⟩)
  replace BR := BR.far (p := ⟨w.heap.size + 1 + 1 + 1 + 1, 3, none⟩) (by show w.heap.size + 1 + 1 ≠ w.heap.size + 1 + 1 + 1 + 1; omega) (.string ⟨q2.toArray⟩)
  replace BE := BE.far (p := ⟨w.heap.size + 1 + 1 + 1 + 1, 3, none⟩) (by show w.heap.size + 1 + 1 + 1 ≠ w.heap.size + 1 + 1 + 1 + 1; omega) (.string ⟨q2.toArray⟩)
  replace Br := Br.set 3 (.string ⟨q2.toArray⟩)
  replace Be := Be.far (p := ⟨w.heap.size + 1 + 1 + 1 + 1, 3, none⟩) (by show w.heap.size + 1 + 1 + 1 + 1 + 1 ≠ w.heap.size + 1 + 1 + 1 + 1; omega) (.string ⟨q2.toArray⟩)
  replace hb := bSet hb (p := ⟨w.heap.size + 1 + 1 + 1 + 1, 3, none⟩) (by show w.heap.size ≤ w.heap.size + 1 + 1 + 1 + 1; omega) (.string ⟨q2.toArray⟩)
  replace BA := BA.far (p := ⟨w.heap.size + 1 + 1 + 1 + 1 + 1, 1, none⟩) (by show w.heap.size ≠ w.heap.size + 1 + 1 + 1 + 1 + 1; omega) (.int .i64 e2)
  replace BB := BB.far (p := ⟨w.heap.size + 1 + 1 + 1 + 1 + 1, 1, none⟩) (by show w.heap.size + 1 ≠ w.heap.size + 1 + 1 + 1 + 1 + 1; omega) (.int .i64 e2)
  replace BR := BR.far (p := ⟨w.heap.size + 1 + 1 + 1 + 1 + 1, 1, none⟩) (by show w.heap.size + 1 + 1 ≠ w.heap.size + 1 + 1 + 1 + 1 + 1; omega) (.int .i64 e2)
  replace BE := BE.far (p := ⟨w.heap.size + 1 + 1 + 1 + 1 + 1, 1, none⟩) (by show w.heap.size + 1 + 1 + 1 ≠ w.heap.size + 1 + 1 + 1 + 1 + 1; omega) (.int .i64 e2)
  replace Br := Br.far (p := ⟨w.heap.size + 1 + 1 + 1 + 1 + 1, 1, none⟩) (by show w.heap.size + 1 + 1 + 1 + 1 ≠ w.heap.size + 1 + 1 + 1 + 1 + 1; omega) (.int .i64 e2)
  replace Be := Be.set 1 (.int .i64 e2)
  replace hb := bSet hb (p := ⟨w.heap.size + 1 + 1 + 1 + 1 + 1, 1, none⟩) (by show w.heap.size ≤ w.heap.size + 1 + 1 + 1 + 1 + 1; omega) (.int .i64 e2)
  have h3 := hM _ (hE.below hb)
  clear hM
  clear OA OB OR OE Or Oe Oh old
  have k0 := True.intro
  have dA0 := BA.cell 0 rfl
  have dA1 := BA.cell 1 rfl
  have dB0 := BB.cell 0 rfl
  have dB1 := BB.cell 1 rfl
  go_wp2_with fail
  refine (h3).mono ?_
  rintro _ w3 ⟨rfl, hb1⟩
  replace hb := bCall hb hb1
  replace BA := BA.call hb1
  replace BB := BB.call hb1
  replace BR := BR.call hb1
  replace BE := BE.call hb1
  replace Br := Br.call hb1
  replace Be := Be.call hb1
  clear hb1
  clear h3 cA0 cA1 cB0 cB1
  have cA0 := BA.cell 0 rfl
  have cA1 := BA.cell 1 rfl
  have cB0 := BB.cell 0 rfl
  have cB1 := BB.cell 1 rfl
  have cr0 := Br.cell 0 rfl
  have fr0 := Br.frozen 0
  have cr1 := Br.cell 1 rfl
  have fr1 := Br.frozen 1
  have cr2 := Br.cell 2 rfl
  have fr2 := Br.frozen 2
  have cr3 := Br.cell 3 rfl
  have fr3 := Br.frozen 3
  have cr4 := Br.cell 4 rfl
  have fr4 := Br.frozen 4
  have cr5 := Br.cell 5 rfl
  have fr5 := Br.frozen 5
  have cr6 := Br.cell 6 rfl
  have fr6 := Br.frozen 6
  have cr7 := Br.cell 7 rfl
  have fr7 := Br.frozen 7
  have ce0 := Be.cell 0 rfl
  have fe0 := Be.frozen 0
  have ce1 := Be.cell 1 rfl
  have fe1 := Be.frozen 1
  have ce2 := Be.cell 2 rfl
  have fe2 := Be.frozen 2
  have ce3 := Be.cell 3 rfl
  have fe3 := Be.frozen 3
  have old := True.intro
  have OA := BA
  have OB := BB
  have OR := BR
  have OE := BE
  have Or := Br
  have Oe := Be
  have Oh := hb
  replace BA := BA.far (p := ⟨w.heap.size + 1 + 1 + 1 + 1, 4, none⟩) (by show w.heap.size ≠ w.heap.size + 1 + 1 + 1 + 1; omega) (.string ⟨r1.toArray⟩)
  replace BB := BB.far (p := ⟨w.heap.size + 1 + 1 + 1 + 1, 4, none⟩) (by show w.heap.size + 1 ≠ w.heap.size + 1 + 1 + 1 + 1; omega) (.string ⟨r1.toArray⟩)
  replace BR := BR.far (p := ⟨w.heap.size + 1 + 1 + 1 + 1, 4, none⟩) (by show w.heap.size + 1 + 1 ≠ w.heap.size + 1 + 1 + 1 + 1; omega) (.string ⟨r1.toArray⟩)
  replace BE := BE.far (p := ⟨w.heap.size + 1 + 1 + 1 + 1, 4, none⟩) (by show w.heap.size + 1 + 1 + 1 ≠ w.heap.size + 1 + 1 + 1 + 1; omega) (.string ⟨r1.toArray⟩)
  replace Br := Br.set 4 (.string ⟨r1.toArray⟩)
  replace Be := Be.far (p := ⟨w.heap.size + 1 + 1 + 1 + 1, 4, none⟩) (by show w.heap.size + 1 + 1 + 1 + 1 + 1 ≠ w.heap.size + 1 + 1 + 1 + 1; omega) (.string ⟨r1.toArray⟩)
  replace hb := bSet hb (p := ⟨w.heap.size + 1 + 1 + 1 + 1, 4, none⟩) (by show w.heap.size ≤ w.heap.size + 1 + 1 + 1 + 1; omega) (.string ⟨r1.toArray⟩)
  replace BA := BA.far (p := ⟨w.heap.size + 1 + 1 + 1 + 1, 5, none⟩) (by show w.heap.size ≠ w.heap.size + 1 + 1 + 1 + 1; omega) (.string ⟨r2.toArray⟩)
  replace BB := BB.far (p := ⟨w.heap.size + 1 + 1 + 1 + 1, 5, none⟩) (by show w.heap.size + 1 ≠ w.heap.size + 1 + 1 + 1 + 1; omega) (.string ⟨r2.toArray⟩)
  replace BR := BR.far (p := ⟨w.heap.size + 1 + 1 + 1 + 1, 5, none⟩) (by show w.heap.size + 1 + 1 ≠ w.heap.size + 1 + 1 + 1 + 1; omega) (.string ⟨r2.toArray⟩)
  replace BE := BE.far (p := ⟨w.heap.size + 1 + 1 + 1 + 1, 5, none⟩) (by show w.heap.size + 1 + 1 + 1 ≠ w.heap.size + 1 + 1 + 1 + 1; omega) (.string ⟨r2.toArray⟩)
  replace Br := Br.set 5 (.string ⟨r2.toArray⟩)
  replace Be := Be.far (p := ⟨w.heap.size + 1 + 1 + 1 + 1, 5, none⟩) (by show w.heap.size + 1 + 1 + 1 + 1 + 1 ≠ w.heap.size + 1 + 1 + 1 + 1; omega) (.string ⟨r2.toArray⟩)
  replace hb := bSet hb (p := ⟨w.heap.size + 1 + 1 + 1 + 1, 5, none⟩) (by show w.heap.size ≤ w.heap.size + 1 + 1 + 1 + 1; omega) (.string ⟨r2.toArray⟩)
  replace BA := BA.far (p := ⟨w.heap.size + 1 + 1 + 1 + 1 + 1, 2, none⟩) (by show w.heap.size ≠ w.heap.size + 1 + 1 + 1 + 1 + 1; omega) (.int .i64 e3)
  replace BB := BB.far (p := ⟨w.heap.size + 1 + 1 + 1 + 1 + 1, 2, none⟩) (by show w.heap.size + 1 ≠ w.heap.size + 1 + 1 + 1 + 1 + 1; omega) (.int .i64 e3)
  replace BR := BR.far (p := ⟨w.heap.size + 1 + 1 + 1 + 1 + 1, 2, none⟩) (by show w.heap.size + 1 + 1 ≠ w.heap.size + 1 + 1 + 1 + 1 + 1; omega) (.int .i64 e3)
  replace BE := BE.far (p := ⟨w.heap.size + 1 + 1 + 1 + 1 + 1, 2, none⟩) (by show w.heap.size + 1 + 1 + 1 ≠ w.heap.size + 1 + 1 + 1 + 1 + 1; omega) (.int .i64 e3)
  replace Br := Br.far (p := ⟨w.heap.size + 1 + 1 + 1 + 1 + 1, 2, none⟩) (by show w.heap.size + 1 + 1 + 1 + 1 ≠ w.heap.size + 1 + 1 + 1 + 1 + 1; omega) (.int .i64 e3)
  replace Be := Be.set 2 (.int .i64 e3)
  replace hb := bSet hb (p := ⟨w.heap.size + 1 + 1 + 1 + 1 + 1, 2, none⟩) (by show w.heap.size ≤ w.heap.size + 1 + 1 + 1 + 1 + 1; omega) (.int .i64 e3)
  have h4 := hD _ (hE.below hb)
  clear hD
  clear OA OB OR OE Or Oe Oh old
  have k0 := True.intro
  have dA0 := BA.cell 0 rfl
  have dA1 := BA.cell 1 rfl
  have dB0 := BB.cell 0 rfl
  have dB1 := BB.cell 1 rfl
  go_wp2_with fail
  refine (h4).mono ?_
  rintro _ w4 ⟨rfl, hb1⟩
  replace hb := bCall hb hb1
  replace BA := BA.call hb1
  replace BB := BB.call hb1
  replace BR := BR.call hb1
  replace BE := BE.call hb1
  replace Br := Br.call hb1
  replace Be := Be.call hb1
  clear hb1
  clear h4 cA0 cA1 cB0 cB1
  have cA0 := BA.cell 0 rfl
  have cA1 := BA.cell 1 rfl
  have cB0 := BB.cell 0 rfl
  have cB1 := BB.cell 1 rfl
  have cr0 := Br.cell 0 rfl
  have fr0 := Br.frozen 0
  have cr1 := Br.cell 1 rfl
  have fr1 := Br.frozen 1
  have cr2 := Br.cell 2 rfl
  have fr2 := Br.frozen 2
  have cr3 := Br.cell 3 rfl
  have fr3 := Br.frozen 3
  have cr4 := Br.cell 4 rfl
  have fr4 := Br.frozen 4
  have cr5 := Br.cell 5 rfl
  have fr5 := Br.frozen 5
  have cr6 := Br.cell 6 rfl
  have fr6 := Br.frozen 6
  have cr7 := Br.cell 7 rfl
  have fr7 := Br.frozen 7
  have ce0 := Be.cell 0 rfl
  have fe0 := Be.frozen 0
  have ce1 := Be.cell 1 rfl
  have fe1 := Be.frozen 1
  have ce2 := Be.cell 2 rfl
  have fe2 := Be.frozen 2
  have ce3 := Be.cell 3 rfl
  have fe3 := Be.frozen 3
  have OA := BA
  have OB := BB
  have OR := BR
  have OE := BE
  have Or := Br
  have Oe := Be
  replace BA := BA.far (p := ⟨w.heap.size + 1 + 1 + 1 + 1, 6, none⟩) (by show w.heap.size ≠ w.heap.size + 1 + 1 + 1 + 1; omega) (.string ⟨s1.toArray⟩)
  replace BB := BB.far (p := ⟨w.heap.size + 1 + 1 + 1 + 1, 6, none⟩) (by show w.heap.size + 1 ≠ w.heap.size + 1 + 1 + 1 + 1; omega) (.string ⟨s1.toArray⟩)
  replace BR := BR.far (p := ⟨w.heap.size + 1 + 1 + 1 + 1, 6, none⟩) (by show w.heap.size + 1 + 1 ≠ w.heap.size + 1 + 1 + 1 + 1; omega) (.string ⟨s1.toArray⟩)
  replace BE := BE.far (p := ⟨w.heap.size + 1 + 1 + 1 + 1, 6, none⟩) (by show w.heap.size + 1 + 1 + 1 ≠ w.heap.size + 1 + 1 + 1 + 1; omega) (.string ⟨s1.toArray⟩)
  replace Br := Br.set 6 (.string ⟨s1.toArray⟩)
  replace Be := Be.far (p := ⟨w.heap.size + 1 + 1 + 1 + 1, 6, none⟩) (by show w.heap.size + 1 + 1 + 1 + 1 + 1 ≠ w.heap.size + 1 + 1 + 1 + 1; omega) (.string ⟨s1.toArray⟩)
  replace hb := bSet hb (p := ⟨w.heap.size + 1 + 1 + 1 + 1, 6, none⟩) (by show w.heap.size ≤ w.heap.size + 1 + 1 + 1 + 1; omega) (.string ⟨s1.toArray⟩)
  replace BA := BA.far (p := ⟨w.heap.size + 1 + 1 + 1 + 1, 7, none⟩) (by show w.heap.size ≠ w.heap.size + 1 + 1 + 1 + 1; omega) (.string ⟨s2.toArray⟩)
  replace BB := BB.far (p := ⟨w.heap.size + 1 + 1 + 1 + 1, 7, none⟩) (by show w.heap.size + 1 ≠ w.heap.size + 1 + 1 + 1 + 1; omega) (.string ⟨s2.toArray⟩)
  replace BR := BR.far (p := ⟨w.heap.size + 1 + 1 + 1 + 1, 7, none⟩) (by show w.heap.size + 1 + 1 ≠ w.heap.size + 1 + 1 + 1 + 1; omega) (.string ⟨s2.toArray⟩)
  replace BE := BE.far (p := ⟨w.heap.size + 1 + 1 + 1 + 1, 7, none⟩) (by show w.heap.size + 1 + 1 + 1 ≠ w.heap.size + 1 + 1 + 1 + 1; omega) (.string ⟨s2.toArray⟩)
  replace Br := Br.set 7 (.string ⟨s2.toArray⟩)
  replace Be := Be.far (p := ⟨w.heap.size + 1 + 1 + 1 + 1, 7, none⟩) (by show w.heap.size + 1 + 1 + 1 + 1 + 1 ≠ w.heap.size + 1 + 1 + 1 + 1; omega) (.string ⟨s2.toArray⟩)
  replace hb := bSet hb (p := ⟨w.heap.size + 1 + 1 + 1 + 1, 7, none⟩) (by show w.heap.size ≤ w.heap.size + 1 + 1 + 1 + 1; omega) (.string ⟨s2.toArray⟩)
  replace BA := BA.far (p := ⟨w.heap.size + 1 + 1 + 1 + 1 + 1, 3, none⟩) (by show w.heap.size ≠ w.heap.size + 1 + 1 + 1 + 1 + 1; omega) (.int .i64 e4)
  replace BB := BB.far (p := ⟨w.heap.size + 1 + 1 + 1 + 1 + 1, 3, none⟩) (by show w.heap.size + 1 ≠ w.heap.size + 1 + 1 + 1 + 1 + 1; omega) (.int .i64 e4)
  replace BR := BR.far (p := ⟨w.heap.size + 1 + 1 + 1 + 1 + 1, 3, none⟩) (by show w.heap.size + 1 + 1 ≠ w.heap.size + 1 + 1 + 1 + 1 + 1; omega) (.int .i64 e4)
  replace BE := BE.far (p := ⟨w.heap.size + 1 + 1 + 1 + 1 + 1, 3, none⟩) (by show w.heap.size + 1 + 1 + 1 ≠ w.heap.size + 1 + 1 + 1 + 1 + 1; omega) (.int .i64 e4)
  replace Br := Br.far (p := ⟨w.heap.size + 1 + 1 + 1 + 1 + 1, 3, none⟩) (by show w.heap.size + 1 + 1 + 1 + 1 ≠ w.heap.size + 1 + 1 + 1 + 1 + 1; omega) (.int .i64 e4)
  replace Be := Be.set 3 (.int .i64 e4)
  replace hb := bSet hb (p := ⟨w.heap.size + 1 + 1 + 1 + 1 + 1, 3, none⟩) (by show w.heap.size ≤ w.heap.size + 1 + 1 + 1 + 1 + 1; omega) (.int .i64 e4)
  clear OA OB OR OE Or Oe
  go_wp2
  have XA : Bx (((w4.setCell ⟨w.heap.size + 1 + 1 + 1 + 1, 6, none⟩ (.string ⟨s1.toArray⟩)).setCell ⟨w.heap.size + 1 + 1 + 1 + 1, 7, none⟩ (.string ⟨s2.toArray⟩)).setCell ⟨w.heap.size + 1 + 1 + 1 + 1 + 1, 3, none⟩ (.int .i64 e4)) (w.heap.size) 23 #[.string ⟨a1.toArray⟩, .string ⟨a2.toArray⟩] := BA
  have XB : Bx (((w4.setCell ⟨w.heap.size + 1 + 1 + 1 + 1, 6, none⟩ (.string ⟨s1.toArray⟩)).setCell ⟨w.heap.size + 1 + 1 + 1 + 1, 7, none⟩ (.string ⟨s2.toArray⟩)).setCell ⟨w.heap.size + 1 + 1 + 1 + 1 + 1, 3, none⟩ (.int .i64 e4)) (w.heap.size + 1) 23 #[.string ⟨b1.toArray⟩, .string ⟨b2.toArray⟩] := BB
  have XR : Bx (((w4.setCell ⟨w.heap.size + 1 + 1 + 1 + 1, 6, none⟩ (.string ⟨s1.toArray⟩)).setCell ⟨w.heap.size + 1 + 1 + 1 + 1, 7, none⟩ (.string ⟨s2.toArray⟩)).setCell ⟨w.heap.size + 1 + 1 + 1 + 1 + 1, 3, none⟩ (.int .i64 e4)) (w.heap.size + 1 + 1) 31 #[.string ⟨#[]⟩, .string ⟨#[]⟩, .string ⟨#[]⟩, .string ⟨#[]⟩, .string ⟨#[]⟩, .string ⟨#[]⟩, .string ⟨#[]⟩, .string ⟨#[]⟩] := BR
  have XE : Bx (((w4.setCell ⟨w.heap.size + 1 + 1 + 1 + 1, 6, none⟩ (.string ⟨s1.toArray⟩)).setCell ⟨w.heap.size + 1 + 1 + 1 + 1, 7, none⟩ (.string ⟨s2.toArray⟩)).setCell ⟨w.heap.size + 1 + 1 + 1 + 1 + 1, 3, none⟩ (.int .i64 e4)) (w.heap.size + 1 + 1 + 1) 33 #[.int .i64 0, .int .i64 0, .int .i64 0, .int .i64 0] := BE
  have Xr : Bx (((w4.setCell ⟨w.heap.size + 1 + 1 + 1 + 1, 6, none⟩ (.string ⟨s1.toArray⟩)).setCell ⟨w.heap.size + 1 + 1 + 1 + 1, 7, none⟩ (.string ⟨s2.toArray⟩)).setCell ⟨w.heap.size + 1 + 1 + 1 + 1 + 1, 3, none⟩ (.int .i64 e4)) (w.heap.size + 1 + 1 + 1 + 1) 31 #[.string ⟨p1.toArray⟩, .string ⟨p2.toArray⟩, .string ⟨q1.toArray⟩, .string ⟨q2.toArray⟩, .string ⟨r1.toArray⟩, .string ⟨r2.toArray⟩, .string ⟨s1.toArray⟩, .string ⟨s2.toArray⟩] := Br
  have Xe : Bx (((w4.setCell ⟨w.heap.size + 1 + 1 + 1 + 1, 6, none⟩ (.string ⟨s1.toArray⟩)).setCell ⟨w.heap.size + 1 + 1 + 1 + 1, 7, none⟩ (.string ⟨s2.toArray⟩)).setCell ⟨w.heap.size + 1 + 1 + 1 + 1 + 1, 3, none⟩ (.int .i64 e4)) (w.heap.size + 1 + 1 + 1 + 1 + 1) 33 #[.int .i64 e1, .int .i64 e2, .int .i64 e3, .int .i64 e4] := Be
  have Xh : Below w.heap.size w (((w4.setCell ⟨w.heap.size + 1 + 1 + 1 + 1, 6, none⟩ (.string ⟨s1.toArray⟩)).setCell ⟨w.heap.size + 1 + 1 + 1 + 1, 7, none⟩ (.string ⟨s2.toArray⟩)).setCell ⟨w.heap.size + 1 + 1 + 1 + 1 + 1, 3, none⟩ (.int .i64 e4)) := hb
  clear BA BB BR BE Br Be hb cr0 fr0 cr1 fr1 cr2 fr2 cr3 fr3 cr4 fr4 cr5 fr5 cr6 fr6 cr7 fr7 ce0 fe0 ce1 fe1 ce2 fe2 ce3 fe3
  generalize (((w4.setCell ⟨w.heap.size + 1 + 1 + 1 + 1, 6, none⟩ (.string ⟨s1.toArray⟩)).setCell ⟨w.heap.size + 1 + 1 + 1 + 1, 7, none⟩ (.string ⟨s2.toArray⟩)).setCell ⟨w.heap.size + 1 + 1 + 1 + 1 + 1, 3, none⟩ (.int .i64 e4)) = W at *
  have BA := XA
  have BB := XB
  have BR := XR
  have BE := XE
  have Br := Xr
  have Be := Xe
  have hb := Xh
  clear Xh XA XB XR XE Xr Xe
  clear BA BB
  have cr0 := Br.cell 0 rfl
  have cr1 := Br.cell 1 rfl
  have cr2 := Br.cell 2 rfl
  have cr3 := Br.cell 3 rfl
  have cr4 := Br.cell 4 rfl
  have cr5 := Br.cell 5 rfl
  have cr6 := Br.cell 6 rfl
  have cr7 := Br.cell 7 rfl
  have ce0 := Be.cell 0 rfl
  have ce1 := Be.cell 1 rfl
  have ce2 := Be.cell 2 rfl
  have ce3 := Be.cell 3 rfl
  have cR0 := BR.cell 0 rfl
  have fR0 := BR.frozen 0
  have cR1 := BR.cell 1 rfl
  have fR1 := BR.frozen 1
  have cR2 := BR.cell 2 rfl
  have fR2 := BR.frozen 2
  have cR3 := BR.cell 3 rfl
  have fR3 := BR.frozen 3
  have cR4 := BR.cell 4 rfl
  have fR4 := BR.frozen 4
  have cR5 := BR.cell 5 rfl
  have fR5 := BR.frozen 5
  have cR6 := BR.cell 6 rfl
  have fR6 := BR.frozen 6
  have cR7 := BR.cell 7 rfl
  have fR7 := BR.frozen 7
  have cE0 := BE.cell 0 rfl
  have fE0 := BE.frozen 0
  have cE1 := BE.cell 1 rfl
  have fE1 := BE.frozen 1
  have cE2 := BE.cell 2 rfl
  have fE2 := BE.frozen 2
  have cE3 := BE.cell 3 rfl
  have fE3 := BE.frozen 3
  go_region
  clear Br Be
  replace BR := BR.set 0 (.string ⟨p1.toArray⟩)
  replace BE := BE.far (p := ⟨w.heap.size + 1 + 1, 0, none⟩) (by show w.heap.size + 1 + 1 + 1 ≠ w.heap.size + 1 + 1; omega) (.string ⟨p1.toArray⟩)
  replace hb := bSet hb (p := ⟨w.heap.size + 1 + 1, 0, none⟩) (by show w.heap.size ≤ w.heap.size + 1 + 1; omega) (.string ⟨p1.toArray⟩)
  replace BR := BR.set 1 (.string ⟨p2.toArray⟩)
  replace BE := BE.far (p := ⟨w.heap.size + 1 + 1, 1, none⟩) (by show w.heap.size + 1 + 1 + 1 ≠ w.heap.size + 1 + 1; omega) (.string ⟨p2.toArray⟩)
  replace hb := bSet hb (p := ⟨w.heap.size + 1 + 1, 1, none⟩) (by show w.heap.size ≤ w.heap.size + 1 + 1; omega) (.string ⟨p2.toArray⟩)
  replace BR := BR.set 2 (.string ⟨q1.toArray⟩)
  replace BE := BE.far (p := ⟨w.heap.size + 1 + 1, 2, none⟩) (by show w.heap.size + 1 + 1 + 1 ≠ w.heap.size + 1 + 1; omega) (.string ⟨q1.toArray⟩)
  replace hb := bSet hb (p := ⟨w.heap.size + 1 + 1, 2, none⟩) (by show w.heap.size ≤ w.heap.size + 1 + 1; omega) (.string ⟨q1.toArray⟩)
  replace BR := BR.set 3 (.string ⟨q2.toArray⟩)
  replace BE := BE.far (p := ⟨w.heap.size + 1 + 1, 3, none⟩) (by show w.heap.size + 1 + 1 + 1 ≠ w.heap.size + 1 + 1; omega) (.string ⟨q2.toArray⟩)
  replace hb := bSet hb (p := ⟨w.heap.size + 1 + 1, 3, none⟩) (by show w.heap.size ≤ w.heap.size + 1 + 1; omega) (.string ⟨q2.toArray⟩)
  replace BR := BR.set 4 (.string ⟨r1.toArray⟩)
  replace BE := BE.far (p := ⟨w.heap.size + 1 + 1, 4, none⟩) (by show w.heap.size + 1 + 1 + 1 ≠ w.heap.size + 1 + 1; omega) (.string ⟨r1.toArray⟩)
  replace hb := bSet hb (p := ⟨w.heap.size + 1 + 1, 4, none⟩) (by show w.heap.size ≤ w.heap.size + 1 + 1; omega) (.string ⟨r1.toArray⟩)
  replace BR := BR.set 5 (.string ⟨r2.toArray⟩)
  replace BE := BE.far (p := ⟨w.heap.size + 1 + 1, 5, none⟩) (by show w.heap.size + 1 + 1 + 1 ≠ w.heap.size + 1 + 1; omega) (.string ⟨r2.toArray⟩)
  replace hb := bSet hb (p := ⟨w.heap.size + 1 + 1, 5, none⟩) (by show w.heap.size ≤ w.heap.size + 1 + 1; omega) (.string ⟨r2.toArray⟩)
  replace BR := BR.set 6 (.string ⟨s1.toArray⟩)
  replace BE := BE.far (p := ⟨w.heap.size + 1 + 1, 6, none⟩) (by show w.heap.size + 1 + 1 + 1 ≠ w.heap.size + 1 + 1; omega) (.string ⟨s1.toArray⟩)
  replace hb := bSet hb (p := ⟨w.heap.size + 1 + 1, 6, none⟩) (by show w.heap.size ≤ w.heap.size + 1 + 1; omega) (.string ⟨s1.toArray⟩)
  replace BR := BR.set 7 (.string ⟨s2.toArray⟩)
  replace BE := BE.far (p := ⟨w.heap.size + 1 + 1, 7, none⟩) (by show w.heap.size + 1 + 1 + 1 ≠ w.heap.size + 1 + 1; omega) (.string ⟨s2.toArray⟩)
  replace hb := bSet hb (p := ⟨w.heap.size + 1 + 1, 7, none⟩) (by show w.heap.size ≤ w.heap.size + 1 + 1; omega) (.string ⟨s2.toArray⟩)
  replace BR := BR.far (p := ⟨w.heap.size + 1 + 1 + 1, 0, none⟩) (by show w.heap.size + 1 + 1 ≠ w.heap.size + 1 + 1 + 1; omega) (.int .i64 e1)
  replace BE := BE.set 0 (.int .i64 e1)
  replace hb := bSet hb (p := ⟨w.heap.size + 1 + 1 + 1, 0, none⟩) (by show w.heap.size ≤ w.heap.size + 1 + 1 + 1; omega) (.int .i64 e1)
  replace BR := BR.far (p := ⟨w.heap.size + 1 + 1 + 1, 1, none⟩) (by show w.heap.size + 1 + 1 ≠ w.heap.size + 1 + 1 + 1; omega) (.int .i64 e2)
  replace BE := BE.set 1 (.int .i64 e2)
  replace hb := bSet hb (p := ⟨w.heap.size + 1 + 1 + 1, 1, none⟩) (by show w.heap.size ≤ w.heap.size + 1 + 1 + 1; omega) (.int .i64 e2)
  replace BR := BR.far (p := ⟨w.heap.size + 1 + 1 + 1, 2, none⟩) (by show w.heap.size + 1 + 1 ≠ w.heap.size + 1 + 1 + 1; omega) (.int .i64 e3)
  replace BE := BE.set 2 (.int .i64 e3)
  replace hb := bSet hb (p := ⟨w.heap.size + 1 + 1 + 1, 2, none⟩) (by show w.heap.size ≤ w.heap.size + 1 + 1 + 1; omega) (.int .i64 e3)
  replace BR := BR.far (p := ⟨w.heap.size + 1 + 1 + 1, 3, none⟩) (by show w.heap.size + 1 + 1 ≠ w.heap.size + 1 + 1 + 1; omega) (.int .i64 e4)
  replace BE := BE.set 3 (.int .i64 e4)
  replace hb := bSet hb (p := ⟨w.heap.size + 1 + 1 + 1, 3, none⟩) (by show w.heap.size ≤ w.heap.size + 1 + 1 + 1; omega) (.int .i64 e4)
  have hb9 := Below.drew hb
  go_wp2
  exact bodyPost_ret (results_44 rfl _ _ rfl rfl (BR.drewN 1) (BE.drewN 1)) rfl ⟨rfl, hb9⟩
end Go.Proofs.YthnikbladjaifaaGreatDoor
namespace Go.Proofs.YthnikbladjaifaaGreatDoor.RS
set_option linter.unusedVariables false
open Go.RowKit
variable {B : Nat} {t : TypeId} {cs : Array Value} {W w w' : World}
theorem KF.rf (B : Nat) (t : TypeId) (cs : Array Value) (w : World) : KF B t cs w w := (cls_KF B t cs).refl w
theorem KF.call (h : KF B t cs W w) (hB : B ≤ W.heap.size) (hb : Below w.heap.size w w') : KF B t cs w w' := KF.of (Nat.le_trans hB h.2.1) hb
theorem KF.new (h : KF B t cs W w) (hB : B ≤ W.heap.size) (z : Array Value) (hz : z.size = cs.size) (x : Value) : KF B t cs w (w.alloc (.cells z t)) ∧ PtrR B t cs x (.pointer (some ⟨w.heap.size, 0, none⟩)) (w.alloc (.cells z t)) :=
  ⟨h.call hB (bNew (Below.refl w.heap.size w) _), _, z, rfl, Nat.le_trans hB h.2.1, hz, Bx.mk w t z⟩
theorem two_cells {c : Array Value} (h : c.size = 2) : ∃ a b, c = #[a, b] := by
  refine ⟨c[0], c[1], ?_⟩
  apply Array.ext
  · simp [h]
  · intro i h1 h2
    have : i = 0 ∨ i = 1 := by omega
    rcases this with rfl | rfl <;> rfl
theorem KF.store2 {x y a b : Value} {g : Nat} (hg : B ≤ g) (hB : Bx w g t #[a, b]) (u : Value) (hu : u = .pointer (some ⟨g, 0, none⟩)) (z : Value) :
    KF B t #[x, y] w ((w.setCell ⟨g, 0, none⟩ x).setCell ⟨g, 1, none⟩ y) ∧ StoR B t #[x, y] u z ((w.setCell ⟨g, 0, none⟩ x).setCell ⟨g, 1, none⟩ y) := by
  have h2 : Bx ((w.setCell ⟨g, 0, none⟩ x).setCell ⟨g, 1, none⟩ y) g t #[x, y] := by simpa using (hB.set 0 x).set 1 y
  refine ⟨⟨((Below.refl B w).setCell (p := ⟨g, 0, none⟩) hg x).setCell (p := ⟨g, 1, none⟩) hg y, ?_, fun g' c hg' h hc => ?_⟩, g, hu, hg, h2⟩
  · have := ((Below.refl B w).setCell (p := ⟨g, 0, none⟩) hg x).setCell (p := ⟨g, 1, none⟩) hg y
    exact this.size
  · by_cases e : g' = g
    · subst e
      have ht : c.size = 2 ∧ True := ⟨hc, trivial⟩
      right
      exact h2
    · left
      exact (h.far (p := ⟨g, 0, none⟩) e x).far (p := ⟨g, 1, none⟩) e y
end Go.Proofs.YthnikbladjaifaaGreatDoor.RS
namespace Go.Proofs.YthnikbladjaifaaGreatDoor
set_option linter.unusedVariables false
set_option linter.unusedSimpArgs false
open Go.RowKit Go.Shelf
theorem i64_fits' {z : Int} (h : I64 z) : Ig.fits z := by
  have h1 : z.natAbs < 10 ^ 20 := by have := h.1; have := h.2; omega
  exact Nat.lt_of_lt_of_le h1 (Nat.pow_le_pow_right (by decide) (by decide))
set_option maxRecDepth 100000 in
set_option maxHeartbeats 2000000 in
theorem Of_ok (n d : Int) (w : World) (hn : I64 n) (hf : I64 d) (hd : d ≠ 0) (hE : Env w) :
    Calls Tryz.prog 24 #[.int .i64 n, .int .i64 d] w fun e w' => e = .returned (.tuple #[QV (Rat.divInt n d), .int .i64 0]) ∧ Below w.heap.size w w' := by
  have hF1 := fun w0 hE0 => FromInt_any n w0 hn.1 hn.2 hE0
  have hF2 := fun w0 hE0 => FromInt_any d w0 hf.1 hf.2 hE0
  have hM := fun w0 hE0 => Make_ok n d w0 (i64_fits' hn) (i64_fits' hf) hd hE0
  unfold QV at *
  generalize Lib.itoa (Rat.divInt n d).num = sa at *
  generalize Lib.itoa ((Rat.divInt n d).den : Int) = sb at *
  generalize Lib.itoa n = sn at *
  generalize Lib.itoa d = sd at *
  have B := Bx.mk w 23 #[.string ⟨#[]⟩, .string ⟨#[]⟩]
  have hb := bNewW w (.cells #[.string ⟨#[]⟩, .string ⟨#[]⟩] 23)
  clear hd
  go_enter Tryz.func24, Tryz.ntmps24
  go_wp2_with fail
  refine (hF1 _ (hE.below hb)).mono ?_
  rintro _ w1 ⟨rfl, hb1⟩
  replace hb := bCall hb hb1
  replace B := B.call hb1
  clear hF1 hb1
  go_wp2_with fail
  refine (hF2 _ (hE.below hb)).mono ?_
  rintro _ w2 ⟨rfl, hb1⟩
  replace hb := bCall hb hb1
  replace B := B.call hb1
  clear hF2 hb1
  go_wp2_with fail
  refine (hM _ (hE.below hb)).mono ?_
  rintro _ w3 ⟨rfl, hb1⟩
  replace hb := bCall hb hb1
  replace B := B.call hb1
  clear hM hb1
  have r0 := B.cell 0 rfl
  have r1 := B.cell 1 rfl
  have f0 := B.frozen 0
  have f1 := B.frozen 1
  have B2 := (B.set 0 (.string ⟨sa.toArray⟩)).set 1 (.string ⟨sb.toArray⟩)
  have hb2 := bSet (bSet hb (p := ⟨w.heap.size, 0, none⟩) (Nat.le_refl _) (.string ⟨sa.toArray⟩)) (p := ⟨w.heap.size, 1, none⟩) (Nat.le_refl _) (.string ⟨sb.toArray⟩)
  go_wp2
  exact bodyPost_ret (results_Q rfl _ _ rfl rfl B2) rfl ⟨rfl, hb2⟩
set_option maxRecDepth 100000 in
set_option maxHeartbeats 2000000 in
theorem Of_zero (n : Int) (w : World) (hn : I64 n) (hE : Env w) :
    Calls Tryz.prog 24 #[.int .i64 n, .int .i64 0] w fun e w' => e = .returned (.tuple #[QZ, .int .i64 40]) ∧ Below w.heap.size w w' := by
  have hF1 := fun w0 hE0 => FromInt_any n w0 hn.1 hn.2 hE0
  have hF2 := fun w0 hE0 => FromInt_any 0 w0 (by decide) (by decide) hE0
  have hM := fun w0 => Make_zero n w0 (i64_fits' hn)
  unfold QZ at *
  generalize Lib.itoa 0 = sd at *
  generalize Lib.itoa n = sn at *
  have B := Bx.mk w 23 #[.string ⟨#[]⟩, .string ⟨#[]⟩]
  have hb := bNewW w (.cells #[.string ⟨#[]⟩, .string ⟨#[]⟩] 23)
  go_enter Tryz.func24, Tryz.ntmps24
  go_wp2_with fail
  refine (hF1 _ (hE.below hb)).mono ?_
  rintro _ w1 ⟨rfl, hb1⟩
  replace hb := bCall hb hb1
  replace B := B.call hb1
  clear hF1 hb1
  go_wp2_with fail
  refine (hF2 _ (hE.below hb)).mono ?_
  rintro _ w2 ⟨rfl, hb1⟩
  replace hb := bCall hb hb1
  replace B := B.call hb1
  clear hF2 hb1
  go_wp2_with fail
  refine (hM _).mono ?_
  rintro _ w3 ⟨rfl, hb1⟩
  replace hb := bCall hb hb1
  replace B := B.call hb1
  clear hM hb1
  have r0 := B.cell 0 rfl
  have r1 := B.cell 1 rfl
  have f0 := B.frozen 0
  have f1 := B.frozen 1
  have B2 := (B.set 0 (.string ⟨#[]⟩)).set 1 (.string ⟨#[]⟩)
  have hb2 := bSet (bSet hb (p := ⟨w.heap.size, 0, none⟩) (Nat.le_refl _) (.string ⟨#[]⟩)) (p := ⟨w.heap.size, 1, none⟩) (Nat.le_refl _) (.string ⟨#[]⟩)
  go_wp2
  exact bodyPost_ret (results_Q rfl _ _ rfl rfl B2) rfl ⟨rfl, hb2⟩
end Go.Proofs.YthnikbladjaifaaGreatDoor
namespace Go.Proofs.YthnikbladjaifaaGreatDoor
set_option linter.unusedVariables false
set_option linter.unusedSimpArgs false
open Go.RowKit Go.Shelf
/-- a fraction of which the texts are known -/
theorem qv_lit {q : Rat} {n d : List UInt8} (h1 : Lib.itoa q.num = n) (h2 : Lib.itoa (q.den : Int) = d) : QV q = .agg #[.string ⟨n.toArray⟩, .string ⟨d.toArray⟩] := by
  rw [← h1, ← h2]; rfl
theorem fq_small {q : Rat} (h1 : q.num.natAbs < 1000000) (h2 : q.den < 1000000) : Rq.Fq q :=
  ⟨Nat.lt_of_lt_of_le (show q.num.natAbs < 10 ^ 6 from h1) (Nat.pow_le_pow_right (by decide) (by decide)), by
    unfold Ig.fits
    rw [Int.natAbs_natCast]
    exact Nat.lt_of_lt_of_le (show q.den < 10 ^ 6 from h2) (Nat.pow_le_pow_right (by decide) (by decide))⟩
theorem fits_small6 {z : Int} (h : z.natAbs < 1000000) : Ig.fits z := Nat.lt_of_lt_of_le (show z.natAbs < 10 ^ 6 from h) (Nat.pow_le_pow_right (by decide) (by decide))
theorem parse_64 : Rq.parseB [54, 47, 52] = false := by
  by_cases h : Rq.parseB [54, 47, 52] = true
  · obtain ⟨q, hq, -, e1, e2⟩ := Rq.parseB_is h
    have h1 : Rq.numP [54, 47, 52] = Lib.itoa 6 := by decide +kernel
    have h2 : Rq.denP [54, 47, 52] = Lib.itoa 4 := by decide +kernel
    have n1 := Ig.itoa_inj (e1.symm.trans h1)
    have n2 := Ig.itoa_inj (e2.symm.trans h2)
    have := Rq.q_gcd q
    rw [n1, n2] at this
    exact absurd this (by decide)
  · simpa using h
theorem ok_empty : Rq.okB [] [] = false := Rq.okB_false (fun ⟨q, _, e, _⟩ => Rq.itoa_ne _ e.symm)
section
variable (w : World) (hE : Env w)
theorem Sane1 (hE : Env w) : Calls Tryz.prog 24 #[.int .i64 6, .int .i64 (-4)] w fun e w' => e = .returned (.tuple #[.agg #[.string ⟨#[45, 51]⟩, .string ⟨#[50]⟩], .int .i64 0]) ∧ Below w.heap.size w w' := by
  have h := Of_ok 6 (-4) w ⟨by decide, by decide⟩ ⟨by decide, by decide⟩ (by decide) hE
  rw [qv_lit (q := Rat.divInt 6 (-4)) (n := [45, 51]) (d := [50]) (by decide +kernel) (by decide +kernel)] at h
  exact h
theorem Sane2 (hE : Env w) : Calls Tryz.prog 24 #[.int .i64 0, .int .i64 (-5)] w fun e w' => e = .returned (.tuple #[.agg #[.string ⟨#[48]⟩, .string ⟨#[49]⟩], .int .i64 0]) ∧ Below w.heap.size w w' := by
  have h := Of_ok 0 (-5) w ⟨by decide, by decide⟩ ⟨by decide, by decide⟩ (by decide) hE
  rw [qv_lit (q := Rat.divInt 0 (-5)) (n := [48]) (d := [49]) (by decide +kernel) (by decide +kernel)] at h
  exact h
theorem Sane3 (hE : Env w) : Calls Tryz.prog 24 #[.int .i64 1, .int .i64 0] w fun e w' => e = .returned (.tuple #[.agg #[.string ⟨#[]⟩, .string ⟨#[]⟩], .int .i64 40]) ∧ Below w.heap.size w w' := by
  exact Of_zero 1 w ⟨by decide, by decide⟩ hE
theorem Sane4 (hE : Env w) : Calls Tryz.prog 26 #[.agg #[.string ⟨#[49]⟩, .string ⟨#[50]⟩], .agg #[.string ⟨#[49]⟩, .string ⟨#[51]⟩]] w fun e w' => e = .returned (.tuple #[.agg #[.string ⟨#[53]⟩, .string ⟨#[54]⟩], .int .i64 0]) ∧ Below w.heap.size w w' := by
  have h := QAdd_good (Rat.divInt 1 2) (Rat.divInt 1 3) w hE (fq_small (q := (Rat.divInt 1 2)) (by decide +kernel) (by decide +kernel)) (fq_small (q := (Rat.divInt 1 3)) (by decide +kernel) (by decide +kernel)) ⟨(fits_small6 (by decide +kernel)), (fits_small6 (by decide +kernel)), (fits_small6 (by decide +kernel)), (fits_small6 (by decide +kernel))⟩
  rw [qv_lit (q := (Rat.divInt 1 2)) (n := [49]) (d := [50]) (by decide +kernel) (by decide +kernel), qv_lit (q := (Rat.divInt 1 3)) (n := [49]) (d := [51]) (by decide +kernel) (by decide +kernel), qv_lit (q := (Rat.divInt 1 2) + (Rat.divInt 1 3)) (n := [53]) (d := [54]) (by decide +kernel) (by decide +kernel)] at h
  exact h
theorem Sane5 (hE : Env w) : Calls Tryz.prog 28 #[.agg #[.string ⟨#[49]⟩, .string ⟨#[50]⟩], .agg #[.string ⟨#[45, 49]⟩, .string ⟨#[52]⟩]] w fun e w' => e = .returned (.tuple #[.agg #[.string ⟨#[45, 50]⟩, .string ⟨#[49]⟩], .int .i64 0]) ∧ Below w.heap.size w w' := by
  have h := QDiv_good (Rat.divInt 1 2) (Rat.divInt (-1) 4) w hE (fq_small (q := (Rat.divInt 1 2)) (by decide +kernel) (by decide +kernel)) (fq_small (q := (Rat.divInt (-1) 4)) (by decide +kernel) (by decide +kernel)) (fits_small6 (by decide +kernel)) (fits_small6 (by decide +kernel)) (by decide +kernel)
  rw [qv_lit (q := (Rat.divInt 1 2)) (n := [49]) (d := [50]) (by decide +kernel) (by decide +kernel), qv_lit (q := (Rat.divInt (-1) 4)) (n := [45, 49]) (d := [52]) (by decide +kernel) (by decide +kernel), qv_lit (q := (Rat.divInt 1 2) / (Rat.divInt (-1) 4)) (n := [45, 50]) (d := [49]) (by decide +kernel) (by decide +kernel)] at h
  exact h
theorem Sane6 (hE : Env w) : Calls Tryz.prog 28 #[.agg #[.string ⟨#[49]⟩, .string ⟨#[49]⟩], .agg #[.string ⟨#[48]⟩, .string ⟨#[49]⟩]] w fun e w' => e = .returned (.tuple #[.agg #[.string ⟨#[]⟩, .string ⟨#[]⟩], .int .i64 40]) ∧ Below w.heap.size w w' := by
  have h := QDiv_over (Rat.divInt 1 1) (Rat.divInt 0 1) w hE (fq_small (q := (Rat.divInt 1 1)) (by decide +kernel) (by decide +kernel)) (fq_small (q := (Rat.divInt 0 1)) (by decide +kernel) (by decide +kernel)) (.inr (by decide +kernel))
  rw [qv_lit (q := (Rat.divInt 1 1)) (n := [49]) (d := [49]) (by decide +kernel) (by decide +kernel), qv_lit (q := (Rat.divInt 0 1)) (n := [48]) (d := [49]) (by decide +kernel) (by decide +kernel)] at h
  exact h
theorem Sane7 (hE : Env w) : Calls Tryz.prog 16 #[.agg #[.string ⟨#[45, 49]⟩, .string ⟨#[51]⟩], .int .i64 2] w fun e w' => e = .returned (.tuple #[.agg #[.string ⟨#[45, 49, 55]⟩, .string ⟨#[53, 48]⟩], .int .i64 0]) ∧ Below w.heap.size w w' := by
  have h := QDown_good (Rat.divInt (-1) 3) 2 w hE (fq_small (q := (Rat.divInt (-1) 3)) (by decide +kernel) (by decide +kernel)) (by decide) (fits_small6 (by decide +kernel))
  rw [qv_lit (q := (Rat.divInt (-1) 3)) (n := [45, 49]) (d := [51]) (by decide +kernel) (by decide +kernel), qv_lit (q := Rq.rnd (Rat.divInt (-1) 3) 2 false) (n := [45, 49, 55]) (d := [53, 48]) (by decide +kernel) (by decide +kernel)] at h
  exact h
theorem Sane8 (hE : Env w) : Calls Tryz.prog 18 #[.agg #[.string ⟨#[49]⟩, .string ⟨#[51]⟩], .int .i64 2] w fun e w' => e = .returned (.tuple #[.agg #[.string ⟨#[49, 55]⟩, .string ⟨#[53, 48]⟩], .int .i64 0]) ∧ Below w.heap.size w w' := by
  have h := QUp_good (Rat.divInt 1 3) 2 w hE (fq_small (q := (Rat.divInt 1 3)) (by decide +kernel) (by decide +kernel)) (by decide) (fits_small6 (by decide +kernel))
  rw [qv_lit (q := (Rat.divInt 1 3)) (n := [49]) (d := [51]) (by decide +kernel) (by decide +kernel), qv_lit (q := Rq.rnd (Rat.divInt 1 3) 2 true) (n := [49, 55]) (d := [53, 48]) (by decide +kernel) (by decide +kernel)] at h
  exact h
theorem Sane9 (hM : EnvM w) (hE : Env w) : Calls Tryz.prog 29 #[.string ⟨#[45, 51, 47, 50]⟩] w fun e w' => e = .returned (.tuple #[.agg #[.string ⟨#[45, 51]⟩, .string ⟨#[50]⟩], .int .i64 0]) ∧ Below w.heap.size w w' := by
  have h := QParse_good (Rat.divInt (-3) 2) w hE hM (fq_small (q := (Rat.divInt (-3) 2)) (by decide +kernel) (by decide +kernel))
  rw [qv_lit (q := (Rat.divInt (-3) 2)) (n := [45, 51]) (d := [50]) (by decide +kernel) (by decide +kernel), show Rq.printQ (Rat.divInt (-3) 2) = [45, 51, 47, 50] by decide +kernel] at h
  exact h
theorem Sane10 (hM : EnvM w) (hE : Env w) : Calls Tryz.prog 29 #[.string ⟨#[54, 47, 52]⟩] w fun e w' => e = .returned (.tuple #[.agg #[.string ⟨#[]⟩, .string ⟨#[]⟩], .int .i64 40]) ∧ Below w.heap.size w w' := by
  exact QParse_not [54, 47, 52] w hE hM (by decide) parse_64
theorem Sane11 (hE : Env w) : Calls Tryz.prog 30 #[.agg #[.string ⟨#[45, 51]⟩, .string ⟨#[50]⟩]] w fun e w' => e = .returned (.string ⟨#[45, 51, 47, 50]⟩) ∧ Below w.heap.size w w' := by
  have h := QPrint_any (Lib.itoa (Rat.divInt (-3) 2).num) (Lib.itoa ((Rat.divInt (-3) 2).den : Int)) w hE (fits_small (fq_small (q := (Rat.divInt (-3) 2)) (by decide +kernel) (by decide +kernel)).num) (fits_small (fq_small (q := (Rat.divInt (-3) 2)) (by decide +kernel) (by decide +kernel)).den)
  rw [Rq.printB_q (fq_small (q := (Rat.divInt (-3) 2)) (by decide +kernel) (by decide +kernel)), show Rq.printQ (Rat.divInt (-3) 2) = [45, 51, 47, 50] by decide +kernel, show Lib.itoa (Rat.divInt (-3) 2).num = [45, 51] by decide +kernel, show Lib.itoa ((Rat.divInt (-3) 2).den : Int) = [50] by decide +kernel] at h
  exact h
theorem Sane12 (hE : Env w) : Calls Tryz.prog 13 #[.agg #[.string ⟨#[49]⟩, .string ⟨#[51]⟩], .agg #[.string ⟨#[51, 51, 51, 51, 51]⟩, .string ⟨#[49, 48, 48, 48, 48, 48]⟩]] w fun e w' => e = .returned (.int .i64 1) ∧ Below w.heap.size w w' := by
  have h := QCompare_any (Rat.divInt 1 3) (Rat.divInt 33333 100000) w hE (fq_small (q := (Rat.divInt 1 3)) (by decide +kernel) (by decide +kernel)) (fq_small (q := (Rat.divInt 33333 100000)) (by decide +kernel) (by decide +kernel))
  rw [qv_lit (q := (Rat.divInt 1 3)) (n := [49]) (d := [51]) (by decide +kernel) (by decide +kernel), qv_lit (q := (Rat.divInt 33333 100000)) (n := [51, 51, 51, 51, 51]) (d := [49, 48, 48, 48, 48, 48]) (by decide +kernel) (by decide +kernel), show cmpZ ((Rat.divInt 1 3).num * ((Rat.divInt 33333 100000).den : Int)) ((Rat.divInt 33333 100000).num * ((Rat.divInt 1 3).den : Int)) = 1 by decide +kernel] at h
  exact h
theorem Sane13 (hE : Env w) : Calls Tryz.prog 22 #[.agg #[.string ⟨#[45, 51]⟩, .string ⟨#[50]⟩]] w fun e w' => e = .returned (.bool true) ∧ Below w.heap.size w w' := by
  have h := QValid_any (Lib.itoa (Rat.divInt (-3) 2).num) (Lib.itoa ((Rat.divInt (-3) 2).den : Int)) w (fits_small (fq_small (q := (Rat.divInt (-3) 2)) (by decide +kernel) (by decide +kernel)).num) (fits_small (fq_small (q := (Rat.divInt (-3) 2)) (by decide +kernel) (by decide +kernel)).den) hE
  rw [Rq.okB_q (fq_small (q := (Rat.divInt (-3) 2)) (by decide +kernel) (by decide +kernel)), show Lib.itoa (Rat.divInt (-3) 2).num = [45, 51] by decide +kernel, show Lib.itoa ((Rat.divInt (-3) 2).den : Int) = [50] by decide +kernel] at h
  exact h
theorem Sane14 (hE : Env w) : Calls Tryz.prog 22 #[.agg #[.string ⟨#[]⟩, .string ⟨#[]⟩]] w fun e w' => e = .returned (.bool false) ∧ Below w.heap.size w w' := by
  have h := QValid_any [] [] w (by decide) (by decide) hE
  rw [ok_empty] at h
  exact h
theorem Is_lit (a b : List UInt8) (w : World) : Calls Tryz.prog 27 #[.string ⟨a.toArray⟩, .string ⟨b.toArray⟩] w fun e w' => e = .returned (.agg #[.string ⟨a.toArray⟩, .string ⟨b.toArray⟩]) ∧ Below w.heap.size w w' := is_any a b w
end
end Go.Proofs.YthnikbladjaifaaGreatDoor

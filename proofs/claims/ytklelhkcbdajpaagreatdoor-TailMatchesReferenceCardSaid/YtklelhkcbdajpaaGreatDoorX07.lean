/- reduced, Make, Of of package rational. check of package rational: a calculation is bad from an invalid fraction on. Make and Of of package rational. Mul and Div of package rational. Mul and Div of package rational: contracts. Classes of changes for drawn regions in which a calculation's struct changes. -/
import Derived.Test.YtklelhkcbdajpaaGreatDoorX06
import Derived.Test.YtklelhkcbdajpaaGreatDoorX05
set_option linter.unusedVariables false
set_option linter.unusedSimpArgs false
set_option maxRecDepth 100000
set_option maxHeartbeats 8000000
namespace Rq
theorem red_fits {n d : Int} (hd : d ≠ 0) (hn : Ig.fits n) (hf : Ig.fits d) : Fq (Rat.divInt n d) := by
  have key : ∀ {n d : Int}, 0 < d → Ig.fits n → Ig.fits d → Fq (Rat.divInt n d) := fun {n d} h hn hf => by
    have h1 := make_pos (n := n) h
    refine ⟨?_, ?_⟩
    · rw [h1.1]; exact Go.Proofs.YtklelhkcbdajpaaGreatDoor.fits_div _ hn
    · rw [h1.2]; exact Go.Proofs.YtklelhkcbdajpaaGreatDoor.fits_div _ hf
  have hneg : ∀ {z : Int}, Ig.fits z → Ig.fits (0 - z) := fun h => by unfold Ig.fits at *; omega
  by_cases h : 0 < d
  · exact key h hn hf
  · rw [make_neg]
    exact key (by omega) (hneg hn) (hneg hf)
end Rq
namespace Go.Proofs.YtklelhkcbdajpaaGreatDoor
open Go.RowKit Go.Shelf
def QZ : Value := .agg #[.string ⟨#[]⟩, .string ⟨#[]⟩]
theorem quo_good (x y : Int) (w0 W : World) (g : Nat) (hx : Ig.fits x) (hy : Ig.fits y) (hy0 : y ≠ 0) (hE : Env w0) (h : Wk w0 W g false) :
    Calls Tryz.prog 112 #[.pointer (some ⟨g, 0, none⟩), .string ⟨(Lib.itoa x).toArray⟩, .string ⟨(Lib.itoa y).toArray⟩] W fun e w' => e = .returned (.string ⟨(Lib.itoa (x / y)).toArray⟩) ∧ Wk w0 w' g false ∧ Ks g W w' := by
  have hop : ∀ W', Below w0.heap.size w0 W' → Calls Tryz.prog 143 #[.string ⟨(Lib.itoa x).toArray⟩, .string ⟨(Lib.itoa y).toArray⟩] W' fun e' w' => e' = .returned (.tuple #[.string ⟨(Lib.itoa (x / y)).toArray⟩, .int .i64 0]) ∧ Below W'.heap.size W' w' := by
    intro W' hb
    have hD := Div_any x y W' hx hy hy0 (hE.below hb)
    clear h hx hy
    generalize Lib.itoa (x / y) = q at *
    generalize Lib.itoa (x % y) = r at *
    generalize Lib.itoa x = sx at *
    generalize Lib.itoa y = sy at *
    clear hb hE hy0
    go_enter Tryz.func143, Tryz.ntmps143
    go_wp2_with fail
    refine hD.mono ?_
    rintro _ w1 ⟨rfl, hb1⟩
    clear hD
    go_wp2
    go_ret2
    exact ⟨rfl, hb1⟩
  have hD := doQuo_good _ _ _ 0 w0 W g h hop
  clear hop h hx hy hy0
  generalize Lib.itoa (x / y) = q at *
  generalize Lib.itoa x = sx at *
  generalize Lib.itoa y = sy at *
  go_enter Tryz.func112, Tryz.ntmps112
  go_wp2_with fail
  refine hD.mono ?_
  rintro _ w1 ⟨rfl, hw, hk⟩
  clear hD
  go_wp2
  go_ret
  exact ⟨rfl, hw, hk⟩
theorem mul_res (x y : Int) (w0 W : World) (g : Nat) (hx : Ig.fits x) (hy : Ig.fits y) (hE : Env w0) (h : Wk w0 W g false) :
    Calls Tryz.prog 79 #[.pointer (some ⟨g, 0, none⟩), .string ⟨(Lib.itoa x).toArray⟩, .string ⟨(Lib.itoa y).toArray⟩] W fun e w' => e = .returned (.string ⟨(Ig.resS (x * y)).toArray⟩) ∧ Wk w0 w' g (Ig.resE (x * y) != 0) ∧ Ks g W w' := by
  have hD := doMul_good _ _ _ _ w0 W g h (fun W' hb => Mul_any x y W' hx hy (hE.below hb))
  clear h hx hy
  generalize Ig.resS (x * y) = p at *
  generalize Ig.resE (x * y) = e at *
  generalize Lib.itoa x = sx at *
  generalize Lib.itoa y = sy at *
  go_enter Tryz.func79, Tryz.ntmps79
  go_wp2_with fail
  refine hD.mono ?_
  rintro _ w1 ⟨rfl, hw, hk⟩
  clear hD
  go_wp2
  go_ret
  exact ⟨rfl, hw, hk⟩
theorem mul_good (x y : Int) (w0 W : World) (g : Nat) (hx : Ig.fits x) (hy : Ig.fits y) (hxy : Ig.fits (x * y)) (hE : Env w0) (h : Wk w0 W g false) :
    Calls Tryz.prog 79 #[.pointer (some ⟨g, 0, none⟩), .string ⟨(Lib.itoa x).toArray⟩, .string ⟨(Lib.itoa y).toArray⟩] W fun e w' => e = .returned (.string ⟨(Lib.itoa (x * y)).toArray⟩) ∧ Wk w0 w' g false ∧ Ks g W w' := by
  have h1 := mul_res x y w0 W g hx hy hE h
  rw [Ig.resS_fits hxy, Ig.resE_fits hxy] at h1
  exact h1
theorem mul_over (x y : Int) (w0 W : World) (g : Nat) (hx : Ig.fits x) (hy : Ig.fits y) (hxy : ¬ Ig.fits (x * y)) (hE : Env w0) (h : Wk w0 W g false) :
    Calls Tryz.prog 79 #[.pointer (some ⟨g, 0, none⟩), .string ⟨(Lib.itoa x).toArray⟩, .string ⟨(Lib.itoa y).toArray⟩] W fun e w' => e = .returned (.string ⟨#[]⟩) ∧ Wk w0 w' g true ∧ Ks g W w' := by
  have h1 := mul_res x y w0 W g hx hy hE h
  rw [Ig.resS_not hxy, Ig.resE_not hxy] at h1
  exact h1
theorem results_Q {fn : Func} {t u : Tmp} {g : Nat} {n d : ByteArray} {e : Value} (h : fn.results = #[.cell t 33, .tmp u]) (tmps : Array Value) (w : World) (ht : tmps.getD t undef = .pointer (some ⟨g, 0, none⟩)) (hu : tmps.getD u undef = e) (hB : Bx w g 33 #[.string n, .string d]) :
    (results fn tmps).run Tryz.prog w = .ok (.tuple #[.agg #[.string n, .string d], e]) w := by
  have h0 := hB.cell 0 rfl
  have h1 := hB.cell 1 rfl
  have ht' : tmps[t]?.getD undef = .pointer (some ⟨g, 0, none⟩) := by simpa using ht
  have hu' : tmps[u]?.getD undef = e := by simpa using hu
  simp only [results, h]
  simp [go_sem, ht', hu', h0, h1, loadVar]
structure Rs (w0 W : World) (g gr : Nat) (bad : Bool) (n d : ByteArray) : Prop where
  wk : Wk w0 W g bad
  ne : g ≠ gr
  ge : w0.heap.size ≤ gr
  bx : Bx W gr 33 #[.string n, .string d]
section
variable {w0 W W' : World} {g gr : Nat} {bad : Bool} {n d : ByteArray}
theorem Rs.mk' (h : Wk w0 W g bad) : Rs w0 (W.alloc (.cells #[.string n, .string d] 33)) g W.heap.size bad n d :=
  ⟨h.call (bNewW W _), Nat.ne_of_lt h.bx.lt, h.hb.size, Bx.mk _ _ _⟩
theorem Rs.step (h : Rs w0 W g gr bad n d) {b : Bool} (hw : Wk w0 W' g b) (hk : Ks g W W') : Rs w0 W' g gr b n d := ⟨hw, h.ne, h.ge, h.bx.ks hk (fun e => h.ne e.symm)⟩
theorem Rs.call (h : Rs w0 W g gr bad n d) (hb : Below W.heap.size W W') : Rs w0 W' g gr bad n d := ⟨h.wk.call hb, h.ne, h.ge, h.bx.call hb⟩
theorem Rs.set (h : Rs w0 W g gr bad n d) (n' d' : ByteArray) : Rs w0 ((W.setCell ⟨gr, 0, none⟩ (.string n')).setCell ⟨gr, 1, none⟩ (.string d')) g gr bad n' d' := by
  refine ⟨(h.wk.far (p := ⟨gr, 0, none⟩) h.ne h.ge _).far (p := ⟨gr, 1, none⟩) h.ne h.ge _, h.ne, h.ge, ?_⟩
  have := (h.bx.set 0 (.string n')).set 1 (.string d')
  simpa using this
end
theorem reduced_bad (n d : List UInt8) (w0 W : World) (g : Nat) (h : Wk w0 W g true) :
    Calls Tryz.prog 76 #[.pointer (some ⟨g, 0, none⟩), .string ⟨n.toArray⟩, .string ⟨d.toArray⟩] W fun e w' => e = .returned (.tuple #[QZ, .int .i64 40]) ∧ Below w0.heap.size w0 w' := by
  unfold QZ
  have h0 := Rs.mk' (n := ⟨#[]⟩) (d := ⟨#[]⟩) h
  have hc := h0.wk.cell
  have f0 := h0.bx.frozen 0
  have f1 := h0.bx.frozen 1
  clear h
  go_enter Tryz.func76, Tryz.ntmps76
  go_wp2
  refine bodyPost_ret (results_Q rfl _ _ rfl rfl h0.bx) rfl ⟨rfl, h0.wk.hb⟩
theorem fits_gcd_ne {n d : Int} (hd : d ≠ 0) : ((Nat.gcd n.natAbs d.natAbs : Nat) : Int) ≠ 0 := by
  intro h
  have := Nat.eq_zero_of_gcd_eq_zero_right (show Nat.gcd n.natAbs d.natAbs = 0 by omega)
  omega
theorem reduced_pos (n d : Int) (w0 W : World) (g : Nat) (hn : Ig.fits n) (hf : Ig.fits d) (hd : 0 < d) (hE : Env w0) (h : Wk w0 W g false) :
    Calls Tryz.prog 76 #[.pointer (some ⟨g, 0, none⟩), .string ⟨(Lib.itoa n).toArray⟩, .string ⟨(Lib.itoa d).toArray⟩] W fun e w' => e = .returned (.tuple #[QV (Rat.divInt n d), .int .i64 0]) ∧ Below w0.heap.size w0 w' := by
  unfold QV
  have e := Rq.make_pos (n := n) hd
  rw [e.1, e.2]
  have h0 := Rs.mk' (n := ⟨#[]⟩) (d := ⟨#[]⟩) h
  have hc := h0.wk.cell
  have hne : (Lib.itoa d == [48]) = false := by rw [itoa_is0]; exact decide_eq_false (by omega)
  have hC := fun w1 => Compare_any d 0 w1 hf fits_0
  rw [itoa_0] at hC
  have hlt : decide (cmpZ d 0 < 0) = false := decide_eq_false (by unfold cmpZ; rw [if_neg (by omega), if_pos (by omega)]; decide)
  have hG := fun w1 hw => doGcd_good _ _ _ 0 w0 w1 g hw (fun W' hb => Gcd_any n d W' hn hf (hE.below hb))
  have hg := fits_gcd hn hf
  have hg0 := fits_gcd_ne (n := n) (d := d) (by omega)
  have hQ1 := fun w1 hw => quo_good n _ w0 w1 g hn hg hg0 hE hw
  have hQ2 := fun w1 hw => quo_good d _ w0 w1 g hf hg hg0 hE hw
  generalize cmpZ d 0 = cc at *
  generalize ((Nat.gcd n.natAbs d.natAbs : Nat) : Int) = gg at *
  generalize Lib.itoa (n / gg) = sn at *
  generalize Lib.itoa (d / gg) = sd at *
  generalize Lib.itoa gg = sg at *
  generalize Lib.itoa n = sn0 at *
  generalize Lib.itoa d = sd0 at *
  clear e hn hf hd hg hg0 h
  go_enter Tryz.func76, Tryz.ntmps76
  go_wp2_with fail
  refine (hC _).mono ?_
  rintro _ w1 ⟨rfl, hb1⟩
  have h1 := h0.call hb1
  clear hC h0 hc hb1
  go_wp2_with fail
  refine (hG _ h1.wk).mono ?_
  rintro _ w2 ⟨rfl, hw2, hk2⟩
  have h2 := h1.step hw2 hk2
  clear hG h1 hw2 hk2
  go_wp2_with fail
  refine (hQ1 _ h2.wk).mono ?_
  rintro _ w3 ⟨rfl, hw3, hk3⟩
  have h3 := h2.step hw3 hk3
  clear hQ1 h2 hw3 hk3
  go_wp2_with fail
  refine (hQ2 _ h3.wk).mono ?_
  rintro _ w4 ⟨rfl, hw4, hk4⟩
  have h4 := h3.step hw4 hk4
  clear hQ2 h3 hw4 hk4
  have h5 := h4.call (bNewW w4 (.cells #[.string ⟨sn.toArray⟩, .string ⟨sd.toArray⟩] 33))
  have B5 := Bx.mk w4 33 #[.string ⟨sn.toArray⟩, .string ⟨sd.toArray⟩]
  have c0 := B5.cell 0 rfl
  have c1 := B5.cell 1 rfl
  have hc5 := h5.wk.cell
  have r0 := h5.bx.cell 0 rfl
  have r1 := h5.bx.cell 1 rfl
  have f0 := h5.bx.frozen 0
  have f1 := h5.bx.frozen 1
  have h6 := h5.set ⟨sn.toArray⟩ ⟨sd.toArray⟩
  clear h4
  go_wp2
  refine bodyPost_ret (results_Q rfl _ _ rfl rfl h6.bx) rfl ⟨rfl, h6.wk.hb⟩
theorem reduced_neg (n d : Int) (w0 W : World) (g : Nat) (hn : Ig.fits n) (hf : Ig.fits d) (hd : d < 0) (hE : Env w0) (h : Wk w0 W g false) :
    Calls Tryz.prog 76 #[.pointer (some ⟨g, 0, none⟩), .string ⟨(Lib.itoa n).toArray⟩, .string ⟨(Lib.itoa d).toArray⟩] W fun e w' => e = .returned (.tuple #[QV (Rat.divInt n d), .int .i64 0]) ∧ Below w0.heap.size w0 w' := by
  unfold QV
  have hneg : ∀ {z : Int}, Ig.fits z → Ig.fits (0 - z) := fun h => by unfold Ig.fits at *; omega
  have hS1 := fun w1 hw => doSub_good _ _ _ _ w0 w1 g hw (fun W' hb => Sub_any 0 n W' fits_0 hn (hE.below hb))
  have hS2 := fun w1 hw => doSub_good _ _ _ _ w0 w1 g hw (fun W' hb => Sub_any 0 d W' fits_0 hf (hE.below hb))
  rw [Ig.resS_fits (hneg hn), Ig.resE_fits (hneg hn), itoa_0] at hS1
  rw [Ig.resS_fits (hneg hf), Ig.resE_fits (hneg hf), itoa_0] at hS2
  have hlt : decide (cmpZ d 0 < 0) = true := decide_eq_true (by unfold cmpZ; rw [if_pos (by omega)]; decide)
  have hne : (Lib.itoa d == [48]) = false := by rw [itoa_is0]; exact decide_eq_false (by omega)
  have hC := fun w1 => Compare_any d 0 w1 hf fits_0
  rw [itoa_0] at hC
  generalize cmpZ d 0 = cc at *
  rw [Rq.make_neg]
  replace hn := hneg hn
  replace hf := hneg hf
  clear hneg
  generalize Lib.itoa n = so at *
  generalize Lib.itoa d = sp at *
  obtain ⟨n, rfl⟩ : ∃ n', n = 0 - n' := ⟨0 - n, by omega⟩
  obtain ⟨d, rfl⟩ : ∃ d', d = 0 - d' := ⟨0 - d, by omega⟩
  rw [show 0 - (0 - n) = n by omega] at *
  rw [show 0 - (0 - d) = d by omega] at *
  replace hd : 0 < d := by omega
  have e := Rq.make_pos (n := n) hd
  rw [e.1, e.2]
  have h0 := Rs.mk' (n := ⟨#[]⟩) (d := ⟨#[]⟩) h
  have hc := h0.wk.cell
  have hG := fun w1 hw => doGcd_good _ _ _ 0 w0 w1 g hw (fun W' hb => Gcd_any n d W' hn hf (hE.below hb))
  have hg := fits_gcd hn hf
  have hg0 := fits_gcd_ne (n := n) (d := d) (by omega)
  have hQ1 := fun w1 hw => quo_good n _ w0 w1 g hn hg hg0 hE hw
  have hQ2 := fun w1 hw => quo_good d _ w0 w1 g hf hg hg0 hE hw
  generalize ((Nat.gcd n.natAbs d.natAbs : Nat) : Int) = gg at *
  generalize Lib.itoa (n / gg) = sn at *
  generalize Lib.itoa (d / gg) = sd at *
  generalize Lib.itoa gg = sg at *
  generalize Lib.itoa n = sn0 at *
  generalize Lib.itoa d = sd0 at *
  clear e hn hf hd hg hg0 h
  go_enter Tryz.func76, Tryz.ntmps76
  go_wp2_with fail
  refine (hC _).mono ?_
  rintro _ w1 ⟨rfl, hb1⟩
  have h1 := h0.call hb1
  clear hC h0 hc hb1
  go_wp2_with fail
  refine (hS1 _ h1.wk).mono ?_
  rintro _ wa ⟨rfl, hwa, hka⟩
  replace h1 := h1.step hwa hka
  clear hS1 hwa hka
  go_wp2_with fail
  refine (hS2 _ h1.wk).mono ?_
  rintro _ wb ⟨rfl, hwb, hkb⟩
  replace h1 := h1.step hwb hkb
  clear hS2 hwb hkb
  go_wp2_with fail
  refine (hG _ h1.wk).mono ?_
  rintro _ w2 ⟨rfl, hw2, hk2⟩
  have h2 := h1.step hw2 hk2
  clear hG h1 hw2 hk2
  go_wp2_with fail
  refine (hQ1 _ h2.wk).mono ?_
  rintro _ w3 ⟨rfl, hw3, hk3⟩
  have h3 := h2.step hw3 hk3
  clear hQ1 h2 hw3 hk3
  go_wp2_with fail
  refine (hQ2 _ h3.wk).mono ?_
  rintro _ w4 ⟨rfl, hw4, hk4⟩
  have h4 := h3.step hw4 hk4
  clear hQ2 h3 hw4 hk4
  have h5 := h4.call (bNewW w4 (.cells #[.string ⟨sn.toArray⟩, .string ⟨sd.toArray⟩] 33))
  have B5 := Bx.mk w4 33 #[.string ⟨sn.toArray⟩, .string ⟨sd.toArray⟩]
  have c0 := B5.cell 0 rfl
  have c1 := B5.cell 1 rfl
  have hc5 := h5.wk.cell
  have r0 := h5.bx.cell 0 rfl
  have r1 := h5.bx.cell 1 rfl
  have f0 := h5.bx.frozen 0
  have f1 := h5.bx.frozen 1
  have h6 := h5.set ⟨sn.toArray⟩ ⟨sd.toArray⟩
  clear h4
  go_wp2
  refine bodyPost_ret (results_Q rfl _ _ rfl rfl h6.bx) rfl ⟨rfl, h6.wk.hb⟩
theorem reduced_good (n d : Int) (w0 W : World) (g : Nat) (hn : Ig.fits n) (hf : Ig.fits d) (hd : d ≠ 0) (hE : Env w0) (h : Wk w0 W g false) :
    Calls Tryz.prog 76 #[.pointer (some ⟨g, 0, none⟩), .string ⟨(Lib.itoa n).toArray⟩, .string ⟨(Lib.itoa d).toArray⟩] W fun e w' => e = .returned (.tuple #[QV (Rat.divInt n d), .int .i64 0]) ∧ Below w0.heap.size w0 w' := by
  by_cases h0 : 0 < d
  · exact reduced_pos n d w0 W g hn hf h0 hE h
  · exact reduced_neg n d w0 W g hn hf (by omega) hE h
end Go.Proofs.YtklelhkcbdajpaaGreatDoor
namespace Go.Proofs.YtklelhkcbdajpaaGreatDoor
open Go.RowKit Go.Shelf
noncomputable def badQ (l : List (List UInt8 × List UInt8)) : Bool := l.any fun p => !Rq.okB p.1 p.2
theorem badQ_step {l : List (List UInt8 × List UInt8)} {i : Nat} (h : i < l.length) : badQ (l.take (i + 1)) = (badQ (l.take i) || !Rq.okB l[i].1 l[i].2) := by
  unfold badQ
  rw [List.take_succ_eq_append_getElem h, List.any_append]
  simp
theorem check_any (l : List (List UInt8 × List UInt8)) (cap gl : Nat) (cs : Array Value) (w0 W : World) (g : Nat) (bad : Bool) (hE : Env w0) (h : Wk w0 W g bad) (hne : g ≠ gl) (hB : Bx W gl 33 cs)
    (hcs : ∀ i (hi : i < l.length), cs[i * 2]? = some (.string ⟨l[i].1.toArray⟩) ∧ cs[i * 2 + 1]? = some (.string ⟨l[i].2.toArray⟩) ∧ l[i].1.length ≤ 1000000 ∧ l[i].2.length ≤ 1000000) (hl : l.length ≤ 1000) (hlc : l.length ≤ cap) :
    Calls Tryz.prog 78 #[.pointer (some ⟨g, 0, none⟩), .slice (some ⟨gl, 0, none⟩) l.length cap] W fun e w' => (∃ v, e = .returned v) ∧ Wk w0 w' g (bad || badQ l) := by
  go_enter Tryz.func78, Tryz.ntmps78
  go_wp2_with fail
  go_loopw [5, 8] (fun s5 s8 wr => ∃ (i : Nat) (b : Bool), i ≤ l.length ∧ s8 = .int .i64 i ∧ Wk w0 wr g b ∧ Bx wr gl 33 cs ∧ Kp (b = (bad || badQ (l.take i)))) (fun s5 s8 wr => l.length - (intOf s8).toNat)
  case atStart => exact ⟨0, bad, by omega, rfl, h, hB, ⟨by simp [badQ]⟩⟩
  case round =>
    clear h hB
    obtain ⟨i, b, hi, rfl, hW, hB, hb⟩ := hrel
    by_cases hil : i < l.length
    · obtain ⟨h0, h1, l0, l1⟩ := hcs i hil
      have c0 : wr.cell? ⟨gl, i * 2, none⟩ = some (.string ⟨l[i].1.toArray⟩) := hB.cell _ h0
      have c1 : wr.cell? ⟨gl, i * 2 + 1, none⟩ = some (.string ⟨l[i].2.toArray⟩) := hB.cell _ h1
      have hst := Kp.mk (badQ_step hil)
      have hnext : ∀ b', b' = (b || !Rq.okB l[i].1 l[i].2) → Kp (b' = (bad || badQ (l.take (i + 1)))) := fun b' h => ⟨by rw [h, hb.out, hst.out, Bool.or_assoc]⟩
      have hV := fun w1 hE1 => QValid_any l[i].1 l[i].2 w1 l0 l1 hE1
      have t0 : decide (i < l.length) = true := decide_eq_true hil
      clear hst hb h0 h1 hcs
      generalize Rq.okB l[i].1 l[i].2 = ok at *
      generalize l[i].1 = p at *
      generalize l[i].2 = q at *
      have hWn := hW.call (bNewW wr (.cells #[.string ⟨p.toArray⟩, .string ⟨q.toArray⟩] 33))
      have hBn := hB.new (.cells #[.string ⟨p.toArray⟩, .string ⟨q.toArray⟩] 33)
      have Bx1 := Bx.mk wr 33 #[.string ⟨p.toArray⟩, .string ⟨q.toArray⟩]
      have x0 := Bx1.cell 0 rfl
      have x1 := Bx1.cell 1 rfl
      have hc := hWn.cell
      have hf := hWn.frozen
      cases b
      · have hVn := hV _ (hE.below hWn.hb)
        clear hV hW hB
        go_wp2_with fail
        refine hVn.mono ?_
        rintro _ w3 ⟨rfl, hb3⟩
        have hW3 := hWn.call hb3
        have hB3 := hBn.call hb3
        clear hVn hWn hBn hc hf hb3
        have hc := hW3.cell
        have hf := hW3.frozen
        have hW4 := hW3.set (!ok)
        have hB4 := hB3.far (p := ⟨g, 0, none⟩) (fun e => hne e.symm) (.bool (!ok))
        have hn := hnext (!ok) (by simp)
        clear hW3 hB3 hnext
        go_wp2
        exact ⟨⟨i + 1, !ok, by omega, by go_num, hW4, hB4, hn⟩, by simp [intOf]; omega⟩
      · have hW4 := hWn.set true
        have hB4 := hBn.far (p := ⟨g, 0, none⟩) (fun e => hne e.symm) (.bool true)
        have hn := hnext true (by simp)
        clear hV hW hB hWn hBn hnext
        go_wp2
        exact ⟨⟨i + 1, true, by omega, by go_num, hW4, hB4, hn⟩, by simp [intOf]; omega⟩
    · obtain rfl : i = l.length := by omega
      have t0 : decide (l.length < l.length) = false := decide_eq_false hil
      have hb2 : Kp (b = (bad || badQ l)) := ⟨by rw [hb.out, List.take_length]⟩
      clear hb hcs
      go_wp2
      exact bodyPost_end (results_none rfl _ _ _) rfl ⟨⟨_, rfl⟩, hb2.out ▸ hW⟩
end Go.Proofs.YtklelhkcbdajpaaGreatDoor
namespace Go.Proofs.YtklelhkcbdajpaaGreatDoor
open Go.RowKit Go.Shelf
theorem Wk.new (w : World) (b : Bool) : Wk w (w.alloc (.cells #[.bool b] 94)) w.heap.size b := ⟨bNewW _ _, Nat.le_refl _, Bx.mk _ _ _⟩
theorem Make_ok (n d : Int) (w : World) (hn : Ig.fits n) (hf : Ig.fits d) (hd : d ≠ 0) (hE : Env w) :
    Calls Tryz.prog 33 #[.string ⟨(Lib.itoa n).toArray⟩, .string ⟨(Lib.itoa d).toArray⟩] w fun e w' => e = .returned (.tuple #[QV (Rat.divInt n d), .int .i64 0]) ∧ Below w.heap.size w w' := by
  have hV1 := fun w0 => Valid_any (Lib.itoa n) (fits_small hn) w0
  have hV2 := fun w0 => Valid_any (Lib.itoa d) (fits_small hf) w0
  rw [Ig.valid_itoa hn] at hV1
  rw [Ig.valid_itoa hf] at hV2
  have hRR := fun w2 hE2 => reduced_good n d w2 _ _ hn hf hd hE2 (Wk.new w2 false)
  unfold QV at *
  generalize Lib.itoa (Rat.divInt n d).num = sa at *
  generalize Lib.itoa ((Rat.divInt n d).den : Int) = sb at *
  generalize Lib.itoa n = sn at *
  generalize Lib.itoa d = sd at *
  clear hn hf hd
  have B := Bx.mk w 33 #[.string ⟨#[]⟩, .string ⟨#[]⟩]
  have hb := bNewW w (.cells #[.string ⟨#[]⟩, .string ⟨#[]⟩] 33)
  go_enter Tryz.func33, Tryz.ntmps33
  go_wp2_with fail
  refine (hV1 _).mono ?_
  rintro _ w1 ⟨rfl, hb1⟩
  replace hb := bCall hb hb1
  replace B := B.call hb1
  clear hV1 hb1
  go_wp2_with fail
  refine (hV2 _).mono ?_
  rintro _ w2 ⟨rfl, hb1⟩
  replace hb := bCall hb hb1
  replace B := B.call hb1
  clear hV2 hb1
  have hR := hRR w2 (hE.below hb)
  clear hRR
  go_wp2_with fail
  refine hR.mono ?_
  rintro _ w3 ⟨rfl, hb1⟩
  replace hb := bCall hb hb1
  replace B := B.call hb1
  clear hR hb1
  have r0 := B.cell 0 rfl
  have r1 := B.cell 1 rfl
  have f0 := B.frozen 0
  have f1 := B.frozen 1
  have B2 := (B.set 0 (.string ⟨sa.toArray⟩)).set 1 (.string ⟨sb.toArray⟩)
  have hb2 := bSet (bSet hb (p := ⟨w.heap.size, 0, none⟩) (Nat.le_refl _) (.string ⟨sa.toArray⟩)) (p := ⟨w.heap.size, 1, none⟩) (Nat.le_refl _) (.string ⟨sb.toArray⟩)
  go_wp2
  first
    | exact bodyPost_ret (results_Q rfl _ _ rfl rfl B2) rfl ⟨rfl, hb2⟩
    | exact bodyPost_ret (results_Q rfl _ _ rfl rfl B) rfl ⟨rfl, hb⟩
end Go.Proofs.YtklelhkcbdajpaaGreatDoor
namespace Go.Proofs.YtklelhkcbdajpaaGreatDoor
open Go.RowKit Go.Shelf
theorem mul_bad' (a b : List UInt8) (w0 W : World) (g : Nat) (h : Wk w0 W g true) :
    Calls Tryz.prog 79 #[.pointer (some ⟨g, 0, none⟩), .string ⟨a.toArray⟩, .string ⟨b.toArray⟩] W fun e w' => e = .returned (.string ⟨#[]⟩) ∧ Wk w0 w' g true :=
  (mul_bad a b w0 W g h).mono fun _ _ ⟨h1, h2⟩ => ⟨h1, h2 ▸ h⟩
theorem badQ_two (a b c d : List UInt8) : badQ [(a, b), (c, d)] = (!Rq.okB a b || !Rq.okB c d) := by simp [badQ]
theorem two_check (a1 a2 b1 b2 : List UInt8) (W0 : World) (g : Nat) (hg : W0.heap.size = g) (la1 : a1.length ≤ 1000000) (la2 : a2.length ≤ 1000000) (lb1 : b1.length ≤ 1000000) (lb2 : b2.length ≤ 1000000) (hE : Env W0) :
    Calls Tryz.prog 78 #[.pointer (some ⟨g, 0, none⟩), .slice (some ⟨g + 1, 0, none⟩) 2 2] ((W0.alloc (.cells #[.bool false] 94)).alloc (.cells #[.string ⟨a1.toArray⟩, .string ⟨a2.toArray⟩, .string ⟨b1.toArray⟩, .string ⟨b2.toArray⟩] 33)) fun e w' => (∃ v, e = .returned v) ∧ Wk W0 w' g (!Rq.okB a1 a2 || !Rq.okB b1 b2) := by
  subst hg
  have hw := (Wk.new W0 false).call (bNewW (W0.alloc (.cells #[.bool false] 94)) (.cells #[.string ⟨a1.toArray⟩, .string ⟨a2.toArray⟩, .string ⟨b1.toArray⟩, .string ⟨b2.toArray⟩] 33))
  have hB := Bx.mk (W0.alloc (.cells #[.bool false] 94)) 33 #[.string ⟨a1.toArray⟩, .string ⟨a2.toArray⟩, .string ⟨b1.toArray⟩, .string ⟨b2.toArray⟩]
  rw [alloc_size] at hB
  have h := check_any [(a1, a2), (b1, b2)] 2 (W0.heap.size + 1) _ W0 _ _ false hE hw (by omega) hB (fun i hi => by
    rcases (show i = 0 ∨ i = 1 by simp at hi; omega) with rfl | rfl
    · exact ⟨rfl, rfl, la1, la2⟩
    · exact ⟨rfl, rfl, lb1, lb2⟩) (by simp) (by simp)
  rw [badQ_two, Bool.false_or] at h
  exact h
theorem Mul_walk (a1 a2 b1 b2 p q r1 r2 : List UInt8) (code : Int) (c1 c2 : Bool) (w : World) (hE : Env w) (la1 : a1.length ≤ 1000000) (la2 : a2.length ≤ 1000000) (lb1 : b1.length ≤ 1000000) (lb2 : b2.length ≤ 1000000)
    (hX1 : ∀ W0 W g, Env W0 → Wk W0 W g (!Rq.okB a1 a2 || !Rq.okB b1 b2) → Calls Tryz.prog 79 #[.pointer (some ⟨g, 0, none⟩), .string ⟨a1.toArray⟩, .string ⟨b1.toArray⟩] W fun e w' => e = .returned (.string ⟨p.toArray⟩) ∧ Wk W0 w' g c1)
    (hX2 : ∀ W0 W g, Env W0 → Wk W0 W g c1 → Calls Tryz.prog 79 #[.pointer (some ⟨g, 0, none⟩), .string ⟨a2.toArray⟩, .string ⟨b2.toArray⟩] W fun e w' => e = .returned (.string ⟨q.toArray⟩) ∧ Wk W0 w' g c2)
    (hX3 : ∀ W0 W g, Env W0 → Wk W0 W g c2 → Calls Tryz.prog 76 #[.pointer (some ⟨g, 0, none⟩), .string ⟨p.toArray⟩, .string ⟨q.toArray⟩] W fun e w' => e = .returned (.tuple #[.agg #[.string ⟨r1.toArray⟩, .string ⟨r2.toArray⟩], .int .i64 code]) ∧ Below W0.heap.size W0 w') :
    Calls Tryz.prog 37 #[.agg #[.string ⟨a1.toArray⟩, .string ⟨a2.toArray⟩], .agg #[.string ⟨b1.toArray⟩, .string ⟨b2.toArray⟩]] w fun e w' => e = .returned (.tuple #[.agg #[.string ⟨r1.toArray⟩, .string ⟨r2.toArray⟩], .int .i64 code]) ∧ Below w.heap.size w w' := by
  have hb := bNew (bNew (bNewW w (.cells #[.string ⟨a1.toArray⟩, .string ⟨a2.toArray⟩] 33)) (.cells #[.string ⟨b1.toArray⟩, .string ⟨b2.toArray⟩] 33)) (.cells #[.string ⟨#[]⟩, .string ⟨#[]⟩] 33)
  have BA := ((Bx.mk w 33 #[.string ⟨a1.toArray⟩, .string ⟨a2.toArray⟩]).new (.cells #[.string ⟨b1.toArray⟩, .string ⟨b2.toArray⟩] 33)).new (.cells #[.string ⟨#[]⟩, .string ⟨#[]⟩] 33)
  have BB := (Bx.mk (w.alloc (.cells #[.string ⟨a1.toArray⟩, .string ⟨a2.toArray⟩] 33)) 33 #[.string ⟨b1.toArray⟩, .string ⟨b2.toArray⟩]).new (.cells #[.string ⟨#[]⟩, .string ⟨#[]⟩] 33)
  have BR := Bx.mk ((w.alloc (.cells #[.string ⟨a1.toArray⟩, .string ⟨a2.toArray⟩] 33)).alloc (.cells #[.string ⟨b1.toArray⟩, .string ⟨b2.toArray⟩] 33)) 33 #[.string ⟨#[]⟩, .string ⟨#[]⟩]
  rw [alloc_size] at BB
  rw [alloc_size, alloc_size] at BR
  have hE1 := hE.below hb
  have hsz : (((w.alloc (.cells #[.string ⟨a1.toArray⟩, .string ⟨a2.toArray⟩] 33)).alloc (.cells #[.string ⟨b1.toArray⟩, .string ⟨b2.toArray⟩] 33)).alloc (.cells #[.string ⟨#[]⟩, .string ⟨#[]⟩] 33)).heap.size = w.heap.size + 3 := by rw [alloc_size, alloc_size, alloc_size]
  have cA0 := BA.cell 0 rfl
  have cA1 := BA.cell 1 rfl
  have cB0 := BB.cell 0 rfl
  have cB1 := BB.cell 1 rfl
  have hC := two_check a1 a2 b1 b2 _ _ hsz la1 la2 lb1 lb2 hE1
  clear la1 la2 lb1 lb2
  go_enter Tryz.func37, Tryz.ntmps37
  go_wp2_with fail
  generalize (((w.alloc (.cells #[.string ⟨a1.toArray⟩, .string ⟨a2.toArray⟩] 33)).alloc (.cells #[.string ⟨b1.toArray⟩, .string ⟨b2.toArray⟩] 33)).alloc (.cells #[.string ⟨#[]⟩, .string ⟨#[]⟩] 33)) = W0 at *
  replace hsz := Kp.mk hsz
  refine hC.mono ?_
  rintro _ w1 ⟨⟨v, rfl⟩, hw1⟩
  clear hC cA0 cA1 cB0 cB1
  have cA0 := ((BA.below hw1.hb BA.lt)).cell 0 rfl
  have cA1 := ((BA.below hw1.hb BA.lt)).cell 1 rfl
  have cB0 := ((BB.below hw1.hb BB.lt)).cell 0 rfl
  have cB1 := ((BB.below hw1.hb BB.lt)).cell 1 rfl
  go_wp2_with fail
  refine (hX1 W0 _ _ hE1 hw1).mono ?_
  rintro _ w2 ⟨rfl, hw2⟩
  clear hX1 hw1 cA0 cA1 cB0 cB1
  have cA0 := ((BA.below hw2.hb BA.lt)).cell 0 rfl
  have cA1 := ((BA.below hw2.hb BA.lt)).cell 1 rfl
  have cB0 := ((BB.below hw2.hb BB.lt)).cell 0 rfl
  have cB1 := ((BB.below hw2.hb BB.lt)).cell 1 rfl
  go_wp2_with fail
  refine (hX2 W0 _ _ hE1 hw2).mono ?_
  rintro _ w3 ⟨rfl, hw3⟩
  clear hX2 hw2 cA0 cA1 cB0 cB1
  go_wp2_with fail
  refine (hX3 W0 _ _ hE1 hw3).mono ?_
  rintro _ w4 ⟨rfl, hb4⟩
  clear hX3 hw3
  have B := BR.below hb4 BR.lt
  have hb5 := hb.trans (hb4.mono hb.size)
  clear BR hb4 hb BA BB
  have r0 := B.cell 0 rfl
  have q1 := B.cell 1 rfl
  have f0 := B.frozen 0
  have f1 := B.frozen 1
  have B2 := (B.set 0 (.string ⟨r1.toArray⟩)).set 1 (.string ⟨r2.toArray⟩)
  have hb2 := bSet (bSet hb5 (p := ⟨w.heap.size + 1 + 1, 0, none⟩) (by show w.heap.size ≤ w.heap.size + 1 + 1; omega) (.string ⟨r1.toArray⟩)) (p := ⟨w.heap.size + 1 + 1, 1, none⟩) (by show w.heap.size ≤ w.heap.size + 1 + 1; omega) (.string ⟨r2.toArray⟩)
  go_wp2
  exact bodyPost_ret (results_Q rfl _ _ rfl rfl B2) rfl ⟨rfl, hb2⟩
end Go.Proofs.YtklelhkcbdajpaaGreatDoor
namespace Go.Proofs.YtklelhkcbdajpaaGreatDoor
open Go.RowKit Go.Shelf
theorem fits_len' {z : Int} (h : Ig.fits z) : (Lib.itoa z).length ≤ 1000000 := fits_small h
section
variable (w : World) (hE : Env w)
theorem reduced_bad' (n d : List UInt8) (w0 W : World) (g : Nat) (h : Wk w0 W g true) :
    Calls Tryz.prog 76 #[.pointer (some ⟨g, 0, none⟩), .string ⟨n.toArray⟩, .string ⟨d.toArray⟩] W fun e w' => e = .returned (.tuple #[.agg #[.string ⟨([] : List UInt8).toArray⟩, .string ⟨([] : List UInt8).toArray⟩], .int .i64 40]) ∧ Below w0.heap.size w0 w' :=
  reduced_bad n d w0 W g h
end
section
variable (a b : Rat) (w : World)
theorem QMul_good (hE : Env w) (ha : Rq.Fq a) (hb : Rq.Fq b) (hn : Ig.fits (a.num * b.num)) (hd : Ig.fits ((a.den : Int) * b.den)) :
    Calls Tryz.prog 37 #[QV a, QV b] w fun e w' => e = .returned (.tuple #[QV (a * b), .int .i64 0]) ∧ Below w.heap.size w w' := by
  have hk : (!Rq.okB (Lib.itoa a.num) (Lib.itoa (a.den : Int)) || !Rq.okB (Lib.itoa b.num) (Lib.itoa (b.den : Int))) = false := by rw [Rq.okB_q ha, Rq.okB_q hb]; rfl
  refine Mul_walk _ _ _ _ (Lib.itoa (a.num * b.num)) (Lib.itoa ((a.den : Int) * b.den)) (Lib.itoa (a * b).num) (Lib.itoa ((a * b).den : Int)) 0 false false w hE (fits_len' ha.num) (fits_len' ha.den) (fits_len' hb.num) (fits_len' hb.den) ?_ ?_ ?_
  · rw [hk]; exact fun W0 W g hE h => (mul_good _ _ W0 W g ha.num hb.num hn hE h).mono fun _ _ ⟨h1, h2, _⟩ => ⟨h1, h2⟩
  · exact fun W0 W g hE h => (mul_good _ _ W0 W g ha.den hb.den hd hE h).mono fun _ _ ⟨h1, h2, _⟩ => ⟨h1, h2⟩
  · intro W0 W g hE h
    have := reduced_good _ _ W0 W g hn hd (Int.mul_ne_zero (Rq.den_ne' a) (Rq.den_ne' b)) hE h
    rw [Rq.mul_is] at this
    exact this
end
end Go.Proofs.YtklelhkcbdajpaaGreatDoor
namespace Go.Proofs.YtklelhkcbdajpaaGreatDoor
open Go.RowKit Go.Shelf
theorem Wk.drawnK {w0 W : World} {g : Nat} {b : Bool} (h : Wk w0 W g b) (n : Nat) : Wk w0 { W with drawn := n } g b := ⟨⟨h.hb.os, h.hb.tape, h.hb.output, h.hb.size, h.hb.block⟩, h.ge, h.bx⟩
theorem Wk.det {w0 W : World} {g : Nat} {b b' : Bool} (h : Wk w0 W g b) (h' : Wk w0 W g b') : b = b' := by
  have h1 := h.cell
  rw [h'.cell] at h1
  simpa using h1.symm
def K0 (W0 : World) (g : Nat) (W W' : World) : Prop := Wk W0 W g false → Wk W0 W' g false
theorem cls_K0 (W0 : World) (g : Nat) : RK.Cls (K0 W0 g) := ⟨fun _ h => h, fun h h' k => h' (h k), fun _ n h => h.drawnK n⟩
def K1 (W0 : World) (g : Nat) (W W' : World) : Prop := ∀ b, Wk W0 W g b → ∃ b', Wk W0 W' g b' ∧ (b = true → b' = true)
theorem K1.refl' (W0 : World) (g : Nat) (W : World) : K1 W0 g W W := fun b h => ⟨b, h, fun h => h⟩
theorem cls_K1 (W0 : World) (g : Nat) : RK.Cls (K1 W0 g) :=
  ⟨K1.refl' W0 g, fun h h' b k => by
    obtain ⟨b1, k1, e1⟩ := h b k
    obtain ⟨b2, k2, e2⟩ := h' b1 k1
    exact ⟨b2, k2, fun e => e2 (e1 e)⟩, fun _ n b h => ⟨b, h.drawnK n, fun h => h⟩⟩
theorem K1.to {W0 : World} {g : Nat} {W W' : World} {b b' : Bool} (h : Wk W0 W g b) (h' : Wk W0 W' g b') (he : b = true → b' = true) : K1 W0 g W W' := fun c hc => by
  have := h.det hc
  subst this
  exact ⟨b', h', he⟩
def PB (W0 : World) (g : Nat) (c : Bool) (x : List UInt8) : Value → World → Prop := fun v w => ∃ y : List UInt8, v = .string ⟨y.toArray⟩ ∧ (Wk W0 w g true ∨ (c = false ∧ y = x))
theorem stab_PB (W0 : World) (g : Nat) (c : Bool) (x : List UInt8) : RK.Stab (K1 W0 g) (PB W0 g c x) := fun v w w' ⟨y, hv, h⟩ hk => by
  refine ⟨y, hv, ?_⟩
  rcases h with h | h
  · obtain ⟨b', h', e⟩ := hk true h
    rw [e rfl] at h'
    exact .inl h'
  · exact .inr h
end Go.Proofs.YtklelhkcbdajpaaGreatDoor

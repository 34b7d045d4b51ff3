/- Package forward: loop. Package forward: the loops by their heads: what the map of Loops holds, and the sorted row of what it held (plain). Package forward: rows of rows; cmp.Compare[int]. -/
import Derived.Test.YtlldlkjngcgcjaaGreatDoorQ04
import Derived.Test.YtlldlkjngcgcjaaGreatDoorQ00
namespace Go.Proofs.YtlldlkjngcgcjaaGreatDoor
set_option linter.unusedVariables false
set_option linter.unusedSimpArgs false
open Go.RowKit Go.Shelf
attribute [local go_sem] Oper.semAt_some
/-- a loop as a value: nil where there is none -/
def LoA (o : Option (List Int)) (v : Value) (w : World) : Prop := match o with | none => v = .slice none 0 0 | some r => ∃ b off cap, v = .slice (some ⟨b, off, none⟩) r.length cap ∧ At 1 inC w w.heap.size (some ⟨b, off, none⟩) r ∧ r.length ≤ cap ∧ cap ≤ maxLen
theorem LoA.call {o : Option (List Int)} {v : Value} {X Y : World} (h : LoA o v X) (hb : Below X.heap.size X Y) : LoA o v Y := by
  cases o with
  | none => exact h
  | some r =>
    obtain ⟨b, off, cap, e, h1, h2⟩ := h
    exact ⟨b, off, cap, e, h1.callx hb, h2⟩
theorem LoA.of {B cap : Nat} {r : List Int} {v : Value} {X : World} (h : RowC 3 1 B cap r.length (r.flatMap inC) v X) (hm : cap ≤ maxLen) : LoA (some r) v X := by
  have h0 := h
  obtain ⟨g, cells, e1, h1, h2, h3, h4, h5⟩ := h
  obtain ⟨A, e2, k1, k2⟩ := RowC.at (f := inC) (fun _ => rfl) h0
  rw [e1] at e2
  simp only [Value.slice.injEq, true_and, and_true] at e2
  subst e2
  exact ⟨g, 0, cap, e1, k1, k2, hm⟩
def rotL (l : List Tw.St) (t n : Int) : Option (List Int) := (Tw.loopOf l t n).map Tw.rot
structure LvI (l : List Tw.St) (t number : Int) (A : Option Addr) (cap b1 b2 : Nat) (w : World) (xs : List Nat) (X : World) : Prop where
  bl : Below w.heap.size w X
  bm : Bx X w.heap.size 95 #[.slice A l.length cap, .map (some b1), .map (some b2)]
  bn : Bx X (w.heap.size + 1) 3 #[.int .i64 number]
  br : Bx X (w.heap.size + 2) 43 #[.slice none 0 0]
  bm2 : Bx X (w.heap.size + 5) 95 #[.slice A l.length cap, .map (some b1), .map (some b2)]
  sz : w.heap.size + 6 < X.heap.size
  row : ∃ vo, Bx X (w.heap.size + 4) 43 #[vo] ∧ RowX 3 w.heap.size (xs.length + 1) (w.heap.size + 6) ((Tw.pathOf l number xs).flatMap inC) vo X ∧ ¬ Blk vo (w.heap.size + 1)
  lr : Tw.Lr l t number xs
section
variable {l : List Tw.St} {t number : Int} {A : Option Addr} {cap b1 b2 : Nat} {w : World}
theorem LvI.grow : GrS (LvI l t number A cap b1 b2 w) := fun xs X Y h hb => by
  obtain ⟨h1, h2, h3, h4, h5, h6, ⟨vo, k1, k2, k3⟩, h8⟩ := h
  exact ⟨h1.trans (hb.mono h1.size), h2.call hb, h3.call hb, h4.call hb, h5.call hb, Nat.lt_of_lt_of_le h6 hb.size, ⟨vo, k1.call hb, ⟨stab_rowZ _ _ _ _ _ _ _ _ k2.1 hb, k2.2⟩, k3⟩, h8⟩
theorem LvI.put {B : Nat} (hB : w.heap.size ≤ B) : PuS B (LvI l t number A cap b1 b2 w) := fun xs X k o o' h hk ho hc => by
  obtain ⟨h1, h2, h3, h4, h5, h6, ⟨vo, k1, k2, k3⟩, h8⟩ := h
  exact ⟨h1.trans (below_put (Nat.le_trans hB hk) ho), bx_put h2 ho hc, bx_put h3 ho hc, bx_put h4 ho hc, bx_put h5 ho hc, by simpa using h6, ⟨vo, bx_put k1 ho hc, ⟨k2.1.put ho hc, k2.2⟩, k3⟩, h8⟩
theorem LvI.var : ∀ xs X u, LvI l t number A cap b1 b2 w xs X → LvI l t number A cap b1 b2 w xs (X.setCell ⟨w.heap.size + 6, 0, none⟩ u) := fun xs X u h => by
  obtain ⟨h1, h2, h3, h4, h5, h6, ⟨vo, k1, k2, k3⟩, h8⟩ := h
  exact ⟨h1.setCell (p := ⟨w.heap.size + 6, 0, none⟩) (by show _ ≤ w.heap.size + 6; omega) _, h2.far (p := ⟨w.heap.size + 6, 0, none⟩) (by show w.heap.size ≠ w.heap.size + 6; omega) _, h3.far (p := ⟨w.heap.size + 6, 0, none⟩) (by show w.heap.size + 1 ≠ w.heap.size + 6; omega) _, h4.far (p := ⟨w.heap.size + 6, 0, none⟩) (by show w.heap.size + 2 ≠ w.heap.size + 6; omega) _, h5.far (p := ⟨w.heap.size + 6, 0, none⟩) (by show w.heap.size + 5 ≠ w.heap.size + 6; omega) _, by rw [World.size_setCell]; exact h6,
    ⟨vo, k1.far (p := ⟨w.heap.size + 6, 0, none⟩) (by show w.heap.size + 4 ≠ w.heap.size + 6; omega) _, ⟨k2.1.far k2.2.1, k2.2⟩, k3⟩, h8⟩
end
/-- how the range ends early: with a loop, or without one -/
structure LvX (o : Option (List Int)) (w : World) (cd : Code) (xs : List Nat) (X : World) : Prop where
  bl : Below w.heap.size w X
  or_ : (cd = .ret ∧ ∃ v r cap, o = some r ∧ Bx X (w.heap.size + 2) 43 #[v] ∧ RowC 3 1 w.heap.size cap r.length (r.flatMap inC) v X ∧ cap ≤ maxLen) ∨ (cd = .exit 0 ∧ o = none ∧ Bx X (w.heap.size + 2) 43 #[.slice none 0 0])
theorem LvX.grow {o : Option (List Int)} {w : World} (cd : Code) : GrS (LvX o w cd) := fun xs X Y h hb => by
  obtain ⟨h1, h2⟩ := h
  refine ⟨h1.trans (hb.mono h1.size), ?_⟩
  rcases h2 with ⟨h2, v, r, cap, h3, h4, h5, h6⟩ | ⟨h2, h3, h4⟩
  · exact .inl ⟨h2, v, r, cap, h3, h4.call hb, stab_rowC _ _ _ _ _ _ _ _ _ h5 hb, h6⟩
  · exact .inr ⟨h2, h3, h4.call hb⟩
theorem LvX.put {o : Option (List Int)} {w : World} {B : Nat} (hB : w.heap.size ≤ B) (cd : Code) : PuS B (LvX o w cd) := fun xs X k ob o' h hk ho hc => by
  obtain ⟨h1, h2⟩ := h
  refine ⟨h1.trans (below_put (Nat.le_trans hB hk) ho), ?_⟩
  rcases h2 with ⟨h2, v, r, cap, h3, h4, ⟨g, cells, a1, a2, a3, a4, a5, a6⟩, h6⟩ | ⟨h2, h3, h4⟩
  · exact .inl ⟨h2, v, r, cap, h3, bx_put h4 ho hc, ⟨g, cells, a1, a2, a3, bx_put a4 ho hc, a5, a6⟩, h6⟩
  · exact .inr ⟨h2, h3, bx_put h4 ho hc⟩
theorem results_L1 {fn : Func} {t : Tmp} {g : Nat} {a : Value} (h : fn.results = #[.cell t 43]) (tmps : Array Value) (w : World) (ht : tmps.getD t undef = .pointer (some ⟨g, 0, none⟩)) (hB : Bx w g 43 #[a]) :
    (results fn tmps).run Tryz.prog w = .ok a w := by
  have h0 := hB.cell 0 rfl
  have ht' : tmps[t]?.getD undef = .pointer (some ⟨g, 0, none⟩) := by simpa using ht
  simp only [results, h]
  simp [go_sem, ht', h0, loadVar]
theorem idx_least {r : List Int} {m : Int} (h : m ∈ r) : idxI (fun y => m == y) r = (r.idxOf m : Nat) := by
  have hk : r.idxOf m < r.length := List.idxOf_lt_length_of_mem h
  refine idx_hit hk (by rw [List.getElem_idxOf hk]; simp) fun j hj => ?_
  have h2 : (r[j]'(by omega) == m) = false := by simpa using List.not_of_lt_findIdx (p := fun y => y == m) (xs := r) hj
  rw [beq_eq_false_iff_ne] at h2 ⊢
  exact Ne.symm h2
theorem At.dropX {α : Type} {f : α → List Value} {w : World} {B b off : Nat} {p : List α} (h : At 1 f w B (some ⟨b, off, none⟩) p) (k : Nat) : At 1 f w B (some ⟨b, off + k, none⟩) (p.drop k) := fun h0 => by
  obtain ⟨b', off', e, hb, hc⟩ := h (by simp at h0; omega)
  simp only [Option.some.injEq, Addr.mk.injEq, and_true] at e
  obtain ⟨rfl, rfl⟩ := e
  refine ⟨b, off + k, rfl, hb, fun i c hi j u hj => ?_⟩
  rw [List.getElem?_drop] at hi
  have := hc (k + i) c hi j u hj
  rw [Nat.mul_one] at this ⊢
  rw [show off + k + i + j = off + (k + i) + j by omega]; exact this
/-- a row of one number, as append takes it -/
theorem intSrc {W : World} {B : Nat} {y : Int} (hB : W.heap.size = B) : Src Tryz.prog 1 43 (.slice (some ⟨B, 0, none⟩) 1 1) 1 [.int .i64 y] (W.alloc (.cells #[.int .i64 y] 3)) := by
  subst hB
  exact RowC.src (P := Tryz.prog) (B := W.heap.size) (cap := 1) (e := 3) (t := 43) (fun u hu => by simp at hu; subst hu; rfl) Tryz.underlying43 (show RowC 3 1 W.heap.size 1 1 [.int .i64 y] (.slice (some ⟨W.heap.size, 0, none⟩) 1 1) (W.alloc (.cells #[.int .i64 y] 3)) from ⟨W.heap.size, _, rfl, Nat.le_refl _, Nat.le_refl _, Bx.mk _ _ _, rfl, rfl⟩)
/-- no record is written when a row is appended to -/
theorem FrN.kpv {e : TypeId} {size B C n : Nat} {fl : List Value} {v v' : Value} {W W' : World} (h : KpV v v' W W') (hr : RowZ e size C n fl v W) : FrN B W W' := ⟨h.size, fun b o _ ho hc => h.same b o ho fun n c hv => by
  rcases hr with ⟨rfl, -, -⟩ | ⟨cap, ⟨g, cells, rfl, -, -, h4, -, -⟩, -⟩
  · cases hv
  · simp only [Value.slice.injEq, Option.some.injEq, Addr.mk.injEq, and_true] at hv
    obtain ⟨rfl, -⟩ := hv
    rw [show W.heap[g]? = _ from h4] at ho
    cases ho
    cases hc⟩
/-- what the region has made: the two parts, and the whole -/
def Sl2 (B : Nat) (s1 s2 : Value) : Value → World → Prop := fun v w => ∃ g, v = .slice (some ⟨g, 0, none⟩) 2 2 ∧ B ≤ g ∧ Bx w g 43 #[s1, s2]
theorem stab_Sl2 (B : Nat) (s1 s2 : Value) : Stab (Sl2 B s1 s2) := fun v w w' ⟨g, h1, h2, h3⟩ h => ⟨g, h1, h2, h3.call h⟩
set_option maxRecDepth 100000 in
set_option maxHeartbeats 8000000 in
theorem loop_any (l : List Tw.St) (A : Option Addr) (cap b1 b2 : Nat) (t number : Int) (w : World) (hv : Tw.Va l) (hA : At 5 stC w w.heap.size A l) (hn : l.length ≤ cap) (hM : Mom l [] t b1 b2 w) (hnum : I6 number) :
    Calls Tryz.prog 53 #[.agg #[.slice A l.length cap, .map (some b1), .map (some b2)], .int .i64 number] w fun e w' => ∃ v, e = .returned v ∧ Below w.heap.size w w' ∧ LoA (rotL l t number) v w' := by
  refine (callsIn_wide (n := 4)).1 ?_
  refine callsIn_of_wp_marks Tryz.func53 rfl trivial ?_ rfl
  simp only [Tryz.ntmps53, List.size_toArray, List.length_cons, List.length_nil, Nat.reduceAdd, Nat.reduceSub, Array.replicate_succ, Array.replicate_zero, List.push_toArray, List.append_toArray, List.nil_append, List.cons_append]
  have hl40 := hv.len
  have hb := bNew (bNew (bNew (bNew (bNx w (.cells #[.slice A l.length cap, .map (some b1), .map (some b2)] 95)) (.cells #[.int .i64 number] 3)) (.cells #[.slice none 0 0] 43)) (.cells #[.int .i64 number] 3)) (.cells #[.slice (some ⟨w.heap.size + 1 + 1 + 1, 0, none⟩) 1 1] 43)
  have BM := ((((Bx.mk w 95 #[.slice A l.length cap, .map (some b1), .map (some b2)]).new (.cells #[.int .i64 number] 3)).new (.cells #[.slice none 0 0] 43)).new (.cells #[.int .i64 number] 3)).new (.cells #[.slice (some ⟨w.heap.size + 1 + 1 + 1, 0, none⟩) 1 1] 43)
  have BN := (((Bx.mk (w.alloc (.cells #[.slice A l.length cap, .map (some b1), .map (some b2)] 95)) 3 #[.int .i64 number]).new (.cells #[.slice none 0 0] 43)).new (.cells #[.int .i64 number] 3)).new (.cells #[.slice (some ⟨w.heap.size + 1 + 1 + 1, 0, none⟩) 1 1] 43)
  have BR := ((Bx.mk ((w.alloc (.cells #[.slice A l.length cap, .map (some b1), .map (some b2)] 95)).alloc (.cells #[.int .i64 number] 3)) 43 #[.slice none 0 0]).new (.cells #[.int .i64 number] 3)).new (.cells #[.slice (some ⟨w.heap.size + 1 + 1 + 1, 0, none⟩) 1 1] 43)
  have BP := (Bx.mk (((w.alloc (.cells #[.slice A l.length cap, .map (some b1), .map (some b2)] 95)).alloc (.cells #[.int .i64 number] 3)).alloc (.cells #[.slice none 0 0] 43)) 3 #[.int .i64 number]).new (.cells #[.slice (some ⟨w.heap.size + 1 + 1 + 1, 0, none⟩) 1 1] 43)
  have BO := Bx.mk ((((w.alloc (.cells #[.slice A l.length cap, .map (some b1), .map (some b2)] 95)).alloc (.cells #[.int .i64 number] 3)).alloc (.cells #[.slice none 0 0] 43)).alloc (.cells #[.int .i64 number] 3)) 43 #[.slice (some ⟨w.heap.size + 1 + 1 + 1, 0, none⟩) 1 1]
  have BN0 := (Bx.mk (w.alloc (.cells #[.slice A l.length cap, .map (some b1), .map (some b2)] 95)) 3 #[.int .i64 number]).new (.cells #[.slice none 0 0] 43)
  simp only [World.size_alloc] at BN BR BP BO BN0
  have n0 := BN0.cell 0 rfl
  have n1 := BN.cell 0 rfl
  have m0 := BM.cell 0 rfl
  have m1 := BM.cell 1 rfl
  have m2 := BM.cell 2 rfl
  refine wpIn_wide.2 ?_
  go_wp2_with fail
  refine ((callsIn_wide (n := 4)).1 (walk_any 4 A l.length cap b1 b2 number _)).mono ?_
  rintro _ _ ⟨rfl, rfl⟩
  have hs5 : (((((w.alloc (.cells #[.slice A l.length cap, .map (some b1), .map (some b2)] 95)).alloc (.cells #[.int .i64 number] 3)).alloc (.cells #[.slice none 0 0] 43)).alloc (.cells #[.int .i64 number] 3)).alloc (.cells #[.slice (some ⟨w.heap.size + 1 + 1 + 1, 0, none⟩) 1 1] 43)).heap.size = w.heap.size + 5 := by simp only [World.size_alloc]
  clear n0 n1 m0 m1 m2 BN0
  generalize ((((w.alloc (.cells #[.slice A l.length cap, .map (some b1), .map (some b2)] 95)).alloc (.cells #[.int .i64 number] 3)).alloc (.cells #[.slice none 0 0] 43)).alloc (.cells #[.int .i64 number] 3)).alloc (.cells #[.slice (some ⟨w.heap.size + 1 + 1 + 1, 0, none⟩) 1 1] 43) = w5 at *
  have hbw := bNew (bNx w5 (.cells #[.slice A l.length cap, .map (some b1), .map (some b2)] 95)) (.cells #[.int .i64 number] 3)
  have BM2 := (Bx.mk w5 95 #[.slice A l.length cap, .map (some b1), .map (some b2)]).new (.cells #[.int .i64 number] 3)
  have BV := Bx.mk (w5.alloc (.cells #[.slice A l.length cap, .map (some b1), .map (some b2)] 95)) 3 #[.int .i64 number]
  have hs7 : ((w5.alloc (.cells #[.slice A l.length cap, .map (some b1), .map (some b2)] 95)).alloc (.cells #[.int .i64 number] 3)).heap.size = w.heap.size + 7 := by simp only [World.size_alloc, hs5]
  replace BM := BM.call hbw
  replace BN := BN.call hbw
  replace BR := BR.call hbw
  replace BP := BP.call hbw
  replace BO := BO.call hbw
  have hb7 := bCall hb hbw
  simp only [World.size_alloc, hs5] at BM2 BV
  simp only [hs5]
  generalize (w5.alloc (.cells #[.slice A l.length cap, .map (some b1), .map (some b2)] 95)).alloc (.cells #[.int .i64 number] 3) = w7 at *
  clear hbw hb hs5
  have hseq := walk_seq 3 (by decide) 41 l [] t number b1 b2 (w.heap.size + 5) (w.heap.size + 6) A cap w hv Tw.vc_nil hA hn hM hnum (by omega)
  have hz : LvI l t number A cap b1 b2 w [] w7 := by
    refine ⟨hb7, BM, BN, BR, BM2, by omega, ⟨_, BO, ⟨.inr ⟨1, ⟨w.heap.size + 1 + 1 + 1, #[.int .i64 number], rfl, by omega, Nat.le_refl _, BP, rfl, rfl⟩, by unfold maxLen; omega⟩, ?_, rfl⟩, ?_⟩, Tw.Lr.nil _ _ _⟩
    · intro h
      have := h.one (Blk.mk _ _ _)
      omega
    · intro h
      have := h.one (Blk.mk _ _ _)
      omega
  obtain ⟨o, ho⟩ := exKx (rotL l t number)
  go_wp2_with fail
  refine (wpIn_wide (n := 4)).1 ?_
  refine wpIn_range_s (by decide) (gf := 93) (lb := #[.pointer (some ⟨w.heap.size + 5, 0, none⟩), .pointer (some ⟨w.heap.size + 6, 0, none⟩)]) rfl (enters_of Tryz.func93 (by kernel_rfl) rfl) hseq (by omega) (fun X hX => BV.call hX) (fun X hX => ⟨hb7.trans (hX.mono (by omega)), by omega, BM2.call hX⟩) (fun _ => rfl)
    (LvI l t number A cap b1 b2 w) (LvX o w) LvI.grow (LvI.put (by omega)) (fun c => LvX.grow c) (fun c => LvX.put (by omega) c) (fun xs X h => ⟨h.bl, by omega, h.bm2⟩) (fun xs X h => by have := h.lr.len; omega) LvI.var hz 6 (fun i => .int .i64 i) ?assign ?body ?done ?stop
  case assign =>
    intro lp x W K hK
    simp only [wkE, fold_ones] at hK ⊢
    gi_wp2
    simp only [List.setIfInBounds_toArray, List.set_cons_succ, List.set_cons_zero] at hK
    exact hK
  case body =>
    rintro lp pre x W ⟨bl, bm, bn, br, bm2, sz, ⟨vo, BQ, hP, hno⟩, lr⟩ hR
    simp only [wkE, fold_ones, List.setIfInBounds_toArray, List.set_cons_succ, List.set_cons_zero]
    have hlen := lr.len
    obtain ⟨Ap, cp, rfl, hPA, hPc, hPm⟩ := RowZ.at (p := Tw.pathOf l number pre) (f := inC) (fun _ => rfl) (by rw [Tw.pathOf_len]; exact hP.1)
    have hP9 : RowZ 3 1 w.heap.size (Tw.pathOf l number pre).length ((Tw.pathOf l number pre).flatMap inC) (.slice Ap (Tw.pathOf l number pre).length cp) W := by
      have := hP.1
      rwa [← Tw.pathOf_len l number pre] at this
    have hQ1 : Bx W (w.heap.size + 1 + 1 + 1 + 1) 43 #[.slice Ap (Tw.pathOf l number pre).length cp] := BQ
    obtain ⟨hx1, hto⟩ := hR.lt
    obtain ⟨b, off, rfl, hbB, hcell⟩ := hA.run (Nat.le_refl _) hx1
    have e2 := hcell W bl 2 _ rfl
    rw [← hto] at e2
    have m0 := bm.cell 0 rfl
    have n0 := bn.cell 0 rfl
    by_cases hback : Tw.toOf l x = number
    · have tb : (Tw.toOf l x == number) = true := by simpa using hback
      have hoK : Kp (o = some (Tw.rot (Tw.pathOf l number pre))) := ⟨by rw [← ho.out]; unfold rotL; rw [lr.back hR hback]; rfl⟩
      have hP0 : 0 < (Tw.pathOf l number pre).length := by rw [Tw.pathOf_len]; omega
      have hP41 : (Tw.pathOf l number pre).length ≤ 41 := by rw [Tw.pathOf_len]; omega
      have hne : Tw.pathOf l number pre ≠ [] := fun e => by rw [e] at hP0; simp at hP0
      obtain ⟨hmin1, -⟩ := Tw.minOf_ok hne
      have hidx := idx_least hmin1
      have hkl : (Tw.pathOf l number pre).idxOf (Lib.minOf (Tw.pathOf l number pre)) < (Tw.pathOf l number pre).length := List.idxOf_lt_length_of_mem hmin1
      have hrot : Kp (Tw.rot (Tw.pathOf l number pre) = (Tw.pathOf l number pre).drop ((Tw.pathOf l number pre).idxOf (Lib.minOf (Tw.pathOf l number pre))) ++ (Tw.pathOf l number pre).take ((Tw.pathOf l number pre).idxOf (Lib.minOf (Tw.pathOf l number pre)))) := ⟨rfl⟩
      clear hR hto hcell hP hno lr hne hmin1 hback
      generalize Tw.toOf l x = to at *
      generalize Tw.pathOf l number pre = P at *
      obtain ⟨bp, op, rfl, hbp, -⟩ := hPA hP0
      have kM := fun d os => min_any P (some ⟨bp, op, none⟩) cp (Sort.grow (redrawn W d) os) (hPA.callx (below_regrown W d os)) hPc hP0 (by omega)
      have kI := fun d os => index_any P (some ⟨bp, op, none⟩) cp (Lib.minOf P) (Sort.grow (redrawn W d) os) (hPA.callx (below_regrown W d os)) hPc (by omega)
      rw [hidx] at kI
      generalize P.idxOf (Lib.minOf P) = k at *
      generalize Lib.minOf P = mn at *
      have q := fun d os => (hQ1.again d os).cell 0 rfl
      clear hidx
      gi_wp2_with fail
      refine wpIn_region_quiet (by kernel_rfl) (by kernel_rfl) (by kernel_rfl) ?_
      repeat (go_big_quiet_step (first
        | (go_at_call 102; with_reducible exact Calls.regrown_of (kM _ _))
        | (go_at_call 95; with_reducible exact Calls.regrown_of (kI _ _))))
      refine wpQuiet_nil ?_
      rintro _ ⟨qq, rfl⟩
      refine ⟨rfl, ?_⟩
      have hbo := below_regrown W qq.d qq.os
      replace bl := bl.trans (hbo.mono bl.size)
      replace hQ1 := hQ1.call hbo
      replace br := br.call hbo
      replace hPA := hPA.callx hbo
      have hF1 := FrN.below (B := w7.heap.size) hbo
      clear q kM kI m0 n0 e2 tb bm bn bm2 sz hP9 hbo
      generalize Sort.grow (redrawn W qq.d) qq.os = W3 at *
      have hcc : ∀ (g : Nat) (w3 : World), Below W3.heap.size W3 w3 → Bx w3 g 43 #[.slice (some ⟨bp, op + k, none⟩) (P.length - k) (cp - k), .slice (some ⟨bp, op, none⟩) k cp] → Calls Tryz.prog 103 #[.slice (some ⟨g, 0, none⟩) 2 2] w3 fun e w' => ∃ v cap, e = .returned v ∧ Below w3.heap.size w3 w' ∧ RowC 3 1 w3.heap.size cap (P.drop k ++ P.take k).length ((P.drop k ++ P.take k).flatMap inC) v w' ∧ cap ≤ maxLen := fun g w3 hw hB => by
        have h1 : (P.drop k).length = P.length - k := by simp
        have h2 : (P.take k).length = k := by simp; omega
        have := concat_any (P.drop k) (P.take k) (some ⟨bp, op + k, none⟩) (some ⟨bp, op, none⟩) (cp - k) cp g w3 (by rw [h1, h2]; exact hB) ((hPA.dropX k).callx hw) ((hPA.take k).callx hw) (by rw [h1, h2]; omega) (by rw [h1, h2]; omega)
        exact this
      have hdlK : Kp ((P.drop k ++ P.take k).length = P.length) := ⟨by rw [List.length_append, List.length_drop, List.length_take]; omega⟩
      obtain ⟨R, hRk⟩ := exKx (P.drop k ++ P.take k)
      rw [hRk.out] at hcc hdlK hrot
      clear hRk
      gi_wp2_with fail
      refine wpIn_region_rgl [Eqv (.slice (some ⟨bp, op, none⟩) P.length cp), Eqv (.int .i64 k), Eqv (.slice (some ⟨bp, op + k, none⟩) (P.length - k) (cp - k)), Eqv (.slice (some ⟨bp, op, none⟩) P.length cp), Eqv (.int .i64 k), Eqv (.slice (some ⟨bp, op, none⟩) k cp), Sl2 W3.heap.size (.slice (some ⟨bp, op + k, none⟩) (P.length - k) (cp - k)) (.slice (some ⟨bp, op, none⟩) k cp), (fun v w => ∃ cap, RowC 3 1 W3.heap.size cap R.length (R.flatMap inC) v w ∧ cap ≤ maxLen)] 8 43 (by kernel_rfl) (by kernel_rfl) rfl rfl (by kernel_rfl) ?_ ?_ ?_
      · simp only [AllS]
        exact ⟨stab_eqv _, stab_eqv _, stab_eqv _, stab_eqv _, stab_eqv _, stab_eqv _, stab_Sl2 _ _ _, fun v w w' ⟨cap, h, hm⟩ hb => ⟨cap, stab_rowC _ _ _ _ _ _ _ _ _ h hb, hm⟩, trivial⟩
      · simp only [Users, List.take, List.length]
        refine ⟨?_, ?_, ?_, ?_, ?_, ?_, ?_, ?_, trivial⟩
        all_goals (intro vs w3 hb2 hd; simp only [putD, Act.put, List.nil_append, List.cons_append, List.setIfInBounds_toArray, List.set_cons_succ, List.set_cons_zero, Nat.reduceAdd])
        · have q9 := (hQ1.call hb2).cell 0 rfl
          clear hd hcc hPA br bl hF1 BM BN BR BP BO BM2 BV hseq hz
          go_wp2
          first | exact ⟨Below.refl _ _, rfl⟩ | exact rfl | exact ⟨rfl, rfl⟩
        · clear hd hcc hPA br bl hF1 BM BN BR BP BO BM2 BV hseq hz
          go_wp2
          first | exact ⟨Below.refl _ _, rfl⟩ | exact rfl | exact ⟨rfl, rfl⟩
        · have ea : vs 0 = _ := hd 0 rfl
          have eb : vs 1 = _ := hd 1 rfl
          clear hd hcc hPA br bl hF1 BM BN BR BP BO BM2 BV hseq hz
          rw [ea, eb]
          go_wp2
          first | exact ⟨Below.refl _ _, rfl⟩ | exact rfl | exact ⟨rfl, rfl⟩
        · have q9 := (hQ1.call hb2).cell 0 rfl
          clear hd hcc hPA br bl hF1 BM BN BR BP BO BM2 BV hseq hz
          go_wp2
          first | exact ⟨Below.refl _ _, rfl⟩ | exact rfl | exact ⟨rfl, rfl⟩
        · clear hd hcc hPA br bl hF1 BM BN BR BP BO BM2 BV hseq hz
          go_wp2
          first | exact ⟨Below.refl _ _, rfl⟩ | exact rfl | exact ⟨rfl, rfl⟩
        · have ea : vs 3 = _ := hd 3 rfl
          have eb : vs 4 = _ := hd 4 rfl
          clear hd hcc hPA br bl hF1 BM BN BR BP BO BM2 BV hseq hz
          rw [ea, eb]
          go_wp2
          first | exact ⟨Below.refl _ _, rfl⟩ | exact rfl | exact ⟨rfl, rfl⟩
        · have ea : vs 2 = _ := hd 2 rfl
          have eb : vs 5 = _ := hd 5 rfl
          have hsz := hb2.size
          clear hd hcc hPA br bl hF1 BM BN BR BP BO BM2 BV hseq hz
          rw [ea, eb]
          go_wp2
          exact ⟨bNew (Below.refl _ _) _, _, rfl, hsz, Bx.mk w3 _ _⟩
        · obtain ⟨gg, eg, hg1, hg2⟩ : Sl2 W3.heap.size (.slice (some ⟨bp, op + k, none⟩) (P.length - k) (cp - k)) (.slice (some ⟨bp, op, none⟩) k cp) (vs 6) w3 := hd 6 rfl
          have hc1 := hcc gg w3 hb2 hg2
          have hsz := hb2.size
          clear hd hcc hPA br bl hF1 BM BN BR BP BO BM2 BV hseq hz
          rw [eg]
          go_wp2_with fail
          refine hc1.mono ?_
          rintro _ w4 ⟨v, cap', rfl, hbl4, ⟨g5, cells5, rfl, a2, a3, a4, a5, a6⟩, hm⟩
          go_wp2
          exact ⟨cap', ⟨g5, cells5, rfl, Nat.le_trans hsz a2, a3, a4, a5, a6⟩, hm⟩
      · intro vs wa hba hR2
        simp only [AllR, Eqv] at hR2
        obtain ⟨-, -, -, -, -, -, -, ⟨cap', ⟨g5, cells5, a1, a2, a3, a4, a5, a6⟩, hm⟩, -⟩ := hR2
        simp only [List.drop, List.take, List.map, putD, Act.put, List.setIfInBounds_toArray, List.set_cons_succ, List.set_cons_zero, Nat.reduceAdd]
        rw [a1]
        have br' : Bx wa (w.heap.size + 1 + 1) 43 #[.slice none 0 0] := br.call hba
        have q9 := br'.cell 0 rfl
        have f9 := br'.frozen 0
        have hF2 := (hF1.trans (FrN.below (B := w7.heap.size) hba)).trans (FrN.set (i := 0) (u := .slice (some ⟨g5, 0, none⟩) R.length cap') br')
        have hbf := bSet (bl.trans (hba.mono bl.size)) (p := ⟨w.heap.size + 1 + 1, 0, none⟩) (by show _ ≤ w.heap.size + 1 + 1; omega) (.slice (some ⟨g5, 0, none⟩) R.length cap')
        have hX : Kp (LvX o w .ret (pre ++ [x]) (wa.setCell ⟨w.heap.size + 1 + 1, 0, none⟩ (.slice (some ⟨g5, 0, none⟩) R.length cap'))) := by
          have hbs := bl.size
          have hbr := br.lt
          have := hdlK.out
          refine ⟨hbf, .inl ⟨rfl, _, R, cap', by rw [hoK.out, hrot.out], br'.set 0 _, ⟨g5, cells5, rfl, by omega, a3, a4.far (p := ⟨w.heap.size + 1 + 1, 0, none⟩) (by show g5 ≠ w.heap.size + 1 + 1; omega) _, a5, a6⟩, hm⟩⟩
        clear a1 a2 a3 a4 a5 a6 hcc hPA br bl hF1 BM BN BR BP BO BM2 BV hseq hz hbf hba hoK hrot
        go_wp2_with fail
        gi_wp2
        exact ⟨hF2, hX.out⟩
    · have tb : (Tw.toOf l x == number) = false := by simpa using hback
      have hPl : (Tw.pathOf l number pre).length ≤ 41 := by rw [Tw.pathOf_len]; omega
      have hnl := Kp.mk (Tw.pathOf_len l number pre)
      have hCn := contains_any (Tw.pathOf l number pre) Ap cp (Tw.toOf l x) W hPA hPc (by omega)
      have q5 := hQ1.cell 0 rfl
      have hmetK : Kp (Tw.toOf l x ∈ Tw.pathOf l number pre → o = none) := ⟨fun hm => by rw [← ho.out]; unfold rotL; rw [lr.met hR hback hm]; rfl⟩
      have honK : Kp (Tw.toOf l x ∉ Tw.pathOf l number pre → Tw.Lr l t number (pre ++ [x])) := ⟨fun hm => lr.on hR hback hm⟩
      have hsnK : Kp (Tw.pathOf l number (pre ++ [x]) = Tw.pathOf l number pre ++ [Tw.toOf l x]) := ⟨Tw.pathOf_snoc _ _ _ _⟩
      have hx6 := hP.2.1
      have hn0 := hP9.notBlk bm (by decide)
      have hn2 := hP9.notBlk br (by decide)
      have hn5 := hP9.notBlk bm2 (by decide)
      have hn4 := hP9.notBlk BQ (by decide)
      clear hto hcell hR lr hback hPA hP
      generalize Tw.toOf l x = to at *
      generalize Tw.pathOf l number pre = P at *
      obtain ⟨met, hmt⟩ := exKx (decide (to ∈ P))
      rw [hmt.out] at hCn
      gi_wp2_with fail
      refine ⟨trivial, ((callsIn_wide.2 hCn).inRound _).mono ?_⟩
      rintro _ W1 ⟨rfl, hbW⟩
      have hF1 := FrN.below (B := w7.heap.size) hbW
      replace bl := bl.trans (hbW.mono bl.size)
      have sz1 := Nat.lt_of_lt_of_le sz hbW.size
      have hv1 : W1.heap[w.heap.size + 6]? = W.heap[w.heap.size + 6]? := hbW.block _ sz
      replace br := br.call hbW
      replace bm := bm.call hbW
      replace bn := bn.call hbW
      replace bm2 := bm2.call hbW
      replace hQ1 := hQ1.call hbW
      replace hP9 := stab_rowZ _ _ _ _ _ _ _ _ hP9 hbW
      clear hCn q5 e2 m0 n0 hseq hz BM BN BR BP BO BM2 BV BQ sz hbW
      cases met
      · have hinK := hsnK
        have hR9K := Kp.mk (honK.out (of_decide_eq_false hmt.out))
        obtain ⟨ti, tz, hti, hzz, hs1, hz1, hby⟩ := intI
        have q5 := hQ1.cell 0 rfl
        have hsrc := intSrc (W := W1) (y := to) rfl
        have hbA : Below W1.heap.size W1 (W1.alloc (.cells #[.int .i64 to] 3)) := bNew (Below.refl _ _) _
        have hPA := stab_rowZ _ _ _ _ _ _ _ _ hP9 hbA
        have hFA := hF1.trans (FrN.below (B := w7.heap.size) hbA)
        have blA := bl.trans (hbA.mono bl.size)
        have hvA : (W1.alloc (.cells #[.int .i64 to] 3)).heap[w.heap.size + 6]? = W.heap[w.heap.size + 6]? := (hbA.block _ sz1).trans hv1
        replace br := br.call hbA
        replace bm := bm.call hbA
        replace bn := bn.call hbA
        replace bm2 := bm2.call hbA
        replace hQ1 := hQ1.call hbA
        have szA := Nat.lt_of_lt_of_le sz1 hbA.size
        clear hF1 bl hv1 hP9 hbA sz1 hsnK honK hmetK hmt
        gi_wp2_with (gi_at_builtin; refine wpListIn_of _ _ _ (by kernel_rfl) ?_; refine wpList_append_rowF rfl (.tmp 39) (.tmp 41) 43 3 rfl ti tz 1 w.heap.size P.length 1 (P.flatMap inC) [.int .i64 to] (.slice Ap P.length cp) (.slice (some ⟨W1.heap.size, 0, none⟩) 1 1) Tryz.underlying43 hti hzz hs1 hz1 rfl rfl hPA blA.size hsrc (by decide) (by unfold maxLen; omega) (by rw [hby]; omega) ?_; intro v' W2 e1 e0 e3; have Q2 := e0.bx hQ1 (fun n c e => hn4 ⟨n, c, e⟩); have q2 := Q2.cell 0 rfl; have f2 := Q2.frozen 0; replace e1 := Kp.mk e1; replace e0 := Kp.mk e0; replace e3 := Kp.mk e3; clear q5)
        have hk := e0.out
        have hsz2 := hk.size
        obtain ⟨g9, n9, c9, rfl, -⟩ := hk.at_
        have hF3 := (hFA.trans (FrN.kpv (B := w7.heap.size) hk hPA)).trans (FrN.set (i := 0) (u := .slice (some ⟨g9, 0, none⟩) n9 c9) Q2)
        have hn1 := hno
        have br2 := hk.bx br (fun n c e => hn2 ⟨n, c, e⟩)
        have bm_2 := hk.bx bm (fun n c e => hn0 ⟨n, c, e⟩)
        have bn_2 := hk.bx bn (fun n c e => hn1 ⟨n, c, e⟩)
        have bm2_2 := hk.bx bm2 (fun n c e => hn5 ⟨n, c, e⟩)
        have hv2 : W2.heap[w.heap.size + 6]? = W.heap[w.heap.size + 6]? := by
          rw [← hvA]
          exact (hk.same _ _ (Array.getElem?_eq_getElem szA) (fun n c e => hx6 ⟨n, c, e⟩)).trans (Array.getElem?_eq_getElem szA).symm
        have hnew : ∀ y, y < (W1.alloc (.cells #[.int .i64 to] 3)).heap.size → ¬ Blk (.slice Ap P.length cp) y → ¬ Blk (.slice (some ⟨g9, 0, none⟩) n9 c9) y := fun y hy hn hb => by
          obtain ⟨g, n, c, e, h⟩ := hk.at_
          rw [e] at hb
          rcases h with h | ⟨n2, c2, h⟩
          · have := hb.one (Blk.mk g n c); omega
          · have := hb.one (Blk.mk g n c)
            subst this
            exact hn ⟨n2, c2, h⟩
        have hI : Kp (LvI l t number (some ⟨b, off, none⟩) cap b1 b2 w (pre ++ [x]) (W2.setCell ⟨w.heap.size + 1 + 1 + 1 + 1, 0, none⟩ (.slice (some ⟨g9, 0, none⟩) n9 c9))) := by
          refine ⟨bSet (blA.trans e1.out) (p := ⟨w.heap.size + 1 + 1 + 1 + 1, 0, none⟩) (by show _ ≤ w.heap.size + 1 + 1 + 1 + 1; omega) _, bm_2.far (p := ⟨w.heap.size + 1 + 1 + 1 + 1, 0, none⟩) (by show w.heap.size ≠ w.heap.size + 1 + 1 + 1 + 1; omega) _, bn_2.far (p := ⟨w.heap.size + 1 + 1 + 1 + 1, 0, none⟩) (by show w.heap.size + 1 ≠ w.heap.size + 1 + 1 + 1 + 1; omega) _, br2.far (p := ⟨w.heap.size + 1 + 1 + 1 + 1, 0, none⟩) (by show w.heap.size + 2 ≠ w.heap.size + 1 + 1 + 1 + 1; omega) _, bm2_2.far (p := ⟨w.heap.size + 1 + 1 + 1 + 1, 0, none⟩) (by show w.heap.size + 5 ≠ w.heap.size + 1 + 1 + 1 + 1; omega) _, by rw [World.size_setCell]; omega, ⟨_, Q2.set 0 _, ⟨?_, hnew _ szA hx6, ?_⟩, hnew _ (by omega) hn1⟩, hR9K.out⟩
          · rw [hinK.out, List.flatMap_append, show (pre ++ [x]).length + 1 = P.length + 1 by rw [hnl.out, List.length_append]; rfl]
            exact e3.out.other Q2 (by decide)
          · rw [hinK.out, inC_len, List.length_append, List.length_append, hnl.out]; rfl
        have hv3 : (W2.setCell ⟨w.heap.size + 1 + 1 + 1 + 1, 0, none⟩ (.slice (some ⟨g9, 0, none⟩) n9 c9)).heap[w.heap.size + 6]? = W.heap[w.heap.size + 6]? := (Below.heap_setCell _ ⟨w.heap.size + 1 + 1 + 1 + 1, 0, none⟩ _ _ (by show w.heap.size + 6 ≠ w.heap.size + 1 + 1 + 1 + 1; omega)).trans hv2
        clear e1 e0 e3 hk br br2 bm bm_2 bn bn_2 bm2 bm2_2 hv2 hvA hnew hR9K hinK hnl hPA hFA blA hsrc hti hzz hs1 hz1 hby hn0 hn1 hn2 hn4 hn5 hno hx6 szA hsz2
        go_wp2_with fail
        exact ⟨hs7 ▸ hF3, hI.out, hv3⟩
      · have hnone := Kp.mk (hmetK.out (of_decide_eq_true hmt.out))
        gi_wp2
        exact ⟨hF1, bl, .inr ⟨rfl, hnone.out, br⟩⟩
  case done =>
    rintro D xs W hD hS ⟨bl, bm, bn, br, bm2, sz, row, lr⟩ hk
    have hoK : Kp (rotL l t number = none) := ⟨by unfold rotL; rw [lr.none hS]; rfl⟩
    have hMk := (Marks.nil w7.heap.size w7.heap.size W).push hD (Nat.le_refl _) hk
    have br' : Bx W (w.heap.size + 1 + 1) 43 #[.slice none 0 0] := br
    have f0 := br'.frozen 0
    have q0 := br'.cell 0 rfl
    clear hseq hz bm bn bm2 sz row lr hS BM BN BR BP BO BM2 BV
    go_wp2_with fail
    exact (hMk.set br' 0 _).leave fun W' hb' hB' => ⟨_, results_L1 rfl _ _ rfl (hB' _ _ _ (br'.set 0 (.slice none 0 0))), _, rfl, (bSet bl (p := ⟨w.heap.size + 1 + 1, 0, none⟩) (by show _ ≤ w.heap.size + 1 + 1; omega) _).trans (hb'.mono (by omega)), by rw [hoK.out]; rfl⟩
  case stop =>
    rintro D cd pre W hD ⟨hbl, (⟨rfl, v, r, cap', h3, h4, h5, h6⟩ | ⟨rfl, h3, h4⟩)⟩ hk
    · have hMk := (Marks.nil w7.heap.size w7.heap.size W).push hD (Nat.le_refl _) hk
      clear hseq hz BM BN BR BP BO BM2 BV
      gi_wp2
      exact hMk.leave fun W' hb' hB' => ⟨_, results_L1 rfl _ _ rfl (hB' _ _ _ h4), _, rfl, hbl.trans (hb'.mono (by omega)), by
        rw [ho.out, h3]
        obtain ⟨g, cells, a1, a2, a3, a4, a5, a6⟩ := h5
        exact LoA.of ⟨g, cells, a1, a2, a3, hB' _ _ _ a4, a5, a6⟩ h6⟩
    · have hMk := (Marks.nil w7.heap.size w7.heap.size W).push hD (Nat.le_refl _) hk
      have br' : Bx W (w.heap.size + 1 + 1) 43 #[.slice none 0 0] := h4
      have f0 := br'.frozen 0
      have q0 := br'.cell 0 rfl
      clear hseq hz BM BN BR BP BO BM2 BV
      gi_wp2
      go_wp2_with fail
      exact (hMk.set br' 0 _).leave fun W' hb' hB' => ⟨_, results_L1 rfl _ _ rfl (hB' _ _ _ (br'.set 0 (.slice none 0 0))), _, rfl, (bSet hbl (p := ⟨w.heap.size + 1 + 1, 0, none⟩) (by show _ ≤ w.heap.size + 1 + 1; omega) _).trans (hb'.mono (by omega)), by rw [ho.out, h3]; rfl⟩
end Go.Proofs.YtlldlkjngcgcjaaGreatDoor
namespace Go.Proofs.YtlldlkjngcgcjaaGreatDoor
set_option linter.unusedVariables false
namespace Tw
/-- the loop with this head -/
def hdF (out : List (List Int)) (h : Int) : Option (List Int) := out.find? fun r => r.headD 0 == h
theorem hdF_iff {out : List (List Int)} (hp : out.Pairwise fun a b => a.headD 0 < b.headD 0) {h : Int} {r : List Int} : hdF out h = some r ↔ r ∈ out ∧ r.headD 0 = h := by
  constructor
  · intro e
    exact ⟨List.mem_of_find?_eq_some e, by simpa using List.find?_some e⟩
  · rintro ⟨h1, rfl⟩
    cases e : hdF out (r.headD 0) with
    | none => have := List.find?_eq_none.1 e r h1; simp at this
    | some q =>
      have h2 : q ∈ out := List.mem_of_find?_eq_some e
      have h3 : q.headD 0 = r.headD 0 := by simpa using List.find?_some e
      obtain ⟨i, hi, rfl⟩ := List.getElem_of_mem h1
      obtain ⟨j, hj, rfl⟩ := List.getElem_of_mem h2
      rw [List.pairwise_iff_getElem] at hp
      rcases Nat.lt_trichotomy i j with h4 | rfl | h4
      · have := hp i j hi hj h4; omega
      · rfl
      · have := hp j i hj hi h4; omega
theorem loopsG_snoc (l : List St) (t : Int) (ns : List St) (s : St) : loopsG l t (ns ++ [s]) = match loopOf l t s.n with | some r => insH (rot r) (loopsG l t ns) | none => loopsG l t ns := by
  unfold loopsG; rw [List.foldl_append]; rfl
theorem loopsG_ok (l : List St) (t : Int) (ns : List St) : LsG l t ns (loopsG l t ns) := by
  refine snoc_ind (p := fun ns => LsG l t ns (loopsG l t ns)) (LsG.nil l t) (fun ns s ih => ?_) ns
  rw [loopsG_snoc]
  exact ih.snoc s
theorem hdF_snoc {l : List St} {t : Int} (ns : List St) {s : St} {r : List Int} (h : loopOf l t s.n = some r) (x : Int) : hdF (loopsG l t (ns ++ [s])) x = if x = (rot r).headD 0 then some (rot r) else hdF (loopsG l t ns) x := by
  have h1 := loopsG_ok l t ns
  have h2 := loopsG_ok l t (ns ++ [s])
  have hr := loopOf_some h
  obtain ⟨a1, a2, a3⟩ := rot_ok hr
  have he : loopsG l t (ns ++ [s]) = insH (rot r) (loopsG l t ns) := by rw [loopsG_snoc, h]
  obtain ⟨h4, h5⟩ := insH_ok (r := rot r) h1.up fun y hy e => by
    obtain ⟨⟨m, hm, -⟩, -⟩ := (h1.is y).1 hy
    exact heads a1 hm e
  have hmem : rot r ∈ loopsG l t (ns ++ [s]) := by rw [he]; exact (h5 _).2 (.inl rfl)
  by_cases hx : x = (rot r).headD 0
  · rw [if_pos hx]
    exact (hdF_iff h2.up).2 ⟨hmem, hx.symm⟩
  · rw [if_neg hx]
    refine Option.ext fun q => ?_
    rw [hdF_iff h2.up, hdF_iff h1.up]
    constructor
    · rintro ⟨q1, q2⟩
      rw [he] at q1
      rcases (h5 q).1 q1 with rfl | q1
      · exact absurd q2.symm hx
      · exact ⟨q1, q2⟩
    · rintro ⟨q1, q2⟩
      exact ⟨by rw [he]; exact (h5 q).2 (.inr q1), q2⟩
theorem hdF_snoc0 {l : List St} {t : Int} (ns : List St) {s : St} (h : loopOf l t s.n = none) (x : Int) : hdF (loopsG l t (ns ++ [s])) x = hdF (loopsG l t ns) x := by
  rw [loopsG_snoc, h]
theorem loop_num {l : List St} (hv : Va l) {t n : Int} {r : List Int} (h : Lp l t n r) : ∀ x ∈ r, 0 ≤ x ∧ x ≤ 99999999 := fun x hx => by
  obtain ⟨y, hy⟩ := h.step hx
  obtain ⟨s, hs, rfl⟩ := List.mem_map.1 (nx_in hy)
  have := (hv.fm s hs)
  have h1 := this.n0
  have h2 := this.n2
  exact ⟨by omega, by omega⟩
theorem loopsG_len {l : List St} {t : Int} (ns : List St) : (loopsG l t ns).length ≤ ns.length := by
  refine snoc_ind (p := fun ns => (loopsG l t ns).length ≤ ns.length) (Nat.le_refl _) (fun ns s ih => ?_) ns
  rw [loopsG_snoc, List.length_append, List.length_singleton]
  cases loopOf l t s.n with
  | none => exact Nat.le_succ_of_le ih
  | some r =>
    have : ∀ out : List (List Int), (insH (rot r) out).length ≤ out.length + 1 := fun out => by
      induction out with
      | nil => exact Nat.le_refl _
      | cons y out ih =>
        unfold insH
        split
        · simp only [List.length_cons]; omega
        · split <;> simp only [List.length_cons] <;> omega
    have := this (loopsG l t ns)
    show (insH _ _).length ≤ _
    omega
/-- a row that holds the same loops, in order -/
theorem loops_sorted {l : List St} {t : Int} {out : List (List Int)} (hm : ∀ r, r ∈ out ↔ r ∈ loopsL l t) (hn : out.Nodup) (hs : out.Pairwise fun a b => a.headD 0 ≤ b.headD 0) : out = loopsL l t := by
  have h0 := loopsL_ok l t
  refine Ls.is_ ⟨?_, fun r => (hm r).trans (h0.is r)⟩
  have h1 := List.Pairwise.and hs hn
  refine h1.imp_of_mem fun {a b} ha hb h => ?_
  have hne : a.headD 0 ≠ b.headD 0 := fun e => h.2 (by
    obtain ⟨m, a1, -⟩ := (h0.is a).1 ((hm a).1 ha)
    obtain ⟨m', b1, -⟩ := (h0.is b).1 ((hm b).1 hb)
    exact heads a1 b1 e)
  have := h.1
  omega
end Tw
end Go.Proofs.YtlldlkjngcgcjaaGreatDoor
namespace Go.Proofs.YtlldlkjngcgcjaaGreatDoor
set_option linter.unusedVariables false
set_option linter.unusedSimpArgs false
open Go.RowKit Go.Shelf
attribute [local go_sem] Oper.semAt_some
/-- the answer of cmp.Compare on int -/
def cmpW (a b : Int) : Int := if a < b then -1 else if a > b then 1 else 0
theorem cmpNaN (a : Int) (w : World) : Calls Tryz.prog 106 #[.int .i64 a] w fun e w' => e = .returned (.bool false) ∧ w = w' := by
  go_enter Tryz.func106, Tryz.ntmps106
  go_wp2
  go_ret
  exact ⟨by simp, rfl⟩
theorem cmpW_any (a b : Int) (w : World) : Calls Tryz.prog 56 #[.int .i64 a, .int .i64 b] w fun e w' => e = .returned (.int .i64 (cmpW a b)) ∧ w = w' := by
  rcases (show (a < b) ∨ (a = b) ∨ (b < a) by omega) with h | h | h
  · have t1 : decide (a < b) = true := by simp; omega
    have e : cmpW a b = -1 := by unfold cmpW; rw [if_pos h]
    go_enter Tryz.func56, Tryz.ntmps56
    go_wp2_with (go_at_call 106; refine (cmpNaN _ _).mono ?_; rintro e w' ⟨rfl, rfl⟩)
    go_ret
    exact ⟨by rw [e]; rfl, rfl⟩
  · subst h
    have e : cmpW a a = 0 := by unfold cmpW; rw [if_neg (by omega), if_neg (by omega)]
    go_enter Tryz.func56, Tryz.ntmps56
    go_wp2_with (go_at_call 106; refine (cmpNaN _ _).mono ?_; rintro e w' ⟨rfl, rfl⟩)
    go_ret
    exact ⟨by rw [e]; rfl, rfl⟩
  · have t1 : decide (a < b) = false := by simp; omega
    have t2 : decide (a > b) = true := by simp; omega
    have e : cmpW a b = 1 := by unfold cmpW; rw [if_neg (by omega), if_pos h]
    go_enter Tryz.func56, Tryz.ntmps56
    go_wp2_with (go_at_call 106; refine (cmpNaN _ _).mono ?_; rintro e w' ⟨rfl, rfl⟩)
    go_ret
    exact ⟨by rw [e]; rfl, rfl⟩
/-- a row of ints, not empty, that lies below B -/
def LoB (B : Nat) (r : List Int) (v : Value) (w : World) : Prop := r ≠ [] ∧ ∃ b off cap, v = .slice (some ⟨b, off, none⟩) r.length cap ∧ At 1 inC w B (some ⟨b, off, none⟩) r ∧ r.length ≤ cap ∧ cap ≤ maxLen
theorem LoB.below {B : Nat} {r : List Int} {v : Value} {w w' : World} (h : LoB B r v w) (hb : Below B w w') : LoB B r v w' := by
  obtain ⟨h0, b, off, cap, e, h1, h2⟩ := h
  exact ⟨h0, b, off, cap, e, h1.below hb, h2⟩
theorem LoB.head {B : Nat} {r : List Int} {v : Value} {w : World} (h : LoB B r v w) : ∃ b off n cap, v = .slice (some ⟨b, off, none⟩) (n + 1) cap ∧ b < B ∧ n + 1 ≤ maxLen ∧ w.cell? ⟨b, off, none⟩ = some (.int .i64 (r.headD 0)) := by
  obtain ⟨h0, b, off, cap, rfl, h1, h2, h3⟩ := h
  cases r with
  | nil => exact absurd rfl h0
  | cons a r =>
    obtain ⟨b', off', e, hb, hc⟩ := h1 (by simp)
    simp only [Option.some.injEq, Addr.mk.injEq, and_true] at e
    obtain ⟨rfl, rfl⟩ := e
    exact ⟨b, off, r.length, cap, rfl, hb, by simp only [List.length_cons] at h2; omega, hc 0 a rfl 0 _ rfl⟩
theorem LoB.more {B B' : Nat} {r : List Int} {v : Value} {w : World} (h : LoB B r v w) (hB : B ≤ B') : LoB B' r v w := by
  obtain ⟨h0, b, off, cap, e, h1, h2⟩ := h
  exact ⟨h0, b, off, cap, e, h1.more hB, h2⟩
theorem LoB.callx {r : List Int} {v : Value} {w w' : World} (h : LoB w.heap.size r v w) (hb : Below w.heap.size w w') : LoB w'.heap.size r v w' := (h.below hb).more hb.size
theorem LoB.of {r : List Int} {v : Value} {w : World} (h : LoA (some r) v w) (hne : r ≠ []) : LoB w.heap.size r v w := by
  obtain ⟨b, off, cap, e, h1, h2, h3⟩ := h
  exact ⟨hne, b, off, cap, e, h1, h2, h3⟩
theorem LoB.to {B : Nat} {r : List Int} {v : Value} {w : World} (h : LoB B r v w) (hB : B ≤ w.heap.size) : LoA (some r) v w := by
  obtain ⟨h0, b, off, cap, e, h1, h2, h3⟩ := h
  exact ⟨b, off, cap, e, h1.more hB, h2, h3⟩
/-- a map (or any other record) is written: the rows stay -/
theorem LoB.grown {B b : Nat} {r : List Int} {v : Value} {w w' : World} {o : Obj} (h : LoB B r v w) (hg : w.grownBy w' (some b)) (ho : w.heap[b]? = some o) (hc : o.isCells = false) (hB : B ≤ w.heap.size) : LoB B r v w' := by
  obtain ⟨h0, c, off, cap, e, h1, h2⟩ := h
  refine ⟨h0, c, off, cap, e, fun hp => ?_, h2⟩
  obtain ⟨b', off', e2, hb, hcell⟩ := h1 hp
  refine ⟨b', off', e2, hb, fun i x hi j u hj => ?_⟩
  have h3 := hcell i x hi j u hj
  have hne : b' ≠ b := by
    rintro rfl
    simp only [World.cell?, ho] at h3
    cases o <;> simp_all [Obj.isCells]
  rw [← h3]
  simp only [World.cell?]
  rw [hg.block b' (by omega) (by intro h; injection h with h; exact hne h)]
theorem LoB.kept {B : Nat} {r : List Int} {v : Value} {w w' : World} (h : LoB B r v w) (hg : w.grownBy w' none) (hB : B ≤ w.heap.size) : LoB B r v w' := by
  obtain ⟨h0, c, off, cap, e, h1, h2⟩ := h
  refine ⟨h0, c, off, cap, e, fun hp => ?_, h2⟩
  obtain ⟨b', off', e2, hb, hcell⟩ := h1 hp
  refine ⟨b', off', e2, hb, fun i x hi j u hj => ?_⟩
  rw [← hcell i x hi j u hj]
  simp only [World.cell?]
  rw [hg.block b' (by omega) (by intro h; cases h)]
/-- a row of rows -/
def elC (e : Value × List Int) : List Value := [e.1]
def RrA (out : List (List Int)) (v : Value) (w : World) : Prop := ∃ es : List (Value × List Int), es.map (·.2) = out ∧ (∀ e ∈ es, LoB w.heap.size e.2 e.1 w) ∧ ∃ S cap, v = .slice S es.length cap ∧ At 1 elC w w.heap.size S es ∧ es.length ≤ cap ∧ cap ≤ maxLen
theorem RrA.call {out : List (List Int)} {v : Value} {X Y : World} (h : RrA out v X) (hb : Below X.heap.size X Y) : RrA out v Y := by
  obtain ⟨es, h1, h2, S, cap, e, h3, h4⟩ := h
  exact ⟨es, h1, fun e he => (h2 e he).callx hb, S, cap, e, h3.callx hb, h4⟩
theorem RrA.nil (w : World) : RrA [] (.slice none 0 0) w := ⟨[], rfl, fun e he => absurd he List.not_mem_nil, none, 0, rfl, At.nil, Nat.le_refl _, Nat.zero_le _⟩
end Go.Proofs.YtlldlkjngcgcjaaGreatDoor

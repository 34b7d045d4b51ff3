/- Splits of package tariff, where the input is good. The inner function of Cheapest, of package tariff. What the rounds of Cheapest, of package tariff, keep. A region that draws its order, each operation by a relation of its own, guarded operations included. -/
import Derived.Test.YtfebcokmnhdbmaaGreatDoorQ04
import Derived.Deep.DeepCutAuto
import Derived.Test.YtfebcokmnhdbmaaGreatDoorQ03
import Derived.Test.YtfebcokmnhdbmaaGreatDoorQ01
namespace Go.Proofs.YtfebcokmnhdbmaaGreatDoor
set_option linter.unusedVariables false
set_option linter.unusedSimpArgs false
open Go.RowKit Go.Shelf
attribute [local go_sem] Oper.semAt_some
set_option maxRecDepth 100000 in
theorem pricedI : ∃ i z, Tryz.prog.info? 64 = some i ∧ i.zero = some z ∧ i.size = 3 ∧ z.cells.size = 3 ∧ i.bytes = 24 := ⟨_, _, rfl, rfl, rfl, rfl, rfl⟩
structure SplI (n₀ B g8 : Nat) (w : World) (out : List Tp.Pc) (W : World) : Prop where
  bl : Below n₀ w W
  row : ∃ v, Bx W g8 47 #[v] ∧ RowZ 64 3 B out.length (out.flatMap pcC) v W
  sz : B ≤ W.heap.size
theorem splits_snoc (pre : List PcR) (x : PcR) : Tp.splits ((pre ++ [x]).map (·.1)) = Tp.push (Tp.splits (pre.map (·.1))) x.1 := by
  simp [Tp.splits, List.foldl_append]
theorem push_len (out : List Tp.Pc) (p : Tp.Pc) : (Tp.push out p).length ≤ out.length + 1 := by
  rcases List.eq_nil_or_concat out with rfl | ⟨out0, q, hq⟩
  · simp [Tp.push]
  · obtain rfl : out = out0 ++ [q] := by simpa using hq
    rw [Tp.push_snoc]
    split <;> simp
theorem foldl_push_len : ∀ (L out : List Tp.Pc), (L.foldl Tp.push out).length ≤ out.length + L.length
  | [], out => by simp
  | p :: L, out => by
    have h1 := foldl_push_len L (Tp.push out p)
    have h2 := push_len out p
    rw [List.foldl_cons, List.length_cons]
    omega
theorem splits_len (L : List Tp.Pc) : (Tp.splits L).length ≤ L.length := by
  have := foldl_push_len L []
  simpa [Tp.splits] using this
theorem kpT_E {n₀ B : Nat} {bs : List Nat} {W W' : World} (h : Below B W W') (hE : KpE 64 W W') (hn : n₀ ≤ B) (hb : ∀ b ∈ bs, b < B) : KpT n₀ B bs W W' :=
  ⟨h.mono hn, fun b hbb => h.block b (hb b hbb), fun b cs _ h2 => hE.bx (by decide) h2⟩
theorem kf_E {B : Nat} {W W' : World} (hs : W.heap.size ≤ W'.heap.size) (hE : KpE 64 W W') (B0 : Nat) : KeepsFrom B0 W W' :=
  ⟨hs, fun k o _ hk ho => hE.same k o hk (fun cs f e => by rw [e] at ho; cases ho)⟩
theorem rowZ_far {e : TypeId} {size B n : Nat} {flat : List Value} {v : Value} {W : World} (h : RowZ e size B n flat v W) {p : Addr} (hp : p.block < B) (u : Value) : RowZ e size B n flat v (W.setCell p u) := by
  rcases h with h | ⟨cap, ⟨g, cells, h1, h2, h3, h4, h5, h6⟩, hm⟩
  · exact .inl h
  · exact .inr ⟨cap, ⟨g, cells, h1, h2, h3, h4.far (by omega) u, h5, h6⟩, hm⟩
theorem rowZ_put {e : TypeId} {size B n D : Nat} {flat : List Value} {v : Value} {W : World} {o : Obj} (h : RowZ e size B n flat v W) (hD : W.heap[D]? = some o) (ho : o.isCells = false) (o' : Obj) : RowZ e size B n flat v (W.putObj D o') := by
  rcases h with h | ⟨cap, ⟨g, cells, h1, h2, h3, h4, h5, h6⟩, hm⟩
  · exact .inl h
  · refine .inr ⟨cap, ⟨g, cells, h1, h2, h3, ?_, h5, h6⟩, hm⟩
    have hne : D ≠ g := by
      rintro rfl
      rw [show W.heap[D]? = _ from h4] at hD
      cases hD; cases ho
    show (W.heap.setIfInBounds D o')[g]? = _
    rw [Array.getElem?_setIfInBounds_ne hne]
    exact h4
theorem RowZ.shape {e : TypeId} {size B n : Nat} {flat : List Value} {v : Value} {W : World} (h : RowZ e size B n flat v W) : ∃ A c, v = .slice A n c := by
  rcases h with ⟨rfl, rfl, -⟩ | ⟨cap, ⟨g, cells, rfl, -⟩, -⟩
  · exact ⟨_, _, rfl⟩
  · exact ⟨_, _, rfl⟩
/-- a piece is appended, and the slice stored -/
theorem SplI.push {n₀ B g8 : Nat} {bs : List Nat} {w W W1 W2 : World} {out : List Tp.Pc} {p : Tp.Pc} {v' : Value} (h : SplI n₀ B g8 w out W) (hW : Below W.heap.size W W1) (hB : Below B W1 W2) (hE : KpE 64 W1 W2)
    (hr : RowZ 64 3 B (out.length + 1) (out.flatMap pcC ++ pcC p) v' W2) (hg : g8 < B) (hn : n₀ ≤ g8) (hb : ∀ b ∈ bs, b < B ∧ b ≠ g8) (B0 : Nat) :
    KeepsFrom B0 W (W2.setCell ⟨g8, 0, none⟩ v') ∧ KpT n₀ B bs W (W2.setCell ⟨g8, 0, none⟩ v') ∧ SplI n₀ B g8 w (out ++ [p]) (W2.setCell ⟨g8, 0, none⟩ v') := by
  obtain ⟨v, h1, h2⟩ := h.row
  have hsz := h.sz
  have x1 := (h1.call hW).below hB hg
  have k1 : KpT n₀ B bs W W1 := (KpS.call hW (by omega) (fun b hb1 => by have := hb b hb1; omega)).toT
  have k2 : KpT n₀ B bs W1 W2 := kpT_E hB hE (by omega) (fun b hb1 => (hb b hb1).1)
  have k3 : KpT n₀ B bs W2 (W2.setCell ⟨g8, 0, none⟩ v') := (KpS.set hn hg (fun b hb1 => (hb b hb1).2) v').toT
  have f2 : KeepsFrom B0 W1 W2 := kf_E (B := B) hB.size hE B0
  refine ⟨((tkeeps_below hW B0).trans f2).trans ((KeepsOthers.setCell _ _ _).from _), (k1.trans k2).trans k3, h.bl.trans (((k1.trans k2).trans k3).below), ⟨v', by simpa using x1.set 0 v', ?_⟩, ?_⟩
  · rw [List.length_append, List.flatMap_append, List.length_singleton, List.flatMap_singleton]
    exact rowZ_far hr hg v'
  · have := hW.size; have := hB.size; have := (KeepsOthers.setCell W2 ⟨g8, 0, none⟩ v').size; omega
theorem rowC_last {e : TypeId} {B cap : Nat} {out : List Tp.Pc} {q : Tp.Pc} {v : Value} {W : World} (h : RowC e 3 B cap (out ++ [q]).length ((out ++ [q]).flatMap pcC) v W) :
    ∃ g cells, v = .slice (some ⟨g, 0, none⟩) (out.length + 1) cap ∧ B ≤ g ∧ out.length + 1 ≤ cap ∧ Bx W g e cells ∧ cells[out.length * 3]? = some (.int .i64 q.lo) ∧ cells[out.length * 3 + 1]? = some (.int .i64 q.hi) ∧ cells[out.length * 3 + 2]? = some (.int .i64 q.price) := by
  obtain ⟨g, cells, h1, h2, h3, h4, h5, h6⟩ := h
  rw [List.length_append, List.length_singleton] at *
  have key : ∀ j u, j < 3 → (pcC q)[j]? = some u → cells[out.length * 3 + j]? = some u := fun j u hj hu => by
    have e1 := flat_get (f := pcC) (size := 3) (fun _ => rfl) (out ++ [q]) out.length j q (by simp) hj
    rw [← h6, List.getElem?_take, if_pos (by omega), hu] at e1
    simpa using e1
  exact ⟨g, cells, h1, h2, h3, h4, key 0 _ (by decide) rfl, key 1 _ (by decide) rfl, key 2 _ (by decide) rfl⟩
/-- the last piece goes on -/
theorem SplI.merge {n₀ B g8 g : Nat} {bs : List Nat} {w W W1 : World} {out : List Tp.Pc} {q : Tp.Pc} {hi : Int} {cap : Nat} (h : SplI n₀ B g8 w (out ++ [q]) W) (hW : Below W.heap.size W W1) (hx : Bx W g8 47 #[.slice (some ⟨g, 0, none⟩) (out.length + 1) cap]) (hcm : cap ≤ maxLen)
    (hr : RowC 64 3 B cap (out ++ [q]).length ((out ++ [q]).flatMap pcC) (.slice (some ⟨g, 0, none⟩) (out.length + 1) cap) W) (hg : g8 < B) (hn : n₀ ≤ g8) (hb : ∀ b ∈ bs, b < B ∧ b ≠ g8) (B0 : Nat) :
    KeepsFrom B0 W (W1.setCell ⟨g, out.length * 3 + 1, none⟩ (.int .i64 hi)) ∧ KpT n₀ B bs W (W1.setCell ⟨g, out.length * 3 + 1, none⟩ (.int .i64 hi)) ∧ SplI n₀ B g8 w (out ++ [⟨q.lo, hi, q.price⟩]) (W1.setCell ⟨g, out.length * 3 + 1, none⟩ (.int .i64 hi)) := by
  have hsz := h.sz
  have r1 := stab_rowC _ _ _ _ _ _ _ _ _ hr hW
  obtain ⟨g', cells, e1, e2, e3, e4, e5, e6⟩ := r1
  rw [List.length_append, List.length_singleton] at e1
  cases e1
  have hE : KpE 64 W1 (W1.setCell ⟨g, out.length * 3 + 1, none⟩ (.int .i64 hi)) := KpE.set e4 _ _
  have hB : Below B W1 (W1.setCell ⟨g, out.length * 3 + 1, none⟩ (.int .i64 hi)) := (Below.refl _ _).setCell e2 _
  have k1 : KpT n₀ B bs W W1 := (KpS.call hW (by omega) (fun b hb1 => by have := hb b hb1; omega)).toT
  have k2 := kpT_E (n₀ := n₀) (bs := bs) hB hE (by omega) (fun b hb1 => (hb b hb1).1)
  refine ⟨(tkeeps_below hW B0).trans (kf_E (B := B) hB.size hE B0), k1.trans k2, h.bl.trans (k1.trans k2).below, ⟨_, (hx.call hW).below hB hg, .inr ⟨cap, ⟨g, _, ?_, e2, ?_, e4.set _ _, ?_, ?_⟩, hcm⟩⟩, ?_⟩
  · rw [List.length_append, List.length_singleton]
  · rw [List.length_append, List.length_singleton] at *; omega
  · simpa using e5
  · have e6' := e6
    rw [List.length_append, List.length_singleton] at e6' ⊢
    rw [Array.toList_setIfInBounds, List.take_set, e6']
    rw [List.flatMap_append, List.flatMap_append, List.flatMap_singleton, List.flatMap_singleton]
    have hl := flat_len (f := pcC) (size := 3) (fun _ => rfl) out
    rw [List.set_append_right _ _ (by omega), hl, show out.length * 3 + 1 - out.length * 3 = 1 by omega]
    rfl
  · have := hW.size; have := hB.size; omega
set_option maxRecDepth 100000 in
set_option maxHeartbeats 4000000 in
theorem Splits_good (base : Int) (L : List Tp.Rate) (A : Option Addr) (cap : Nat) (off a b : Int) (w : World) (hT : Tar w base L A cap) (hgood : good base L off a b = true) :
    Calls Tryz.prog 30 #[.agg #[.slice A L.length cap, .int .i64 base], .int .i64 off, .agg #[.int .i64 a, .int .i64 b]] w fun e w' => (∃ C cc, e = .returned (.tuple #[.slice C (Tp.splits (Tp.pieces base L (Tp.cutsOf L) off (b - a).toNat a b)).length cc, .int .i64 0]) ∧
      At 3 pcC w' w'.heap.size C (Tp.splits (Tp.pieces base L (Tp.cutsOf L) off (b - a).toNat a b)) ∧ (Tp.splits (Tp.pieces base L (Tp.cutsOf L) off (b - a).toNat a b)).length ≤ cc ∧ cc ≤ maxLen) ∧ Below w.heap.size w w' := by
  obtain ⟨g1, g2, g3, g4, g5⟩ := good_iff.1 hgood
  have b1 := bNewW w (.cells #[.slice A L.length cap, .int .i64 base] 26)
  have hb := bNew b1 (.cells #[.int .i64 a, .int .i64 b] 28)
  have BX := (Bx.mk w 26 #[.slice A L.length cap, .int .i64 base]).new (.cells #[.int .i64 a, .int .i64 b] 28)
  have BS := Bx.mk (w.alloc (.cells #[.slice A L.length cap, .int .i64 base] 26)) 28 #[.int .i64 a, .int .i64 b]
  rw [alloc_size] at BS
  have hG := good_any base L A cap off a b _ (hT.call hb)
  rw [hgood] at hG
  have c0 := BX.cell 0 rfl
  have c1 := BX.cell 1 rfl
  have c3 := BS.cell 0 rfl
  have c4 := BS.cell 1 rfl
  clear b1 hgood
  refine (callsIn_wide (n := 3)).1 ?_
  refine callsIn_of_wp_marks Tryz.func30 rfl trivial ?_ rfl
  simp only [Tryz.ntmps30, List.size_toArray, List.length_cons, List.length_nil, Nat.reduceAdd, Nat.reduceSub, Array.replicate_succ, Array.replicate_zero, List.push_toArray, List.append_toArray, List.nil_append, List.cons_append]
  refine wpIn_wide.2 ?_
  go_upto_region 3 with (go_at_call 56; refine hG.mono ?_; rintro e w1 ⟨rfl, hb1⟩; clear hG)
  clear c0 c1 c3 c4
  have hb := bNew (bCall hb hb1) (.cells #[.slice none 0 0] 47)
  have BX := (BX.call hb1).new (.cells #[.slice none 0 0] 47)
  have BS := (BS.call hb1).new (.cells #[.slice none 0 0] 47)
  have BO := Bx.mk w1 47 #[.slice none 0 0]
  go_upto_region 4 with fail
  have hl8 := BO.lt
  have hn8 : w.heap.size ≤ w1.heap.size := by have := hb.size; have h2 := hb1.size; simp only [alloc_size] at h2; omega
  generalize w1.alloc (.cells #[.slice none 0 0] 47) = W3 at *
  generalize w1.heap.size = g8 at *
  have c0 := BX.cell 0 rfl
  have c1 := BX.cell 1 rfl
  have c3 := BS.cell 0 rfl
  have c4 := BS.cell 1 rfl
  go_wp2_with (go_at_call 61; refine ((callsIn_wide (n := 3)).1 (spells_in 3 _ _ _ _ ⟨_, _, _, _, rfl⟩ ⟨_, _, rfl⟩)).mono ?_; rintro e w' ⟨rfl, rfl⟩)
  clear c0 c1 c3 c4 BX BS
  have bX := ((Bx.mk W3 26 #[.slice A L.length cap, .int .i64 base]).new (.cells #[.int .i64 off] 3)).new (.cells #[.int .i64 a, .int .i64 b] 28)
  have bO := (Bx.mk (W3.alloc (.cells #[.slice A L.length cap, .int .i64 base] 26)) 3 #[.int .i64 off]).new (.cells #[.int .i64 a, .int .i64 b] 28)
  rw [alloc_size] at bO
  have bS := Bx.mk ((W3.alloc (.cells #[.slice A L.length cap, .int .i64 base] 26)).alloc (.cells #[.int .i64 off] 3)) 28 #[.int .i64 a, .int .i64 b]
  rw [alloc_size, alloc_size] at bS
  have hb3 : Below W3.heap.size W3 _ := bNew (bNew (bNewW W3 (.cells #[.slice A L.length cap, .int .i64 base] 26)) (.cells #[.int .i64 off] 3)) (.cells #[.int .i64 a, .int .i64 b] 28)
  have hsz4 : (((W3.alloc (.cells #[.slice A L.length cap, .int .i64 base] 26)).alloc (.cells #[.int .i64 off] 3)).alloc (.cells #[.int .i64 a, .int .i64 b] 28)).heap.size = W3.heap.size + 3 := by rw [alloc_size, alloc_size, alloc_size]
  have hb4 := hb.trans (hb3.mono hb.size)
  have BO := BO.call hb3
  generalize (((W3.alloc (.cells #[.slice A L.length cap, .int .i64 base] 26)).alloc (.cells #[.int .i64 off] 3)).alloc (.cells #[.int .i64 a, .int .i64 b] 28)) = W4 at *
  generalize hq0 : W3.heap.size = q0 at *
  have hsN : (Tp.pieces base L (Tp.cutsOf L) off (b - a).toNat a b).length ≤ 20000000 := Nat.le_trans (pieces_len _ _ _ _ _ _ _) (by omega)
  refine (wpIn_wide (n := 3)).1 ?_
  refine wpIn_rangeFunc_ownH (n := 3) rfl (by decide) (gf := 80) (lb := #[.pointer (some ⟨q0, 0, none⟩), .pointer (some ⟨q0 + 1 + 1, 0, none⟩), .pointer (some ⟨q0 + 1, 0, none⟩)]) rfl trivial (enters_of Tryz.func80 (by kernel_rfl) rfl)
    (spells_stopsT 2 (by decide) q0 (q0 + 1 + 1) (q0 + 1) w.heap.size W4.heap.size base L A cap off a b W4 g1 g2 g3 (by omega) hT.r64 hT.cap (by omega) (Nat.le_refl _) (hT.at_.below hb4) bX bO bS) KpT.trans (kpT_b (by omega) (by simp; omega)) (Below.refl _ _) (fun _ => rfl)
    (fun pre W => SplI w.heap.size W4.heap.size g8 w (Tp.splits (pre.map (·.1))) W) (fun _ _ _ => False)
    (fun pre W W' row hs hg hr => ⟨hs.bl.trans (Below.grown (Below.refl _ _) hg (by have := hs.sz; omega) (fun k e => by have := (hr k e).1; have := hs.sz; omega)), by
      obtain ⟨v, h1, h2⟩ := hs.row
      refine ⟨v, tbx_kept h1 hg (fun r e => (hr r e).2), ?_⟩
      rcases h2 with h2 | ⟨cap, ⟨gr, cells, k1, k2, k3, k4, k5, k6⟩, hm⟩
      · exact .inl h2
      · exact .inr ⟨cap, ⟨gr, cells, k1, k2, k3, tbx_kept k4 hg (fun r e => (hr r e).2), k5, k6⟩, hm⟩, Nat.le_trans hs.sz hg.size⟩)
    (fun _ _ _ _ _ hs _ _ => hs)
    ⟨hb4, ⟨_, BO, .inl ⟨rfl, rfl, rfl⟩⟩, Nat.le_refl _⟩
    (fun x a' W => ∃ g, W4.heap.size ≤ g ∧ Bx W g 64 #[.int .i64 x.1.lo, .int .i64 x.1.hi, .int .i64 x.1.price] ∧ a' = { tmps := #[.agg #[.slice A L.length cap, .int .i64 base], .int .i64 off, .agg #[.int .i64 a, .int .i64 b], .pointer (some ⟨w.heap.size, 0, none⟩), undef, .pointer (some ⟨w.heap.size + 1, 0, none⟩), .slice none 0 0, .int .i64 0, .pointer (some ⟨g8, 0, none⟩), .pointer (some ⟨g, 0, none⟩), undef, .agg #[.slice A L.length cap, .int .i64 base], .int .i64 off, .agg #[.int .i64 a, .int .i64 b], .bool true, .bool false, .agg #[.slice A L.length cap, .int .i64 base], .int .i64 off, .agg #[.int .i64 a, .int .i64 b], .func (.func 80) #[] #[.pointer (some ⟨q0, 0, none⟩), .pointer (some ⟨q0 + 1 + 1, 0, none⟩), .pointer (some ⟨q0 + 1, 0, none⟩)], .agg #[.int .i64 x.1.lo, .int .i64 x.1.hi, .int .i64 x.1.price], undef, undef, undef, undef, undef, undef, undef, undef, undef, undef, undef, undef, undef, undef, undef, undef, undef, undef, undef, undef, undef, undef, undef, undef, undef, undef, undef, undef, undef, undef, undef, undef, undef, undef, undef], defers := [] })
    (fun x a' _ X Y row hs hg hr => by obtain ⟨g, h1, h2, h3⟩ := hs; exact ⟨g, h1, tbx_kept h2 hg (fun r e => (hr r e).2), h3⟩)
    ?assign ?body ?done ?stop
  case assign =>
    rintro l pre x W K i1 hK
    have i2 := i1.sz
    simp only [pcR, pcA]
    gi_wp2
    refine hK _ _ ((KeepsOthers.alloc _ _).from _) (KpS.call (bNewW W _) (by omega) (by simp; omega)).toT ⟨bNew i1.bl _, ?_, by rw [alloc_size]; omega⟩ ⟨W.heap.size, by omega, Bx.mk _ _ _, rfl⟩
    obtain ⟨v, h1, h2⟩ := i1.row
    exact ⟨v, h1.new _, stab_rowZ _ _ _ _ _ _ _ _ h2 (bNewW W _)⟩
  case body =>
    rintro l pre ⟨⟨lo, hi, price⟩, hx⟩ a' W hl ⟨r, hr⟩ i0 ⟨g, hg, bP, rfl⟩ hlt
    have i0' := i0
    obtain ⟨i1, ⟨v, i2, i3⟩, i4⟩ := i0'
    have hsn := Kp.mk (splits_snoc pre ⟨⟨lo, hi, price⟩, hx⟩)
    simp only at bP hsn ⊢
    obtain ⟨p1, p2, p3, p4, p5, p6⟩ := hx
    simp only at p1 p2 p3 p4 p5 p6
    have hout := Nat.le_trans (splits_len (pre.map (·.1))) (by rw [List.length_map]; omega : (pre.map (·.1)).length ≤ 20000000)
    generalize Tp.splits (pre.map (·.1)) = out at *
    have y0 := fun d os => (bP.again d os).cell 0 rfl
    have y1 := fun d os => (bP.again d os).cell 1 rfl
    have y2 := fun d os => (bP.again d os).cell 2 rfl
    obtain ⟨i, z, hi1, hzz, hs1, hz1, hby⟩ := pricedI
    have hg8 : g8 < W4.heap.size := by omega
    have hn8' : w.heap.size ≤ g8 := hn8
    have hbs : ∀ b ∈ [q0, q0 + 1 + 1, q0 + 1], b < W4.heap.size ∧ b ≠ g8 := by intro b hb; simp only [List.mem_cons, List.not_mem_nil, or_false] at hb; omega
    rcases List.eq_nil_or_concat out with rfl | ⟨out0, q, hq⟩
    · obtain ⟨A8, cap8, rfl, hAt8, hle8, hcm8⟩ := RowZ.at (f := pcC) (fun _ => rfl) i3
      have k8 := i2.cell 0 rfl
      have z8 := fun d os => (i2.again d os).cell 0 rfl
      gi_wp2
      refine wpIn_region_quiet (by kernel_rfl) (by kernel_rfl) (by kernel_rfl) ?_
      repeat (go_big_quiet_step (fail))
      refine wpQuiet_nil ?_
      rintro _ ⟨qq, rfl⟩
      refine ⟨rfl, ?_⟩
      have hW0 := below_regrown W qq.d qq.os
      generalize Sort.grow (redrawn W qq.d) qq.os = W5 at hW0 ⊢
      have hsrc := RowC.src (P := Tryz.prog) (B := W5.heap.size) (cap := 1) (e := 64) (t := 47) (fun u hu => by simp at hu; rcases hu with rfl | rfl | rfl <;> rfl) Tryz.underlying47 (show RowC 64 3 W5.heap.size 1 1 [.int .i64 lo, .int .i64 hi, .int .i64 price] (.slice (some ⟨W5.heap.size, 0, none⟩) 1 1) (W5.alloc (.cells #[.int .i64 lo, .int .i64 hi, .int .i64 price] 64)) from ⟨_, _, rfl, Nat.le_refl _, Nat.le_refl _, Bx.mk _ _ _, rfl, rfl⟩)
      have hW1 := hW0.alloc hW0.size (.cells #[.int .i64 lo, .int .i64 hi, .int .i64 price] 64)
      have hrow1 := stab_rowZ _ _ _ _ _ _ _ _ i3 hW1
      have c8 := (i2.call hW0).cell 0 rfl
      have cp0 := (bP.call hW0).cell 0 rfl
      have cp1 := (bP.call hW0).cell 1 rfl
      have cp2 := (bP.call hW0).cell 2 rfl
      gi_wp2_with (gi_at_builtin; refine wpListIn_of _ _ _ (by kernel_rfl) ?_; refine wpList_append_rowE rfl (.tmp 51) (.tmp 53) 47 64 rfl i z 3 W4.heap.size 0 1 [] [.int .i64 lo, .int .i64 hi, .int .i64 price] _ _ Tryz.underlying47 hi1 hzz hs1 hz1 rfl rfl hrow1 (Nat.le_trans i4 hW1.size) hsrc (by omega) (by unfold maxLen; omega) (by rw [hby]; omega) ?_; intro v' w' e1 e2 e3; obtain ⟨A9, c9, rfl⟩ := e3.shape; replace e3 := Kp.mk e3; have f8 := ((i2.call hW1).below e1 hg8).frozen 0; have c9 := ((i2.call hW1).below e1 hg8).cell 0 rfl)
      go_wp2
      gi_wp2
      obtain ⟨k1, k2, k3⟩ := SplI.push (p := ⟨lo, hi, price⟩) i0 hW1 e1 e2 e3.out hg8 hn8' hbs _
      exact ⟨k1, k2, (congrArg (fun o => SplI w.heap.size W4.heap.size g8 w o _) hsn.out).mpr k3⟩
    · obtain rfl : out = out0 ++ [q] := by simpa using hq
      rcases i3 with ⟨-, h0, -⟩ | ⟨cap8, hrow, hcm⟩
      · simp at h0
      obtain ⟨g9, cells, rfl, hg9, hcap9, B9, q0', q1', q2'⟩ := rowC_last hrow
      obtain ⟨m, hm⟩ : ∃ m, out0.length = m := ⟨_, rfl⟩
      have k8 : W.cell? ⟨g8, 0, none⟩ = some (.slice (some ⟨g9, 0, none⟩) (m + 1) cap8) := by rw [← hm]; exact i2.cell 0 rfl
      have z8 : ∀ d os, (Sort.grow (redrawn W d) os).cell? ⟨g8, 0, none⟩ = some (.slice (some ⟨g9, 0, none⟩) (m + 1) cap8) := fun d os => by rw [← hm]; exact (i2.again d os).cell 0 rfl
      rw [hm] at q0' q1' q2'
      have hm9 : m ≤ 20000000 := by rw [List.length_append, List.length_singleton] at hout; omega
      have x0 := fun d os => (B9.again d os).cell _ q0'
      have x1 := fun d os => (B9.again d os).cell _ q1'
      have x2 := fun d os => (B9.again d os).cell _ q2'
      rw [Tp.push_snoc] at hsn
      by_cases hpr : q.price = price
      · gi_wp2
        refine wpIn_region_quiet (by kernel_rfl) (by kernel_rfl) (by kernel_rfl) ?_
        repeat (go_big_quiet_step (fail))
        refine wpQuiet_nil ?_
        rintro _ ⟨qq, rfl⟩
        refine ⟨rfl, ?_⟩
        have hW0 := below_regrown W qq.d qq.os
        generalize Sort.grow (redrawn W qq.d) qq.os = W5 at hW0 ⊢
        have c8 : W5.cell? ⟨g8, 0, none⟩ = some (.slice (some ⟨g9, 0, none⟩) (m + 1) cap8) := by rw [← hm]; exact (i2.call hW0).cell 0 rfl
        have cp1 := (bP.call hW0).cell 1 rfl
        have c91 := (B9.call hW0).cell _ q1'
        have f91 := (B9.call hW0).frozen (m * 3 + 1)
        clear k8 z8 x0 x1 x2 y0 y1 y2
        gi_wp2
        obtain ⟨k1, k2, k3⟩ := SplI.merge (hi := hi) i0 hW0 i2 hcm hrow hg8 hn8' hbs _
        rw [hm] at k1 k2 k3
        rw [if_pos hpr] at hsn
        exact ⟨k1, k2, (congrArg (fun o => SplI w.heap.size W4.heap.size g8 w o _) hsn.out).mpr k3⟩
      · gi_wp2
        refine wpIn_region_quiet (by kernel_rfl) (by kernel_rfl) (by kernel_rfl) ?_
        repeat (go_big_quiet_step (fail))
        refine wpQuiet_nil ?_
        rintro _ ⟨qq, rfl⟩
        refine ⟨rfl, ?_⟩
        have hW0 := below_regrown W qq.d qq.os
        generalize Sort.grow (redrawn W qq.d) qq.os = W5 at hW0 ⊢
        have hsrc := RowC.src (P := Tryz.prog) (B := W5.heap.size) (cap := 1) (e := 64) (t := 47) (fun u hu => by simp at hu; rcases hu with rfl | rfl | rfl <;> rfl) Tryz.underlying47 (show RowC 64 3 W5.heap.size 1 1 [.int .i64 lo, .int .i64 hi, .int .i64 price] (.slice (some ⟨W5.heap.size, 0, none⟩) 1 1) (W5.alloc (.cells #[.int .i64 lo, .int .i64 hi, .int .i64 price] 64)) from ⟨_, _, rfl, Nat.le_refl _, Nat.le_refl _, Bx.mk _ _ _, rfl, rfl⟩)
        have hW1 := hW0.alloc hW0.size (.cells #[.int .i64 lo, .int .i64 hi, .int .i64 price] 64)
        have hm1 : (out0 ++ [q]).length = m + 1 := by rw [List.length_append, List.length_singleton, hm]
        have hrow1 : RowZ 64 3 W4.heap.size (m + 1) ((out0 ++ [q]).flatMap pcC) (.slice (some ⟨g9, 0, none⟩) (m + 1) cap8) (W5.alloc (.cells #[.int .i64 lo, .int .i64 hi, .int .i64 price] 64)) := by
          rw [← hm1]
          rw [show out0.length + 1 = (out0 ++ [q]).length by rw [List.length_append, List.length_singleton]] at hrow
          exact stab_rowZ _ _ _ _ _ _ _ _ (.inr ⟨cap8, hrow, hcm⟩) hW1
        have c8 : W5.cell? ⟨g8, 0, none⟩ = some (.slice (some ⟨g9, 0, none⟩) (m + 1) cap8) := by rw [← hm]; exact (i2.call hW0).cell 0 rfl
        have cp0 := (bP.call hW0).cell 0 rfl
        have cp1 := (bP.call hW0).cell 1 rfl
        have cp2 := (bP.call hW0).cell 2 rfl
        clear k8 z8 x0 x1 x2 y0 y1 y2
        gi_wp2_with (gi_at_builtin; refine wpListIn_of _ _ _ (by kernel_rfl) ?_; refine wpList_append_rowE rfl (.tmp 51) (.tmp 53) 47 64 rfl i z 3 W4.heap.size (m + 1) 1 ((out0 ++ [q]).flatMap pcC) [.int .i64 lo, .int .i64 hi, .int .i64 price] _ _ Tryz.underlying47 hi1 hzz hs1 hz1 rfl rfl hrow1 (Nat.le_trans i4 hW1.size) hsrc (by omega) (by unfold maxLen; omega) (by rw [hby]; omega) ?_; intro v' w' e1 e2 e3; obtain ⟨A9, c9, rfl⟩ := e3.shape; replace e3 := Kp.mk e3; have f8 := ((i2.call hW1).below e1 hg8).frozen 0; have c9 := ((i2.call hW1).below e1 hg8).cell 0 rfl)
        go_wp2
        gi_wp2
        have e4 := e3.out
        rw [← hm1] at e4
        obtain ⟨k1, k2, k3⟩ := SplI.push (p := ⟨lo, hi, price⟩) i0 hW1 e1 e2 e4 hg8 hn8' hbs _
        rw [hm1] at k1 k2 k3
        rw [if_neg hpr] at hsn
        exact ⟨k1, k2, (congrArg (fun o => SplI w.heap.size W4.heap.size g8 w o _) hsn.out).mpr k3⟩
  case done =>
    rintro D ys W hD hS i1 hK
    obtain ⟨i1, ⟨v, i2, i3⟩, i4⟩ := i1
    rw [hS] at i3
    have hi3 := rowZ_put i3 hK rfl (.deferred none)
    obtain ⟨out, ho⟩ := exK (Tp.splits (Tp.pieces base L (Tp.cutsOf L) off (b - a).toNat a b))
    rw [ho.out] at i3 hi3
    obtain ⟨A8, cap8, rfl, hAt8, hle8, hcm8⟩ := RowZ.at (f := pcC) (fun _ => rfl) i3
    obtain ⟨A9, cap9, e9, hAt9, -, -⟩ := RowZ.at (f := pcC) (fun _ => rfl) hi3
    cases e9
    have k8 := i2.cell 0 rfl
    go_wp2
    refine ⟨by simp, .inl ⟨_, _, rfl, run_takeDeferred hK, ?_⟩⟩
    have hbl : Below w.heap.size w (W.putObj D (.deferred none)) := i1.trans (belowK_b (w := w) (Nat.le_refl _) W D _ _ (by omega) hK rfl rfl)
    exact ⟨_, results_tmp2 rfl _ _ _, ⟨_, _, by rw [ho.out]; rfl, by rw [ho.out]; exact hAt9, by rw [ho.out]; exact hle8, hcm8⟩, hbl⟩
  case stop =>
    rintro D c pre W _ _ h _
    exact h.elim
end Go.Proofs.YtfebcokmnhdbmaaGreatDoor
namespace Go.Proofs.YtfebcokmnhdbmaaGreatDoor
set_option linter.unusedVariables false
set_option linter.unusedSimpArgs false
open Go.RowKit Go.Shelf
set_option maxRecDepth 100000 in
set_option maxHeartbeats 4000000 in
theorem try_any (base : Int) (L : List Tp.Rate) (A : Option Addr) (cap : Nat) (off a b n last t best least : Int) (gw gl gx go gn gy gb : Nat) (w : World) (hT : Tar w base L A cap) (hv : Tp.valid base L = true) (hoff : -50400 ≤ off ∧ off ≤ 50400) (h0 : 0 ≤ a) (hb7 : b ≤ 10000000) (hn : 1 ≤ n) (hnb : n ≤ 10000000) (hlast : last = b - n)
    (B1 : Bx w gw 28 #[.int .i64 a, .int .i64 b]) (B2 : Bx w gl 3 #[.int .i64 last]) (B3 : Bx w gx 26 #[.slice A L.length cap, .int .i64 base]) (B4 : Bx w go 3 #[.int .i64 off]) (B5 : Bx w gn 3 #[.int .i64 n]) (B6 : Bx w gy 3 #[.int .i64 least]) (B7 : Bx w gb 3 #[.int .i64 best]) (hyb : gb ≠ gy) :
    Calls Tryz.prog 65 #[.int .i64 t, .pointer (some ⟨gw, 0, none⟩), .pointer (some ⟨gl, 0, none⟩), .pointer (some ⟨gx, 0, none⟩), .pointer (some ⟨go, 0, none⟩), .pointer (some ⟨gn, 0, none⟩), .pointer (some ⟨gy, 0, none⟩), .pointer (some ⟨gb, 0, none⟩)] w fun e w' => e = .returned (.tuple #[]) ∧
      ∃ w1, Below w.heap.size w w1 ∧ ((Tp.tryS (Tp.win (Tp.price base L off) n) a last (best, least) t = (best, least) ∧ w' = w1) ∨
        (Tp.tryS (Tp.win (Tp.price base L off) n) a last (best, least) t = (t, Tp.win (Tp.price base L off) n t) ∧ w' = (w1.setCell ⟨gb, 0, none⟩ (.int .i64 t)).setCell ⟨gy, 0, none⟩ (.int .i64 (Tp.win (Tp.price base L off) n t)))) := by
  have hI := fun w0 => isIn_any t a last w0
  have hw : Kp (Tp.within t a last = true → a ≤ t ∧ t ≤ last) := ⟨fun h => Tp.within_iff.1 h⟩
  have hS := fun (h1 : a ≤ t) (h2 : t ≤ last) => sum_any base L A cap off t (t + n) w hT hv hoff (by omega) (by omega) (by omega)
  have hWd : Tp.sumF (Tp.price base L off) t (t + n) = Tp.win (Tp.price base L off) n t := rfl
  rw [hWd] at hS
  clear hWd
  generalize Tp.win (Tp.price base L off) n = Wf at *
  have hd : Kp (Tp.tryS Wf a last (best, least) t = if Tp.within t a last then (if Wf t < least ∨ (Wf t = least ∧ t < best) then (t, Wf t) else (best, least)) else (best, least)) := ⟨by unfold Tp.tryS; rfl⟩
  generalize Tp.tryS Wf a last (best, least) t = r at *
  generalize Wf t = y at *
  generalize Tp.within t a last = q at *
  have c0 := B1.cell 0 rfl
  have c2 := B2.cell 0 rfl
  have c3 := B3.cell 0 rfl
  have c4 := B3.cell 1 rfl
  have c5 := B4.cell 0 rfl
  have c6 := B5.cell 0 rfl
  have c7 := B6.cell 0 rfl
  have c8 := B7.cell 0 rfl
  have hlk : Kp (last = b - n) := ⟨hlast⟩
  clear hlast
  cases q
  · clear hS hw
    go_enter Tryz.func65, Tryz.ntmps65
    go_wp2_with (go_at_call 48; refine (hI _).mono ?_; rintro e w2 ⟨rfl, rfl⟩; clear hI)
    refine bodyPost_ret (results_none rfl _ _ _) rfl ?_
    exact ⟨rfl, w, Below.refl _ _, .inl ⟨by rw [hd.out]; rfl, rfl⟩⟩
  · obtain ⟨h1, h2⟩ := hw.out rfl
    have hC := hS h1 h2
    have hr : Kp (r = if y < least ∨ (y = least ∧ t < best) then (t, y) else (best, least)) := ⟨by rw [hd.out]; rfl⟩
    have ht0 : 0 ≤ t := by omega
    have htn : t + n ≤ 10000000 := by have := hlk.out; omega
    clear hS hw hd
    rcases Int.lt_trichotomy y least with hy | hy | hy
    · have u1 : decide (y < least) = true := by simp; omega
      have hr2 : Kp (r = (t, y)) := ⟨by rw [hr.out, if_pos (.inl hy)]⟩
      clear hr
      go_enter Tryz.func65, Tryz.ntmps65
      go_wp2_with (first | (go_at_call 48; refine (hI _).mono ?_; rintro e w2 ⟨rfl, rfl⟩; clear hI) | (go_at_call 57; refine hC.mono ?_; rintro e w3 ⟨rfl, hb3⟩; clear hC; have k7 := (B6.call hb3).cell 0 rfl; have k8 := (B7.call hb3).cell 0 rfl; have f7 := (B6.call hb3).frozen 0; have f8 := (B7.call hb3).frozen 0))
      go_end0
      exact ⟨rfl, w3, hb3, .inr ⟨hr2.out, rfl⟩⟩
    · subst hy
      have u1 : decide (y < y) = false := by simp
      by_cases ht : t < best
      · have u2 : decide (t < best) = true := by simp; omega
        have hr2 : Kp (r = (t, y)) := ⟨by rw [hr.out, if_pos (.inr ⟨rfl, ht⟩)]⟩
        clear hr
        go_enter Tryz.func65, Tryz.ntmps65
        go_wp2_with (first | (go_at_call 48; refine (hI _).mono ?_; rintro e w2 ⟨rfl, rfl⟩; clear hI) | (go_at_call 57; refine hC.mono ?_; rintro e w3 ⟨rfl, hb3⟩; clear hC; have k7 := (B6.call hb3).cell 0 rfl; have k8 := (B7.call hb3).cell 0 rfl; have f7 := (B6.call hb3).frozen 0; have f8 := (B7.call hb3).frozen 0))
        go_end0
        exact ⟨rfl, w3, hb3, .inr ⟨hr2.out, rfl⟩⟩
      · have u2 : decide (t < best) = false := by simp; omega
        have hr2 : Kp (r = (best, y)) := ⟨by rw [hr.out, if_neg (by omega)]⟩
        clear hr
        go_enter Tryz.func65, Tryz.ntmps65
        go_wp2_with (first | (go_at_call 48; refine (hI _).mono ?_; rintro e w2 ⟨rfl, rfl⟩; clear hI) | (go_at_call 57; refine hC.mono ?_; rintro e w3 ⟨rfl, hb3⟩; clear hC; have k7 := (B6.call hb3).cell 0 rfl; have k8 := (B7.call hb3).cell 0 rfl))
        go_end0
        exact ⟨rfl, w3, hb3, .inl ⟨hr2.out, rfl⟩⟩
    · have u1 : decide (y < least) = false := by simp; omega
      have u2 : (y == least) = false := by simp; omega
      have hr2 : Kp (r = (best, least)) := ⟨by rw [hr.out, if_neg (by omega)]⟩
      clear hr
      go_enter Tryz.func65, Tryz.ntmps65
      go_wp2_with (first | (go_at_call 48; refine (hI _).mono ?_; rintro e w2 ⟨rfl, rfl⟩; clear hI) | (go_at_call 57; refine hC.mono ?_; rintro e w3 ⟨rfl, hb3⟩; clear hC; have k7 := (B6.call hb3).cell 0 rfl; have k8 := (B7.call hb3).cell 0 rfl))
      go_end0
      exact ⟨rfl, w3, hb3, .inl ⟨hr2.out, rfl⟩⟩
end Go.Proofs.YtfebcokmnhdbmaaGreatDoor
namespace Go.Proofs.YtfebcokmnhdbmaaGreatDoor
set_option linter.unusedVariables false
set_option linter.unusedSimpArgs false
open Go.RowKit Go.Shelf
/-- the captured places of Cheapest's inner function, and the best spell so far -/
structure CheI (base : Int) (L : List Tp.Rate) (A : Option Addr) (cap : Nat) (off a b n last : Int) (gx go gw gn gl gb gy gf n₀ : Nat) (w : World) (s : Int × Int) (W : World) : Prop where
  bl : Below n₀ w W
  b1 : Bx W gw 28 #[.int .i64 a, .int .i64 b]
  b2 : Bx W gl 3 #[.int .i64 last]
  b3 : Bx W gx 26 #[.slice A L.length cap, .int .i64 base]
  b4 : Bx W go 3 #[.int .i64 off]
  b5 : Bx W gn 3 #[.int .i64 n]
  b6 : Bx W gy 3 #[.int .i64 s.2]
  b7 : Bx W gb 3 #[.int .i64 s.1]
  b8 : Bx W gf 92 #[.func (.func 65) #[] #[.pointer (some ⟨gw, 0, none⟩), .pointer (some ⟨gl, 0, none⟩), .pointer (some ⟨gx, 0, none⟩), .pointer (some ⟨go, 0, none⟩), .pointer (some ⟨gn, 0, none⟩), .pointer (some ⟨gy, 0, none⟩), .pointer (some ⟨gb, 0, none⟩)]]
  sz : n₀ ≤ W.heap.size
section
variable {base : Int} {L : List Tp.Rate} {A : Option Addr} {cap : Nat} {off a b n last : Int} {gx go gw gn gl gb gy gf n₀ : Nat} {w : World} {s : Int × Int} {W W' : World}
theorem CheI.bxs (h : CheI base L A cap off a b n last gx go gw gn gl gb gy gf n₀ w s W) (hb : Below n₀ W W') (f : ∀ g t cs, Bx W g t cs → Bx W' g t cs) : CheI base L A cap off a b n last gx go gw gn gl gb gy gf n₀ w s W' :=
  ⟨h.bl.trans hb, f _ _ _ h.b1, f _ _ _ h.b2, f _ _ _ h.b3, f _ _ _ h.b4, f _ _ _ h.b5, f _ _ _ h.b6, f _ _ _ h.b7, f _ _ _ h.b8, Nat.le_trans h.sz hb.size⟩
theorem CheI.call (h : CheI base L A cap off a b n last gx go gw gn gl gb gy gf n₀ w s W) (hb : Below W.heap.size W W') : CheI base L A cap off a b n last gx go gw gn gl gb gy gf n₀ w s W' :=
  h.bxs (hb.mono h.sz) fun _ _ _ hx => hx.call hb
theorem CheI.put (h : CheI base L A cap off a b n last gx go gw gn gl gb gy gf n₀ w s W) (hn : n₀ ≤ gb ∧ n₀ ≤ gy) (d : (gw ≠ gb ∧ gl ≠ gb ∧ gx ≠ gb ∧ go ≠ gb ∧ gn ≠ gb ∧ gf ≠ gb) ∧ (gw ≠ gy ∧ gl ≠ gy ∧ gx ≠ gy ∧ go ≠ gy ∧ gn ≠ gy ∧ gf ≠ gy) ∧ gb ≠ gy) (t y : Int) :
    CheI base L A cap off a b n last gx go gw gn gl gb gy gf n₀ w (t, y) ((W.setCell ⟨gb, 0, none⟩ (.int .i64 t)).setCell ⟨gy, 0, none⟩ (.int .i64 y)) := by
  obtain ⟨⟨d1, d2, d3, d4, d5, d6⟩, ⟨k1, k2, k3, k4, k5, k6⟩, dd⟩ := d
  have far : ∀ g t' cs, g ≠ gb → g ≠ gy → Bx W g t' cs → Bx ((W.setCell ⟨gb, 0, none⟩ (.int .i64 t)).setCell ⟨gy, 0, none⟩ (.int .i64 y)) g t' cs := fun g t' cs h1 h2 hx => (hx.far (p := ⟨gb, 0, none⟩) h1 _).far (p := ⟨gy, 0, none⟩) h2 _
  have hb : Below n₀ W ((W.setCell ⟨gb, 0, none⟩ (.int .i64 t)).setCell ⟨gy, 0, none⟩ (.int .i64 y)) := ((Below.refl n₀ W).setCell (p := ⟨gb, 0, none⟩) hn.1 _).setCell (p := ⟨gy, 0, none⟩) hn.2 _
  have e7 : Bx (W.setCell ⟨gb, 0, none⟩ (.int .i64 t)) gb 3 #[.int .i64 t] := by simpa using h.b7.set 0 (.int .i64 t)
  have e6 : Bx ((W.setCell ⟨gb, 0, none⟩ (.int .i64 t)).setCell ⟨gy, 0, none⟩ (.int .i64 y)) gy 3 #[.int .i64 y] := by simpa using (h.b6.far (p := ⟨gb, 0, none⟩) (Ne.symm dd) (.int .i64 t)).set 0 (.int .i64 y)
  exact ⟨h.bl.trans hb, far _ _ _ d1 k1 h.b1, far _ _ _ d2 k2 h.b2, far _ _ _ d3 k3 h.b3, far _ _ _ d4 k4 h.b4, far _ _ _ d5 k5 h.b5, e6, e7.far (p := ⟨gy, 0, none⟩) dd _, far _ _ _ d6 k6 h.b8, Nat.le_trans h.sz hb.size⟩
theorem try_ci (t : Int) (h : CheI base L A cap off a b n last gx go gw gn gl gb gy gf n₀ w s W) (hT : Tar w base L A cap) (hn0 : n₀ = w.heap.size) (hv : Tp.valid base L = true) (hoff : -50400 ≤ off ∧ off ≤ 50400) (h0 : 0 ≤ a) (hb7 : b ≤ 10000000) (hn : 1 ≤ n) (hnb : n ≤ 10000000) (hlast : last = b - n)
    (hn1 : n₀ ≤ gb ∧ n₀ ≤ gy) (d : (gw ≠ gb ∧ gl ≠ gb ∧ gx ≠ gb ∧ go ≠ gb ∧ gn ≠ gb ∧ gf ≠ gb) ∧ (gw ≠ gy ∧ gl ≠ gy ∧ gx ≠ gy ∧ go ≠ gy ∧ gn ≠ gy ∧ gf ≠ gy) ∧ gb ≠ gy) {B0 : Nat} {bs : List Nat} (hB : gb < B0 ∧ gy < B0) (hbs : ∀ g ∈ bs, g < W.heap.size ∧ g ≠ gb ∧ g ≠ gy) :
    Calls Tryz.prog 65 #[.int .i64 t, .pointer (some ⟨gw, 0, none⟩), .pointer (some ⟨gl, 0, none⟩), .pointer (some ⟨gx, 0, none⟩), .pointer (some ⟨go, 0, none⟩), .pointer (some ⟨gn, 0, none⟩), .pointer (some ⟨gy, 0, none⟩), .pointer (some ⟨gb, 0, none⟩)] W fun e w' => e = .returned (.tuple #[]) ∧
      CheI base L A cap off a b n last gx go gw gn gl gb gy gf n₀ w (Tp.tryS (Tp.win (Tp.price base L off) n) a last s t) w' ∧ KeepsFrom B0 W w' ∧ KpS n₀ B0 bs W w' ∧ W.heap.size ≤ w'.heap.size := by
  subst hn0
  refine (try_any base L A cap off a b n last t s.1 s.2 gw gl gx go gn gy gb W (hT.call h.bl) hv hoff h0 hb7 hn hnb hlast h.b1 h.b2 h.b3 h.b4 h.b5 h.b6 h.b7 d.2.2).mono ?_
  rintro e w' ⟨rfl, w1, hb1, ⟨e1, rfl⟩ | ⟨e1, rfl⟩⟩
  · rw [e1]
    exact ⟨rfl, h.call hb1, tkeeps_below hb1 _, KpS.call hb1 h.sz (fun g hg => (hbs g hg).1), hb1.size⟩
  · rw [e1]
    refine ⟨rfl, (h.call hb1).put hn1 d _ _, ?_, ?_, ?_⟩
    · exact ((tkeeps_below hb1 _).trans ((KeepsOthers.setCell _ _ _).from _)).trans ((KeepsOthers.setCell _ _ _).from _)
    · refine ((KpS.call hb1 h.sz (fun g hg => (hbs g hg).1)).trans (KpS.set hn1.1 hB.1 (fun g hg => (hbs g hg).2.1) _)).trans (KpS.set hn1.2 hB.2 (fun g hg => (hbs g hg).2.2) _)
    · exact Nat.le_trans hb1.size (Nat.le_trans (KeepsOthers.setCell _ _ _).size (KeepsOthers.setCell _ _ _).size)
theorem tries_snoc (pre : List PcR) (x : PcR) (f : Int × Int → Int → Int × Int) (s0 : Int × Int) : (((pre ++ [x]).map (·.1)).flatMap (fun p => [p.lo, p.lo - n])).foldl f s0 = f (f (((pre.map (·.1)).flatMap (fun p => [p.lo, p.lo - n])).foldl f s0) x.1.lo) (x.1.lo - n) := by
  simp [List.flatMap_append, List.foldl_append]
theorem tries_all (L0 : List Tp.Pc) (last : Int) (f : Int × Int → Int → Int × Int) (s0 : Int × Int) : (Tp.tries L0 n last).foldl f s0 = f ((L0.flatMap (fun p => [p.lo, p.lo - n])).foldl f s0) last := by
  unfold Tp.tries
  simp [List.foldl_append]
end
end Go.Proofs.YtfebcokmnhdbmaaGreatDoor
namespace Go.Proofs.YtfebcokmnhdbmaaGreatDoor
set_option linter.unusedVariables false
open Go.RowKit
def looksG (ops : Array Oper) (n : Nat) : Bool :=
  (List.range n).all fun i => match ops[i]? with
    | none => true
    | some o => (match o.op with | .select .. => false | _ => true) &&
      (o.looksAt ops).all fun t => (List.range ops.size).all fun j => match ops[j]? with | some oj => oj.dst != some t || decide (j < i) || decide (n ≤ j) | none => true
theorem wanted_same {ops : Array Oper} {o : Oper} {a b : Act} (hsz : a.tmps.size = b.tmps.size) (h : ∀ t ∈ o.looksAt ops, a.tmps.getD t undef = b.tmps.getD t undef) : Region.wanted o (yielded ops a.tmps) = Region.wanted o (yielded ops b.tmps) := by
  unfold Region.wanted
  cases hg : o.guard with
  | none => rfl
  | some g =>
    obtain ⟨j, want⟩ := g
    simp only
    congr 1
    unfold yielded
    cases hd : (ops[j]?).bind (·.dst) with
    | none => rfl
    | some t =>
      have ht : t ∈ o.looksAt ops := by
        unfold Oper.looksAt
        rw [hg]
        simp [hd]
      have h1 := h t ht
      simp only [Option.bind_some]
      by_cases hlt : t < a.tmps.size
      · have hlt' : t < b.tmps.size := hsz ▸ hlt
        simp only [Array.getD_eq_getD_getElem?, Array.getElem?_eq_getElem hlt, Array.getElem?_eq_getElem hlt', Option.getD_some] at h1
        rw [Array.getElem?_eq_getElem hlt, Array.getElem?_eq_getElem hlt', h1]
      · rw [Array.getElem?_eq_none (Nat.le_of_not_lt hlt), Array.getElem?_eq_none (Nat.le_of_not_lt (hsz ▸ hlt))]
section
variable {P : Program} {ops : Array Oper} {R : Nat → Value → World → Prop} {w0 : World} {a0 : Act} {Q : Exit → Act → World → Prop}
theorem step_of_userG {n i : Nat} {o : Oper} (hok : okRG ops a0.tmps.size = true) (hlk : looksG ops n = true) (hi : i < n) (hin : n ≤ ops.size) (ho : ops[i]? = some o) (h : UserRG P ops R w0 a0 i o) : StepRG P ops n R w0 a0 Q i o := by
  intro a w hb hsame hdeps
  have h1 := List.all_eq_true.1 hlk i (List.mem_range.2 hi)
  simp only [ho, Bool.and_eq_true] at h1
  obtain ⟨hsel, hl⟩ := h1
  have hu := h (slotV ops a) w hb (AllE_of _ fun e he hbd => hdeps e (by simpa using he) hbd)
  have hslots : ∀ t ∈ o.looksAt ops, (seen ops (slotV ops a) i a0).tmps.getD t undef = a.tmps.getD t undef := fun t ht => by
    have h2 := List.all_eq_true.1 hl t ht
    refine seen_slot (Nat.le_of_lt hi) hok hsame fun j oj hj hd => ?_
    have h3 := List.all_eq_true.1 h2 j (List.mem_range.2 (Array.getElem?_eq_some_iff.1 hj).1)
    simpa [hj, hd] using h3
  have hsz := putAll_size (slotV ops a) (ops.toList.take i) 0 a0
  have hsz' : (seen ops (slotV ops a) i a0).tmps.size = a.tmps.size := by rw [seen, hsz.1, hsame.2.1]
  have hput : ∀ v, dstV o ((seen ops (slotV ops a) i a0).put o.dst v) = if o.dst.isSome then v else undef := by
    intro v
    unfold dstV
    cases hd : o.dst with
    | none => rfl
    | some d =>
      simp only [Option.isSome_some, if_true]
      rw [getD_put, if_pos ⟨rfl, by rw [seen, hsz.1]; exact (okRG_spec hok ho).2.1 d hd⟩]
  simp only [wpList] at hu
  rw [wanted_same hsz' hslots] at hu
  by_cases hw : Region.wanted o (yielded ops a.tmps) = true
  · rw [if_pos hw] at hu ⊢
    have hexec : execOp a.eval o = execOp (seen ops (slotV ops a) i a0).eval o := by
      refine execOp_congr o (fun cs b e => by rw [e] at hsel; simp at hsel) fun x hx => ?_
      cases x with
      | tmp t => exact (hslots t (List.mem_append_left _ (List.mem_filterMap.2 ⟨.tmp t, by simpa using hx, rfl⟩))).symm
      | _ => rfl
    rcases hu with hu | hu
    · unfold Oper.wp at hu ⊢
      rw [hexec]
      generalize (execOp (seen ops (slotV ops a) i a0).eval o).run P w = r at hu
      cases r with
      | halt x w' => cases x <;> simp only [Oper.upon] at hu ⊢ <;> first | exact absurd hu.1 (by simp) | exact hu
      | ok nx w' =>
        cases nx <;> simp only [Oper.upon] at hu ⊢
        case value v => exact ⟨v, rfl, hu.2.2.1, by rw [← hput]; exact hu.2.2.2⟩
        case skip => exact ⟨undef, rfl, hu.2.2.1, by rw [← hput]; exact hu.2.2.2⟩
        case defer d =>
          exfalso
          have := hu.2.1
          have h9 := congrArg List.length this
          cases hd : o.dst <;> simp [hd, Act.put, seen, hsz.2] at h9
        case enter f args =>
          refine Calls.mono hu fun e w'' he => ?_
          cases e with
          | returned v => exact ⟨v, rfl, he.2.2.1, by rw [← hput]; exact he.2.2.2⟩
          | panicked c => exact absurd he.1 (by simp)
          | outgrown => exact (not_letsOut (R := R i) he).elim
        case row s args => exact Rows.mono hu fun v w'' he => ⟨v, rfl, he.2.2.1, by rw [← hput]; exact he.2.2.2⟩
        all_goals exact hu.elim
    · exact (not_letsOut (R := R i) hu.2).elim
  · rw [if_neg hw] at hu ⊢
    have h9 := hu.2.2.2
    rw [hput] at h9
    split at h9 <;> exact h9
theorem any_region_rgG {l : List Oper} {Q : Exit → Act → World → Prop} {a0 : Act} {w0 : World} (n : Nat) (R : Nat → Value → World → Prop)
    (hB : (okRG l.toArray a0.tmps.size && looksG l.toArray n && (decide (l.length ≤ n) || (Region.sinkB .any l.toArray n && Region.chainB .any l.toArray n)) && decide (n ≤ l.length) && Region.seqB .any l.toArray (l.length - n) n ((List.range l.length).map fun i => decide (i < n)).toArray) = true)
    (hst : ∀ i v w w', R i v w → Below w.heap.size w w' → R i v w') (hsteps : UsersRG P l.toArray R w0 a0 0 (l.take n))
    (hfin : ∀ vs w', Below w0.heap.size w0 w' → (∀ i, i < n → R i (vs i) w') → wpList P l.toArray Q (l.drop n) (putAll vs 0 (l.take n) a0) w') : wpAny P .any l.toArray Q l.toArray.size (Array.replicate l.toArray.size false) a0 { w0 with drawn := w0.drawn + 1 } := by
  simp only [Bool.and_eq_true, decide_eq_true_eq] at hB
  obtain ⟨⟨⟨⟨hok, hlk⟩, hsc⟩, hn⟩, hseq⟩ := hB
  have hsc' : l.toArray.size ≤ n ∨ (Region.sinkB .any l.toArray n = true ∧ Region.chainB .any l.toArray n = true) := by
    rw [Bool.or_eq_true, Bool.and_eq_true, decide_eq_true_eq] at hsc
    simpa using hsc
  have hn' : n ≤ l.toArray.size := by simpa using hn
  have hb0 : Below w0.heap.size w0 { w0 with drawn := w0.drawn + 1 } := by
    have := below_regrown w0 (w0.drawn + 1) #[]
    rwa [Sort.grow_empty] at this
  have inv0 : HeadInv .any l.toArray n (Array.replicate l.toArray.size false) :=
    ⟨by simp, fun j oj _ hl => (by rw [getD_replicate_false] at hl; cases hl), fun t _ ht => getD_in (by simpa using ht) (getD_replicate_false _ _)⟩
  have H := any_rg (P := P) (ops := l.toArray) (R := R) (w0 := w0) (a0 := a0) (Q := Q) (n := n) (g := l.length - n) hok hsc' hn' hst (fun i o hi ho => step_of_userG hok hlk hi hn' ho (by
      have := UsersRG.get (l.take n) 0 i o hsteps (by rw [List.getElem?_take, if_pos hi]; simpa using ho)
      rwa [Nat.zero_add] at this)) (fun listed a w inv hall hb hsame hR => by
    have hlst : listed = ((List.range l.length).map fun i => decide (i < n)).toArray := by
      apply Array.ext
      · simp [inv.size]
      · intro i h1 h2
        have hi : i < l.length := by simpa using h2
        simp only [List.getElem_toArray, List.getElem_map, List.getElem_range]
        rcases Nat.lt_or_ge i n with h | h
        · have := hall i h
          simp [Array.getD_eq_getD_getElem?, h1] at this
          simp [h, this]
        · have := inv.tail i h (by simpa using hi)
          simp [Array.getD_eq_getD_getElem?, h1] at this
          simp [this]; omega
    have hfr : a = putAll (slotV l.toArray a) 0 (l.take n) a0 := by
      have hsz := putAll_size (slotV l.toArray a) (l.take n) 0 a0
      have key : a.tmps = (putAll (slotV l.toArray a) 0 (l.take n) a0).tmps := by
        apply Array.ext
        · rw [hsz.1, hsame.2.1]
        · intro t h1 h2
          have e1 : a.tmps[t] = a.tmps.getD t undef := by simp [Array.getD_eq_getD_getElem?, h1]
          have e2 : (putAll (slotV l.toArray a) 0 (l.take n) a0).tmps[t] = (putAll (slotV l.toArray a) 0 (l.take n) a0).tmps.getD t undef := by simp [Array.getD_eq_getD_getElem?, h2]
          rw [e1, e2]
          by_cases hw : ∃ (j : Nat) (oj : Oper), j < n ∧ l.toArray[j]? = some oj ∧ oj.dst = some t
          · obtain ⟨j, oj, hjn, hj, hd⟩ := hw
            have hsp := okRG_spec hok hj
            rw [putAll_eq (slotV l.toArray a) t (l.take n) 0 j oj a0 (by rw [List.getElem?_take, if_pos hjn]; simpa using hj) hd (fun k o' hjk hk hd' => hsp.2.2 k o' t t (by omega) (by simpa using (take_get' hk).2) hd' hd rfl) (hsp.2.1 t hd)]
            have hj' : l[j]? = some oj := by simpa using hj
            simp [slotV, hj', hd]
          · have hno : ∀ (j : Nat) (oj : Oper), j < n → l.toArray[j]? = some oj → oj.dst ≠ some t := fun j oj hjn hj hd => hw ⟨j, oj, hjn, hj, hd⟩
            rw [hsame.2.2 t hno]
            refine (putAll_ne _ _ _ _ _ fun o ho => ?_).symm
            obtain ⟨j, hj⟩ := List.mem_iff_getElem?.1 ho
            exact hno j o (take_get' hj).1 (by simpa using (take_get' hj).2)
      have kd : a.defers = (putAll (slotV l.toArray a) 0 (l.take n) a0).defers := by rw [hsz.2, hsame.1]
      exact act_ext key kd
    have h2 := hfin (slotV l.toArray a) w hb hR
    rw [← hfr] at h2
    have h3 := wpAny_of_seq (P := P) (ops := l.toArray) (md := .any) (Q' := Q) (l.drop n) n listed a w (fun j => by simp [List.getElem?_drop]) (by rw [hlst]; simpa using hseq) h2
    simpa using h3) n (Array.replicate l.toArray.size false) a0 { w0 with drawn := w0.drawn + 1 } inv0 (by
      have : (List.range n).countP (fun i => !(Array.replicate l.toArray.size false).getD i true) = (List.range n).length := List.countP_eq_length.2 fun i hi => by
        have := List.mem_range.1 hi
        simp [Array.getD_eq_getD_getElem?, show i < l.length by omega]
      simpa using this) hb0 ⟨rfl, rfl, fun _ _ => rfl⟩ (fun i _ h => by rw [getD_replicate_false] at h; cases h)
  rw [show n + (l.length - n) = l.toArray.size by simp; omega] at H
  exact H
end
/-- what is shown of each operation of the head -/
def UsersG (P : Program) (ops : Array Oper) (ps : List (Value → World → Prop)) (w0 : World) (a0 : Act) : List (Option Tmp) → List Oper → List (Value → World → Prop) → Prop
  | pre, o :: l, q :: qs => (∀ (vs : Nat → Value) (w : World), Below w0.heap.size w0 w → (∀ j, depB o j = true → rel ps j (vs j) w) →
      wpList P ops (fun e a' w' => e = .normal ∧ a'.defers = a0.defers ∧ Below w.heap.size w w' ∧ q (dstV o a') w') [o] (putD vs 0 pre a0) w) ∧ UsersG P ops ps w0 a0 (pre ++ [o.dst]) l qs
  | _, _, _ => True
theorem UsersG.rg {P : Program} {ps : List (Value → World → Prop)} {w0 : World} {a0 : Act} {L : List Oper} {n : Nat} (hnp : n ≤ ps.length) : ∀ (l : List Oper) (k : Nat), (∀ j, l[j]? = (L.take n)[k + j]?) → UsersG P L.toArray ps w0 a0 ((L.take k).map (·.dst)) l (ps.drop k) → UsersRG P L.toArray (rel ps) w0 a0 k l
  | [], _, _, _ => trivial
  | o :: l, k, hl, h => by
    have h0 : (L.take n)[k]? = some o := by simpa using (hl 0).symm
    obtain ⟨hkn, hLo⟩ := take_get' h0
    have hkp : k < ps.length := by omega
    rw [List.drop_eq_getElem_cons hkp] at h
    refine ⟨fun vs w hb hE => ?_, UsersG.rg hnp l (k + 1) (fun j => by have := hl (j + 1); simpa [Nat.add_assoc, Nat.add_comm 1 j] using this) ?_⟩
    · have hu := h.1 vs w hb fun j hj => by
        obtain ⟨e, he, hej⟩ := List.any_eq_true.1 hj
        simp only [Bool.and_eq_true, beq_iff_eq] at hej
        have := AllE_get _ hE e he hej.1
        rwa [hej.2] at this
      have hfr : seen L.toArray vs k a0 = putD vs 0 ((L.take k).map (·.dst)) a0 := putAll_D vs _ 0 a0
      rw [hfr]
      have hq : ps[k] = ps.getD k Anyv := by simp [List.getD_eq_getElem?_getD, hkp]
      rw [hq] at hu
      exact hu
    · have h2 := h.2
      have e1 : (L.take k).map (·.dst) ++ [o.dst] = (L.take (k + 1)).map (·.dst) := by
        rw [List.take_add_one, hLo]; simp
      rw [e1] at h2
      exact h2
theorem any_region_rglG {P : Program} {l : List Oper} {Q : Exit → Act → World → Prop} {a0 : Act} {w0 : World} (ps : List (Value → World → Prop)) (n sz : Nat) (hnp : ps.length = n) (hsz : a0.tmps.size = sz)
    (hB : (okRG l.toArray sz && looksG l.toArray n && (decide (l.length ≤ n) || (Region.sinkB .any l.toArray n && Region.chainB .any l.toArray n)) && decide (n ≤ l.length) && Region.seqB .any l.toArray (l.length - n) n ((List.range l.length).map fun i => decide (i < n)).toArray) = true)
    (hst : AllS ps) (hsteps : UsersG P l.toArray ps w0 a0 [] (l.take n) ps)
    (hfin : ∀ vs w', Below w0.heap.size w0 w' → AllR vs w' 0 ps → wpList P l.toArray Q (l.drop n) (putD vs 0 ((l.take n).map (·.dst)) a0) w') : wpAny P .any l.toArray Q l.toArray.size (Array.replicate l.toArray.size false) a0 { w0 with drawn := w0.drawn + 1 } := by
  subst hnp hsz
  refine any_region_rgG ps.length (rel ps) hB (fun i v w w' h hb => AllS.get ps i hst v w w' h hb) (UsersG.rg (Nat.le_refl _) (l.take ps.length) 0 (fun j => by simp) hsteps) fun vs w' hb hR => by rw [putAll_D]; exact hfin vs w' hb (AllR_of ps 0 fun i hi => by rw [Nat.zero_add]; exact hR i hi)
theorem wp_region_rglG {P : Program} {id : Nat} {l : List Oper} {Q : Exit → Act → World → Prop} {a0 : Act} {w0 : World} (ps : List (Value → World → Prop)) (n sz : Nat) (hm : P.follows .mixedOrders = true) (hnp : ps.length = n) (hsz : a0.tmps.size = sz)
    (hB : (okRG l.toArray sz && looksG l.toArray n && (decide (l.length ≤ n) || (Region.sinkB .any l.toArray n && Region.chainB .any l.toArray n)) && decide (n ≤ l.length) && Region.seqB .any l.toArray (l.length - n) n ((List.range l.length).map fun i => decide (i < n)).toArray) = true)
    (hst : AllS ps) (hsteps : UsersG P l.toArray ps w0 a0 [] (l.take n) ps)
    (hfin : ∀ vs w', Below w0.heap.size w0 w' → AllR vs w' 0 ps → wpList P l.toArray Q (l.drop n) (putD vs 0 ((l.take n).map (·.dst)) a0) w') : (Code.region id l.toArray true).wp P Q a0 w0 :=
  wp_region_any hm (any_region_rglG ps n sz hnp hsz hB hst hsteps hfin)
end Go.Proofs.YtfebcokmnhdbmaaGreatDoor

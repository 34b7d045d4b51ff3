/- Borders of dialtoneref37. -/
import Derived.Test.YtfebcokmnhdbmaaGreatDoorQ04
import Derived.Test.YtfebcokmnhdbmaaGreatDoorTBordP
import Derived.Test.YtfebcokmnhdbmaaGreatDoorQ13
namespace Go.Proofs.YtfebcokmnhdbmaaGreatDoor
set_option linter.unusedVariables false
set_option linter.unusedSimpArgs false
open Go.RowKit Go.Shelf
/-- appending to a slice that is full: a new row -/
theorem append_full {P : Program} (w : World) (t ty e : TypeId) (i : TypeInfo) (z : Value) (n m : Nat) (old news : List Value) (a : Option Addr) (x : Value) (ht : P.underlying t = some (.slice e)) (hi : P.info? e = some i) (hz : i.zero = some z)
    (hsize : i.size = 1) (hzs : z.cells.size = 1) (hv : Src P 1 t (.slice a n n) n old w) (hs : Src P 1 t x m news w) (hm : 0 < m) (h63 : n + m ≤ maxLen) (hb : (n + m) * i.bytes ≤ 140737488355328) :
    ∃ v' w', (Builtin.append_ #[t, t] ty #[.slice a n n, x]).run P w = .ok v' w' ∧ Below w.heap.size w w' ∧ RowN e 1 w.heap.size (n + m) (old ++ news) v' w' := by
  have hol := hv.newsLen
  have hnl := hs.newsLen
  have hold : (Builtin.firstCells i.size n (.slice a n n)).run P w.drew = .ok old.toArray w.drew := by rw [hsize]; exact hv.cellsD
  have hrun := run_append_grow_src (P := P) w t t ty e i z ht hi hz a n n old hold x m news (by rw [hsize]; exact hs) (by omega) (by simp only [maxLen] at h63; omega) (growslice_fits (by omega) hb)
  have hge := grownCap_ge w (n + m) n e
  refine ⟨_, _, hrun, ((Below.refl w.heap.size w).drew).alloc (Nat.le_refl _) _, ⟨_, ⟨w.heap.size, _, rfl, Nat.le_refl _, hge, Bx.mk w.drew e _, ?_, ?_⟩, grownCap_le_maxLen w (n + m) n e h63⟩⟩
  · rw [Array.size_append, List.size_toArray, List.length_append, hol, hnl, size_zeroCells, hzs, ← Nat.add_mul, ← Nat.add_mul]
    congr 1; omega
  · rw [Array.toList_append, List.take_append_of_le_length (by simp [hol, hnl, Nat.add_mul])]
    rw [List.take_of_length_le (by simp [hol, hnl, Nat.add_mul])]
theorem wpList_append_full {P : Program} {w : World} {ops : Array Oper} {rest : List Oper} {o : Oper} {a : Act} {Q : Exit → Act → World → Prop} (hgd : o.guard = none) (s y : Operand) (t e : TypeId) (ho : o.op = .call { callee := .builtin .append, args := #[s, y], argTypes := #[t, t] })
    (i : TypeInfo) (z : Value) (n m : Nat) (old news : List Value) (A : Option Addr) (x : Value) (ht : P.underlying t = some (.slice e)) (hi : P.info? e = some i) (hz : i.zero = some z)
    (hsize : i.size = 1) (hzs : z.cells.size = 1) (hes : a.eval s = .slice A n n) (hey : a.eval y = x) (hv : Src P 1 t (.slice A n n) n old w) (hs : Src P 1 t x m news w) (hm : 0 < m) (h63 : n + m ≤ maxLen) (hb : (n + m) * i.bytes ≤ 140737488355328)
    (h : ∀ v' w', Below w.heap.size w w' → RowN e 1 w.heap.size (n + m) (old ++ news) v' w' → wpList P ops Q rest (a.put o.dst v') w') : wpList P ops Q (o :: rest) a w := by
  obtain ⟨v', w', hr, h1, h2⟩ := append_full (P := P) w t o.type e i z n m old news A x ht hi hz hsize hzs hv hs hm h63 hb
  refine wpList_plain hgd fun _ hK => ?_
  unfold Oper.wp execOp
  simp only [ho, resolve, invoke, builtin, Sem.run_bind, Sem.run_pure, Result.andThen_ok, List.map_toArray, List.map_cons, List.map_nil, hes, hey, hr]
  exact hK _ _ (h v' w' h1 h2)
/-- a slice of ints, behind the call's beginning -/
def IntSl (w0 : World) (l : List Int) (v : Value) (w : World) : Prop := ∃ b off c, v = .slice (some ⟨b, off, none⟩) l.length c ∧ At 1 intC w w.heap.size (some ⟨b, off, none⟩) l ∧ l.length ≤ c ∧ c ≤ maxLen
theorem IntSl.call {w0 w w' : World} {l : List Int} {v : Value} (h : IntSl w0 l v w) (hb : Below w.heap.size w w') : IntSl w0 l v w' := by
  obtain ⟨b, off, c, e, h1, h2, h3⟩ := h
  exact ⟨b, off, c, e, (h1.below hb).more hb.size, h2, h3⟩
theorem IntSl.of_row {w0 w : World} {B : Nat} {l : List Int} {v : Value} (h : RowN 3 1 B l.length (l.flatMap intC) v w) (hl : 0 < l.length) : IntSl w0 l v w := by
  obtain ⟨cap, h, hm⟩ := h
  obtain ⟨A, h1, h2, h3⟩ := RowC.at (f := intC) (size := 1) (fun _ => rfl) h
  obtain ⟨b, off, e, -, -⟩ := h2 hl
  subst e
  exact ⟨b, off, cap, h1, h2, h3, hm⟩
theorem int_one' {l : List Int} : ∀ u ∈ l.flatMap intC, u.oneCell' = true := fun u hu => by
  obtain ⟨x, -, hx⟩ := List.mem_flatMap.1 hu
  simp [intC] at hx
  subst hx
  rfl
theorem int_one2 (b : Int) (l : List Int) : ∀ u ∈ [Value.int .i64 b] ++ l.flatMap intC, u.oneCell' = true := fun u hu => by
  rcases List.mem_append.1 hu with hu | hu
  · simp at hu; subst hu; rfl
  · exact int_one' u hu
theorem src_take {w : World} {B b off : Nat} {l : List Int} (h : At 1 intC w B (some ⟨b, off, none⟩) l) (q : Nat) : ∀ j u, ((l.take q).flatMap intC)[j]? = some u → w.cell? ((⟨b, off, none⟩ : Addr).add j) = some u := fun j u hj => by
  obtain ⟨i, c, j', h1, h2, rfl⟩ := flat_inv (f := intC) (size := 1) (fun _ => rfl) _ _ _ hj
  rw [List.getElem?_take] at h1
  split at h1
  · have hl : 0 < l.length := by have := (List.getElem?_eq_some_iff.1 h1).1; omega
    obtain ⟨b', o', e, -, hc⟩ := h hl
    cases e
    have := hc i c h1 j' u h2
    rw [Addr.add_lit]
    simpa [Nat.add_assoc] using this
  · cases h1
theorem src_drop {w : World} {B b off : Nat} {l : List Int} (h : At 1 intC w B (some ⟨b, off, none⟩) l) (q : Nat) : ∀ j u, ((l.drop q).flatMap intC)[j]? = some u → w.cell? ((⟨b, off + q, none⟩ : Addr).add j) = some u := fun j u hj => by
  obtain ⟨i, c, j', h1, h2, rfl⟩ := flat_inv (f := intC) (size := 1) (fun _ => rfl) _ _ _ hj
  rw [List.getElem?_drop] at h1
  have hl : 0 < l.length := by have := (List.getElem?_eq_some_iff.1 h1).1; omega
  obtain ⟨b', o', e, -, hc⟩ := h hl
  cases e
  have := hc (q + i) c h1 j' u h2
  rw [Addr.add_lit]
  have e2 : off + q + (i * 1 + j') = off + (q + i) * 1 + j' := by omega
  rw [e2]
  exact this
theorem RowN.weaken {e : TypeId} {size B B' n : Nat} {flat : List Value} {v : Value} {w : World} (h : RowN e size B n flat v w) (hB : B' ≤ B) : RowN e size B' n flat v w := by
  obtain ⟨cap, ⟨g, cells, h1, h2, h3⟩, hm⟩ := h
  exact ⟨cap, ⟨g, cells, h1, Nat.le_trans hB h2, h3⟩, hm⟩
/-- the borders, after a part of one rate -/
def stepB (out : List Int) (lo hi : Int) : Nat → List Int
  | 0 => out
  | 1 => Tp.insB out lo
  | _ => Tp.insB (Tp.insB out lo) hi
theorem stepB_next {out : List Int} {lo hi : Int} {cells : Array Value} (h : cells[0]? = some (.int .i64 lo) ∧ cells[1]? = some (.int .i64 hi)) {j : Nat} (hj : j < 2) (h0 : 0 ≤ lo) (h1 : lo < hi) (h2 : hi ≤ 86400) :
    ∃ b : Int, cells[j]? = some (.int .i64 b) ∧ 0 ≤ b ∧ b ≤ 86400 ∧ stepB out lo hi (j + 1) = Tp.insB (stepB out lo hi j) b := by
  rcases (show j = 0 ∨ j = 1 by omega) with rfl | rfl
  · exact ⟨lo, h.1, h0, by omega, rfl⟩
  · exact ⟨hi, h.2, by omega, h2, rfl⟩
theorem stepB_top {out : List Int} {rl rh : Int} {k : Nat} (h : (86400 : Int) ∈ out) (hl : out.length ≤ 2 + 2 * k) (hk : k ≤ 10) : ∀ j, j ≤ 2 → (86400 : Int) ∈ stepB out rl rh j ∧ (stepB out rl rh j).length ≤ 30 := by
  intro j hj
  have h1 := Tp.insB_len out rl
  have h2 := Tp.insB_len (Tp.insB out rl) rh
  rcases (show j = 0 ∨ j = 1 ∨ j = 2 by omega) with rfl | rfl | rfl
  · exact ⟨h, by show out.length ≤ 30; omega⟩
  · exact ⟨(Tp.insB_mem _ _ _).2 (.inl h), by show (Tp.insB out rl).length ≤ 30; omega⟩
  · exact ⟨(Tp.insB_mem _ _ _).2 (.inl ((Tp.insB_mem _ _ _).2 (.inl h))), by show (Tp.insB (Tp.insB out rl) rh).length ≤ 30; omega⟩
theorem row_two {cells : Array Value} {x y : Value} (h : cells.toList.take (2 * 1) = [x, y]) : cells[0]? = some x ∧ cells[1]? = some y := by
  have h0 : (cells.toList.take (2 * 1))[0]? = some x := by rw [h]; rfl
  have h1 : (cells.toList.take (2 * 1))[1]? = some y := by rw [h]; rfl
  rw [List.getElem?_take] at h0 h1
  simp at h0 h1
  exact ⟨h0, h1⟩
set_option maxRecDepth 100000 in
set_option maxHeartbeats 8000000 in
theorem Borders_any (base : Int) (L : List Tp.Rate) (A : Option Addr) (cap : Nat) (w : World) (hT : Tar w base L A cap) (hv : Tp.valid base L = true) :
    Calls Tryz.prog 39 #[.agg #[.slice A L.length cap, .int .i64 base]] w fun e w' => (∃ v, e = .returned v ∧ IntSl w (Tp.bds L) v w') ∧ Below w.heap.size w w' := by
  have hok := (Tp.valid_iff.1 hv).2.2
  have hl10 := (Tp.valid_iff.1 hv).2.1
  have B0 := (Bx.mk w 26 #[.slice A L.length cap, .int .i64 base]).new (.cells #[.int .i64 0, .int .i64 86400] 3)
  have B1 := Bx.mk (w.alloc (.cells #[.slice A L.length cap, .int .i64 base] 26)) 3 #[.int .i64 0, .int .i64 86400]
  rw [alloc_size] at B1
  have hb := bNew (bNewW w (.cells #[.slice A L.length cap, .int .i64 base] 26)) (.cells #[.int .i64 0, .int .i64 86400] 3)
  have hI0 : IntSl w (Tp.bdsTo L 0) (.slice (some ⟨w.heap.size + 1, 0, none⟩) 2 2) ((w.alloc (.cells #[.slice A L.length cap, .int .i64 base] 26)).alloc (.cells #[.int .i64 0, .int .i64 86400] 3)) :=
    IntSl.of_row (B := 0) (l := [0, 86400]) ⟨2, ⟨w.heap.size + 1, _, rfl, Nat.zero_le _, Nat.le_refl _, B1, rfl, rfl⟩, by decide⟩ (by decide)
  go_enter Tryz.func39, Tryz.ntmps39
  go_wp2_with fail
  generalize (w.alloc (.cells #[.slice A L.length cap, .int .i64 base] 26)).alloc (.cells #[.int .i64 0, .int .i64 86400] 3) = W0 at *
  clear B1
  go_loopw [3, 4] (fun s3 s4 wr => ∃ k : Nat, k ≤ L.length ∧ s4 = .int .i64 k ∧ IntSl w (Tp.bdsTo L k) s3 wr ∧ Bx wr w.heap.size 26 #[.slice A L.length cap, .int .i64 base] ∧ Below w.heap.size w wr) (fun _ s4 _ => 11 - (intOf s4).toNat)
  case atStart => exact ⟨0, Nat.zero_le _, rfl, hI0, B0, hb⟩
  case round =>
    clear hI0 B0 hb
    obtain ⟨k, hk, rfl, hI, BX, hb⟩ := hrel
    obtain ⟨b, off, c, rfl, hAt, hle, hcm⟩ := hI
    have x0 := BX.cell 0 rfl
    by_cases hlt : k < L.length
    · have tk : decide ((k : Int) < (L.length : Int)) = true := by simp; omega
      obtain ⟨b9, o9, rfl, hb9, hcell⟩ := hT.at_ (by omega)
      have hck := List.getElem?_eq_getElem hlt
      have hokr := hok _ (List.getElem_mem hlt)
      have hs := Kp.mk (Tp.bdsTo_succ hlt)
      obtain ⟨htop, htl⟩ := Tp.bdsTo_top L k (by omega)
      have g1A := hcell k _ hck 1 _ rfl
      have g2A := hcell k _ hck 2 _ rfl
      generalize L[k] = r at *
      obtain ⟨rd, rl, rh, rp⟩ := r
      obtain ⟨d1, d2, l0, lh, h1, p0, p1⟩ := hokr
      simp only at d1 d2 l0 lh h1 p0 p1 g1A g2A hs
      go_upto_region 5 with fail
      have hw9 := Nat.lt_of_lt_of_le hb9 hb.size
      have cx := fun w1 (hb1 : Below wr.heap.size wr w1) => (BX.below hb1 BX.lt).cell 0 rfl
      have cl := fun w1 (hb1 : Below wr.heap.size wr w1) => (hb1.cell (p := ⟨b9, o9 + k * 4 + 1, none⟩) hw9).trans ((hb.cell (p := ⟨b9, o9 + k * 4 + 1, none⟩) hb9).trans g1A)
      have ch := fun w1 (hb1 : Below wr.heap.size wr w1) => (hb1.cell (p := ⟨b9, o9 + k * 4 + 2, none⟩) hw9).trans ((hb.cell (p := ⟨b9, o9 + k * 4 + 2, none⟩) hb9).trans g2A)
      clear g1A g2A x0 hcell
      refine wp_region_rgl [Eqv (.pointer (some ⟨w.heap.size, 0, none⟩)), Eqv (.slice (some ⟨b9, o9, none⟩) L.length cap), Eqv (.int .i64 k), Eqv (.pointer (some ⟨b9, o9 + k * 4, none⟩)), Eqv (.pointer (some ⟨b9, o9 + k * 4 + 1, none⟩)), Eqv (.int .i64 rl), Eqv (.pointer (some ⟨w.heap.size, 0, none⟩)), Eqv (.slice (some ⟨b9, o9, none⟩) L.length cap), Eqv (.int .i64 k), Eqv (.pointer (some ⟨b9, o9 + k * 4, none⟩)), Eqv (.pointer (some ⟨b9, o9 + k * 4 + 2, none⟩)), Eqv (.int .i64 rh), RowC 3 1 wr.heap.size 2 2 [.int .i64 rl, .int .i64 rh], Eqv (.int .i64 2), Eqv (.int .i64 0)] 15 61 (by kernel_rfl) rfl rfl (by kernel_rfl) ?_ ?_ ?_
      · simp only [AllS]
        repeat' apply And.intro
        all_goals first | exact stab_eqv _ | exact stab_rowC _ _ _ _ _ _ | trivial
      · simp only [Users, List.take, List.length]
        refine ⟨?_, ?_, ?_, ?_, ?_, ?_, ?_, ?_, ?_, ?_, ?_, ?_, ?_, ?_, ?_, trivial⟩
        all_goals (intro vs w1 hb1 hd; have c1 := cx w1 hb1; have c2 := cl w1 hb1; have c3 := ch w1 hb1; clear cx cl ch hAt; simp only [putD, Act.put, List.nil_append, List.cons_append, List.setIfInBounds_toArray, List.set_cons_succ, List.set_cons_zero, Nat.reduceAdd])
        · clear hd; go_wp2; exact ⟨Below.refl _ _, rfl⟩
        · have e0 := hd 0 rfl; change vs 0 = _ at e0; clear hd; rw [e0]; go_wp2; exact ⟨Below.refl _ _, rfl⟩
        · clear hd; go_wp2; exact ⟨Below.refl _ _, rfl⟩
        · have e0 := hd 1 rfl; change vs 1 = _ at e0; have e1 := hd 2 rfl; change vs 2 = _ at e1; clear hd; rw [e0, e1]; go_wp2; exact ⟨Below.refl _ _, rfl⟩
        · have e0 := hd 3 rfl; change vs 3 = _ at e0; clear hd; rw [e0]; go_wp2; exact ⟨Below.refl _ _, rfl⟩
        · have e0 := hd 4 rfl; change vs 4 = _ at e0; clear hd; rw [e0]; go_wp2; exact ⟨Below.refl _ _, rfl⟩
        · clear hd; go_wp2; exact ⟨Below.refl _ _, rfl⟩
        · have e0 := hd 6 rfl; change vs 6 = _ at e0; clear hd; rw [e0]; go_wp2; exact ⟨Below.refl _ _, rfl⟩
        · clear hd; go_wp2; exact ⟨Below.refl _ _, rfl⟩
        · have e0 := hd 7 rfl; change vs 7 = _ at e0; have e1 := hd 8 rfl; change vs 8 = _ at e1; clear hd; rw [e0, e1]; go_wp2; exact ⟨Below.refl _ _, rfl⟩
        · have e0 := hd 9 rfl; change vs 9 = _ at e0; clear hd; rw [e0]; go_wp2; exact ⟨Below.refl _ _, rfl⟩
        · have e0 := hd 10 rfl; change vs 10 = _ at e0; clear hd; rw [e0]; go_wp2; exact ⟨Below.refl _ _, rfl⟩
        · have e0 := hd 5 rfl; change vs 5 = _ at e0; have e1 := hd 11 rfl; change vs 11 = _ at e1; clear hd; rw [e0, e1]; go_wp2; exact ⟨(Below.refl _ _).alloc (Nat.le_refl _) _, _, _, rfl, hb1.size, Nat.le_refl _, Bx.mk _ _ _, rfl, rfl⟩
        · obtain ⟨g, cells, eg, -⟩ := hd 12 rfl; change vs 12 = _ at eg; clear hd; rw [eg]; go_wp2; exact ⟨Below.refl _ _, rfl⟩
        · clear hd; go_wp2; exact ⟨Below.refl _ _, rfl⟩
      · clear cx cl ch
        intro vs w1 hb1 hR
        simp only [AllR, Eqv] at hR
        obtain ⟨e0, e1, e2, e3, e4, e5, e6, e7, e8, e9, e10, e11, ⟨gI, cells, e12, hgI, -, BI, -, hfl⟩, e13, e14, -⟩ := hR
        simp only [List.drop, List.take, List.map, putD, Act.put, List.setIfInBounds_toArray, List.set_cons_succ, List.set_cons_zero, Nat.reduceAdd]
        rw [e0, e1, e2, e3, e4, e5, e6, e7, e8, e9, e10, e11, e12, e13, e14]
        clear e0 e1 e2 e3 e4 e5 e6 e7 e8 e9 e10 e11 e12 e13 e14
        have hbW := hb.trans (hb1.mono hb.size)
        have BXW := BX.below hb1 BX.lt
        have hIW : IntSl w (stepB (Tp.bdsTo L k) rl rh 0) (.slice (some ⟨b, off, none⟩) (Tp.bdsTo L k).length c) w1 := ⟨b, off, c, rfl, (hAt.below hb1).more hb1.size, hle, hcm⟩
        have hel := row_two hfl
        clear hfl hAt hle BX hb
        generalize Tp.bdsTo L k = out at *
        go_wp2_with fail
        go_loopw [3, 30] (fun s3 s30 wr2 => ∃ j : Nat, j ≤ 2 ∧ s30 = .int .i64 j ∧ IntSl w (stepB out rl rh j) s3 wr2 ∧ Below w1.heap.size w1 wr2) (fun _ s30 _ => 3 - (intOf s30).toNat)
        case atStart => exact ⟨0, by decide, rfl, hIW, Below.refl _ _⟩
        case round =>
          clear hIW
          obtain ⟨j, hj, rfl, hI, hb2⟩ := hrel
          obtain ⟨b, off, c, rfl, hAt, hle, hcm⟩ := hI
          by_cases hj2 : j < 2
          · have tj : decide ((j : Int) < 2) = true := by simp; omega
            obtain ⟨bb, hbe, hbb0, hbb1, hnx⟩ := stepB_next (out := out) hel hj2 l0 lh h1
            have cI := (BI.below hb2 BI.lt).cell j hbe
            obtain ⟨htop2, hlen2⟩ := stepB_top (rl := rl) (rh := rh) htop htl (by omega) j hj
            have hix := Tp.idxB_lt htop2 hbb1
            have hbf := Kp.mk (fun (q : Nat) (h : q < Tp.idxB (stepB out rl rh j) bb) hk => Tp.idxB_before h hk)
            have hat := Kp.mk (Tp.idxB_at hix)
            have hins : Kp (Tp.insB (stepB out rl rh j) bb = if (stepB out rl rh j)[Tp.idxB (stepB out rl rh j) bb]? = some bb then stepB out rl rh j else (stepB out rl rh j).take (Tp.idxB (stepB out rl rh j) bb) ++ [bb] ++ (stepB out rl rh j).drop (Tp.idxB (stepB out rl rh j) bb)) := ⟨rfl⟩
            replace hnx := Kp.mk hnx
            generalize Tp.idxB (stepB out rl rh j) bb = ix at *
            generalize stepB out rl rh j = cur at *
            obtain ⟨b', off', e1, hbB, hcell⟩ := hAt (by omega)
            cases e1
            have hcur : ∀ (q : Nat) (h : q < cur.length), wr.cell? ⟨b, off + q, none⟩ = some (.int .i64 cur[q]) := fun q h => by have := hcell q _ (List.getElem?_eq_getElem h) 0 _ rfl; simpa using this
            clear hcell
            go_wp2_with fail
            clear cI
            go_loopw [7] (fun s7 wr3 => ∃ q : Nat, q ≤ ix ∧ s7 = .int .i64 q ∧ wr3 = wr) (fun s7 _ => ix - (intOf s7).toNat)
            case atStart => exact ⟨0, Nat.zero_le _, rfl, rfl⟩
            case round =>
              obtain ⟨q, hq, rfl, rfl⟩ := hrel
              have hcq := hcur q (by omega)
              clear hcur
              by_cases hqi : q < ix
              · have hlt2 := hbf.out q hqi (by omega)
                generalize cur[q] = xq at *
                have tq : decide (xq < bb) = true := by simp; omega
                go_wp2
                exact ⟨⟨q + 1, by omega, by go_num, trivial⟩, by simp [intOf]; omega⟩
              · obtain rfl : q = ix := by omega
                have hge := hat.out
                have hgq : cur[q]? = some cur[q] := List.getElem?_eq_getElem hix
                have hxe : Kp (cur[q]? = some cur[q]) := ⟨hgq⟩
                clear hgq
                generalize cur[q] = xq at *
                have tq : decide (xq < bb) = false := by simp; omega
                by_cases hxb : xq = bb
                · have t1 : (xq == bb) = true := by simp [hxb]
                  have hc2 : Kp (Tp.insB cur bb = cur) := ⟨by rw [hins.out, if_pos (by rw [hxe.out, hxb])]⟩
                  clear hxb hge hat
                  go_wp2
                  refine ⟨⟨j + 1, by omega, by go_num, ?_, hb2⟩, by simp [intOf]; omega⟩
                  rw [hnx.out, hc2.out]
                  exact ⟨b, off, c, rfl, hAt, hle, hcm⟩
                · have t1 : (xq == bb) = false := by simp [hxb]
                  have hc2 : Kp (Tp.insB cur bb = cur.take q ++ [bb] ++ cur.drop q) := ⟨by rw [hins.out, if_neg (by rw [hxe.out]; intro h; exact hxb (by simpa using h))]⟩
                  clear hxb hge hat
                  go_upto_region 12 with fail
                  obtain ⟨ii, zz, hi1, hzz, hs1, hz1, hby⟩ := intI
                  have hsr1 := fun (W : World) (hW : Below wr.heap.size wr W) => Src.ofSlice (P := Tryz.prog) W (size := 1) Tryz.underlying36 ⟨b, off + q, none⟩ (cur.length - q) (c - q) ((cur.drop q).flatMap intC) (by rw [flat_len (f := intC) (size := 1) (fun _ => rfl), List.length_drop]) (src_drop (hAt.below hW) q) int_one'
                  have hsr2 := fun (W : World) (hW : Below wr.heap.size wr W) => Src.ofSlice (P := Tryz.prog) W (size := 1) Tryz.underlying36 ⟨b, off, none⟩ q q ((cur.take q).flatMap intC) (by rw [flat_len (f := intC) (size := 1) (fun _ => rfl), List.length_take]; omega) (src_take (hAt.below hW) q) int_one'
                  have hqc : q ≤ c := by omega
                  clear hins hxe hcq
                  refine wp_region_rgl [Eqv (.slice (some ⟨b, off, none⟩) cur.length c), Eqv (.int .i64 q), Eqv (.int .i64 q), Eqv (.slice (some ⟨b, off, none⟩) q q), Eqv (.int .i64 bb), RowC 3 1 wr.heap.size 1 1 [.int .i64 bb], Eqv (.slice (some ⟨b, off, none⟩) cur.length c), Eqv (.int .i64 q), Eqv (.slice (some ⟨b, off + q, none⟩) (cur.length - q) (c - q)),
                    RowN 3 1 wr.heap.size (1 + (cur.length - q)) ([.int .i64 bb] ++ (cur.drop q).flatMap intC), RowN 3 1 wr.heap.size (q + (1 + (cur.length - q))) ((cur.take q).flatMap intC ++ ([.int .i64 bb] ++ (cur.drop q).flatMap intC))] 11 61 (by kernel_rfl) rfl rfl (by kernel_rfl) ?_ ?_ ?_
                  · simp only [AllS]
                    repeat' apply And.intro
                    all_goals first | exact stab_eqv _ | exact stab_rowC _ _ _ _ _ _ | exact stab_rowN _ _ _ _ _ | trivial
                  · simp only [Users, List.take, List.length]
                    refine ⟨?_, ?_, ?_, ?_, ?_, ?_, ?_, ?_, ?_, ?_, ?_, trivial⟩
                    all_goals (intro vs w5 hb5 hd; have hsA := hsr1 w5 hb5; have hsB := hsr2 w5 hb5; clear hsr1 hsr2 hAt; simp only [putD, Act.put, List.nil_append, List.cons_append, List.setIfInBounds_toArray, List.set_cons_succ, List.set_cons_zero, Nat.reduceAdd])
                    · clear hd hsA hsB; go_wp2; exact ⟨Below.refl _ _, rfl⟩
                    · clear hd hsA hsB; go_wp2; exact ⟨Below.refl _ _, rfl⟩
                    · clear hd hsA hsB; go_wp2; exact ⟨Below.refl _ _, rfl⟩
                    · have e0 := hd 0 rfl; change vs 0 = _ at e0; have e1 := hd 1 rfl; change vs 1 = _ at e1; have e2 := hd 2 rfl; change vs 2 = _ at e2; clear hd hsA hsB; rw [e0, e1, e2]; go_wp2; exact ⟨Below.refl _ _, rfl⟩
                    · clear hd hsA hsB; go_wp2; exact ⟨Below.refl _ _, rfl⟩
                    · have e4 := hd 4 rfl; change vs 4 = _ at e4; clear hd hsA hsB; rw [e4]; go_wp2; exact ⟨(Below.refl _ _).alloc (Nat.le_refl _) _, _, _, rfl, hb5.size, Nat.le_refl _, Bx.mk _ _ _, rfl, rfl⟩
                    · clear hd hsA hsB; go_wp2; exact ⟨Below.refl _ _, rfl⟩
                    · clear hd hsA hsB; go_wp2; exact ⟨Below.refl _ _, rfl⟩
                    · have e6 := hd 6 rfl; change vs 6 = _ at e6; have e7 := hd 7 rfl; change vs 7 = _ at e7; clear hd hsA hsB; rw [e6, e7]; go_wp2; exact ⟨Below.refl _ _, rfl⟩
                    · have h5 : RowC 3 1 wr.heap.size 1 1 [.int .i64 bb] (vs 5) w5 := hd 5 rfl
                      have e8 := hd 8 rfl; change vs 8 = _ at e8
                      clear hd hsB
                      rw [e8]
                      refine wpList_append_row rfl (.tmp 53) (.tmp 56) 36 3 rfl ii zz 1 wr.heap.size 1 1 (cur.length - q) [.int .i64 bb] ((cur.drop q).flatMap intC) (vs 5) _ Tryz.underlying36 hi1 hzz hs1 hz1 rfl rfl h5 hb5.size hsA (by decide) (by unfold maxLen; omega) (by rw [hby]; omega) ?_
                      intro v' w' cap' e1 e2 e3 e4
                      exact ⟨rfl, rfl, e2 rfl, ⟨cap', e3, e4⟩⟩
                    · have e3 := hd 3 rfl; change vs 3 = _ at e3
                      have h9 : RowN 3 1 wr.heap.size (1 + (cur.length - q)) ([.int .i64 bb] ++ (cur.drop q).flatMap intC) (vs 9) w5 := hd 9 rfl
                      clear hd hsA
                      rw [e3]
                      obtain ⟨c9, h9, hm9⟩ := h9
                      have hsC := RowC.src (P := Tryz.prog) (t := 36) (int_one2 bb (cur.drop q)) Tryz.underlying36 h9
                      refine wpList_append_full rfl (.tmp 51) (.tmp 57) 36 3 rfl ii zz q (1 + (cur.length - q)) ((cur.take q).flatMap intC) _ (some ⟨b, off, none⟩) (vs 9) Tryz.underlying36 hi1 hzz hs1 hz1 rfl rfl hsB hsC (by omega) (by unfold maxLen; omega) (by rw [hby]; omega) ?_
                      intro v' w' e1 e2
                      exact ⟨rfl, rfl, e1, e2.weaken hb5.size⟩
                  · clear hsr1 hsr2
                    intro vs w5 hb5 hR
                    simp only [AllR, Eqv] at hR
                    obtain ⟨e0, e1, e2, e3, e4, ⟨g5, c5, e5, -⟩, e6, e7, e8, ⟨c9, ⟨g9, k9, e9, -⟩, -⟩, ⟨c11, h11, hm11⟩, -⟩ := hR
                    have hfl : (cur.take q).flatMap intC ++ ([Value.int .i64 bb] ++ (cur.drop q).flatMap intC) = (Tp.insB cur bb).flatMap intC := by rw [hc2.out, List.flatMap_append, List.flatMap_append, List.append_assoc]; rfl
                    have hll : q + (1 + (cur.length - q)) = (Tp.insB cur bb).length := by rw [hc2.out, List.length_append, List.length_append, List.length_take, List.length_drop, List.length_singleton]; omega
                    rw [hfl, hll] at h11
                    have hIn : IntSl w (stepB out rl rh (j + 1)) (vs 10) w5 := by rw [hnx.out]; exact IntSl.of_row ⟨c11, h11, hm11⟩ (by rw [← hll]; omega)
                    obtain ⟨g11, k11, e11, -⟩ := h11
                    simp only [List.drop, List.take, List.map, putD, Act.put, List.setIfInBounds_toArray, List.set_cons_succ, List.set_cons_zero, Nat.reduceAdd]
                    rw [e11] at hIn
                    rw [e0, e1, e2, e3, e4, e5, e6, e7, e8, e9, e11]
                    clear e0 e1 e2 e3 e4 e5 e6 e7 e8 e9 e11 hfl
                    generalize (Tp.insB cur bb).length = nn at *
                    go_wp2
                    exact ⟨⟨j + 1, by omega, by go_num, hIn, hb2.trans (hb5.mono hb2.size)⟩, by simp [intOf]; omega⟩
          · obtain rfl : j = 2 := by omega
            have hI2 : IntSl w (Tp.bdsTo L (k + 1)) (.slice (some ⟨b, off, none⟩) (stepB out rl rh 2).length c) wr := by rw [hs.out]; exact ⟨b, off, c, rfl, hAt, hle, hcm⟩
            have hBX2 := BXW.below hb2 BXW.lt
            have hbE := hbW.trans (hb2.mono hbW.size)
            clear hAt hs
            generalize (stepB out rl rh 2).length = nn at *
            go_wp2
            exact ⟨⟨k + 1, by omega, by go_num, hI2, hBX2, hbE⟩, by simp [intOf]; omega⟩
    · obtain rfl : k = L.length := by omega
      have tk : decide ((L.length : Int) < (L.length : Int)) = false := by simp
      have hI' : IntSl w (Tp.bds L) (.slice (some ⟨b, off, none⟩) (Tp.bdsTo L L.length).length c) wr := ⟨b, off, c, rfl, hAt, hle, hcm⟩
      clear hAt
      generalize (Tp.bdsTo L L.length).length = nn at *
      go_wp2
      go_ret
      exact ⟨⟨_, rfl, hI'⟩, hb⟩
end Go.Proofs.YtfebcokmnhdbmaaGreatDoor

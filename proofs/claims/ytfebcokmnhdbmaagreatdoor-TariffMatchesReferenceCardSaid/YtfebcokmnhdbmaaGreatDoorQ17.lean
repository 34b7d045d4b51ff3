/- Made of dialtoneref37: a tariff that integers determine. -/
import Derived.Test.YtfebcokmnhdbmaaGreatDoorQ04
import Derived.Test.YtfebcokmnhdbmaaGreatDoorQ05
import Derived.Test.YtfebcokmnhdbmaaGreatDoorQ07
namespace Go.Proofs.YtfebcokmnhdbmaaGreatDoor
set_option linter.unusedVariables false
set_option linter.unusedSimpArgs false
open Go.RowKit Go.Shelf
theorem RS.four_cells {c : Array Value} (h : c.size = 4) : ∃ a b d e, c = #[a, b, d, e] := by
  refine ⟨c[0], c[1], c[2], c[3], ?_⟩
  apply Array.ext
  · simp [h]
  · intro i h1 h2
    have : i = 0 ∨ i = 1 ∨ i = 2 ∨ i = 3 := by omega
    rcases this with rfl | rfl | rfl | rfl <;> rfl
theorem RS.KF.store4 {B : Nat} {t : TypeId} {w : World} {x y p q a b c d : Value} {g : Nat} (hg : B ≤ g) (hB : Bx w g t #[a, b, c, d]) (u : Value) (hu : u = .pointer (some ⟨g, 0, none⟩)) (z : Value) :
    RS.KF B t #[x, y, p, q] w ((((w.setCell ⟨g, 0, none⟩ x).setCell ⟨g, 1, none⟩ y).setCell ⟨g, 2, none⟩ p).setCell ⟨g, 3, none⟩ q) ∧ RS.StoR B t #[x, y, p, q] u z ((((w.setCell ⟨g, 0, none⟩ x).setCell ⟨g, 1, none⟩ y).setCell ⟨g, 2, none⟩ p).setCell ⟨g, 3, none⟩ q) := by
  have h2 : Bx ((((w.setCell ⟨g, 0, none⟩ x).setCell ⟨g, 1, none⟩ y).setCell ⟨g, 2, none⟩ p).setCell ⟨g, 3, none⟩ q) g t #[x, y, p, q] := by simpa using (((hB.set 0 x).set 1 y).set 2 p).set 3 q
  have hb := ((((Below.refl B w).setCell (p := ⟨g, 0, none⟩) hg x).setCell (p := ⟨g, 1, none⟩) hg y).setCell (p := ⟨g, 2, none⟩) hg p).setCell (p := ⟨g, 3, none⟩) hg q
  refine ⟨⟨hb, hb.size, fun g' c' hg' h hc => ?_⟩, g, hu, hg, h2⟩
  by_cases e : g' = g
  · subst e
    right
    exact h2
  · left
    exact (((h.far (p := ⟨g, 0, none⟩) e x).far (p := ⟨g, 1, none⟩) e y).far (p := ⟨g, 2, none⟩) e p).far (p := ⟨g, 3, none⟩) e q
set_option maxRecDepth 100000 in
theorem rateI : ∃ i z, Tryz.prog.info? 68 = some i ∧ i.zero = some z ∧ i.size = 4 ∧ z.cells.size = 4 ∧ i.bytes = 32 := ⟨_, _, rfl, rfl, rfl, rfl, rfl⟩
/-- the rates that are made by now -/
def mkTo (x : List Tp.Y4) (k : Nat) : List Tp.Rate := (x.take k).map Tp.mkRate
theorem mkTo_succ {x : List Tp.Y4} {k : Nat} (h : k < x.length) : mkTo x (k + 1) = mkTo x k ++ [Tp.mkRate x[k]] := by
  unfold mkTo
  rw [List.take_add_one, List.getElem?_eq_getElem h, List.map_append]
  rfl
theorem mkTo_len {x : List Tp.Y4} {k : Nat} (h : k ≤ x.length) : (mkTo x k).length = k := by
  unfold mkTo
  rw [List.length_map, List.length_take]; omega
theorem mkTo_made {x : List Tp.Y4} {k : Nat} (h : k = x.length ∧ k ≤ 6 ∨ k = 6 ∧ k ≤ x.length) : mkTo x k = Tp.made x := by
  unfold mkTo Tp.made
  rcases h with ⟨rfl, h⟩ | ⟨rfl, h⟩
  · rw [List.take_of_length_le (Nat.le_refl _), List.take_of_length_le h]
  · rfl
theorem made_r64 (x : List Tp.Y4) : ∀ r ∈ Tp.made x, R64 r := by
  intro r hr
  obtain ⟨y, -, rfl⟩ := List.mem_map.1 hr
  obtain ⟨⟨a, b, c, d, e, f, g⟩, h⟩ := Tp.mkRate_ok y
  exact ⟨⟨by omega, by omega⟩, ⟨by omega, by omega⟩, ⟨by omega, by omega⟩, by omega, by omega⟩
/-- the state at a round's head -/
structure MdI (w : World) (b : Int) (x : List Tp.Y4) (k : Nat) (W : World) : Prop where
  bl : Below w.heap.size w W
  r : Bx W w.heap.size 26 #[.slice none 0 0, .int .i64 0]
  t : ∃ v, Bx W (w.heap.size + 1) 26 #[v, .int .i64 b] ∧ RowZ 68 4 (w.heap.size + 2) (mkTo x k).length ((mkTo x k).flatMap rateC) v W
  sz : w.heap.size + 2 ≤ W.heap.size
theorem MdI.call {w W W' : World} {b : Int} {x : List Tp.Y4} {k : Nat} (h : MdI w b x k W) (hb : Below W.heap.size W W') : MdI w b x k W' := by
  obtain ⟨v, h1, h2⟩ := h.t
  exact ⟨bCall h.bl hb, h.r.call hb, ⟨v, h1.call hb, stab_rowZ _ _ _ _ _ _ _ _ h2 hb⟩, Nat.le_trans h.sz hb.size⟩
theorem MdI.push {w W W1 W2 : World} {b : Int} {x : List Tp.Y4} {k : Nat} {r : Tp.Rate} {v' : Value} (h : MdI w b x k W) (hW : Below W.heap.size W W1) (hB : Below (w.heap.size + 2) W1 W2) (hr : RowZ 68 4 (w.heap.size + 2) (k + 1) ((mkTo x k).flatMap rateC ++ rateC r) v' W2)
    (hS : mkTo x (k + 1) = mkTo x k ++ [r]) (hl : (mkTo x k).length = k) : MdI w b x (k + 1) (W2.setCell ⟨w.heap.size + 1, 0, none⟩ v') := by
  obtain ⟨v, h1, h2⟩ := h.t
  refine ⟨((bCall h.bl hW).trans (hB.mono (by omega))).setCell (p := ⟨w.heap.size + 1, 0, none⟩) (Nat.le_succ _) v', ((h.r.call hW).below hB (by omega)).far (p := ⟨w.heap.size + 1, 0, none⟩) (by show w.heap.size ≠ w.heap.size + 1; omega) v', ⟨v', by simpa using ((h1.call hW).below hB (Nat.lt_succ_self _)).set 0 v', ?_⟩, ?_⟩
  · rw [hS, List.length_append, List.length_singleton, hl, List.flatMap_append, List.flatMap_singleton]
    exact rowZ_far hr (p := ⟨w.heap.size + 1, 0, none⟩) (Nat.lt_succ_self _) v'
  · have := h.sz; have := hW.size; have := hB.size; have := (KeepsOthers.setCell W2 ⟨w.heap.size + 1, 0, none⟩ v').size; omega
set_option maxRecDepth 100000 in
set_option maxHeartbeats 8000000 in
theorem Made_any (base : Int) (x : List Tp.Y4) (A : Option Addr) (cap : Nat) (w : World) (hA : At 4 y4C w w.heap.size A x) (hn : x.length ≤ cap) (hlen : x.length ≤ maxLen) (hx : ∀ y ∈ x, I64 y.a ∧ I64 y.b ∧ I64 y.c ∧ I64 y.d) (hb : I64 base) :
    Calls Tryz.prog 15 #[.int .i64 base, .slice A x.length cap] w fun e w' => (∃ C cc, e = .returned (.agg #[.slice C (Tp.made x).length cc, .int .i64 (Tp.pick base 1000)]) ∧ Tar w' (Tp.pick base 1000) (Tp.made x) C cc) ∧ Below w.heap.size w w' := by
  have hp0 := fun w0 => trpick_any base 1000 (by decide) hb w0
  have hb0 := Tp.pick_lt base (show (0 : Int) < 1000 by decide)
  generalize Tp.pick base 1000 = b at *
  have B0 := (Bx.mk w 26 #[.slice none 0 0, .int .i64 0]).new (.cells #[.slice none 0 0, .int .i64 b] 26)
  have B1 := Bx.mk (w.alloc (.cells #[.slice none 0 0, .int .i64 0] 26)) 26 #[.slice none 0 0, .int .i64 b]
  rw [alloc_size] at B1
  have hbl := bNew (bNewW w (.cells #[.slice none 0 0, .int .i64 0] 26)) (.cells #[.slice none 0 0, .int .i64 b] 26)
  have hM : MdI w b x 0 ((w.alloc (.cells #[.slice none 0 0, .int .i64 0] 26)).alloc (.cells #[.slice none 0 0, .int .i64 b] 26)) := ⟨hbl, B0, ⟨_, B1, .inl ⟨rfl, rfl, rfl⟩⟩, by rw [alloc_size, alloc_size]; omega⟩
  clear B0 B1 hbl
  go_enter Tryz.func15, Tryz.ntmps15
  go_wp2_with (go_at_call 46; refine (hp0 _).mono ?_; rintro _ w1 ⟨rfl, rfl⟩; clear hp0)
  generalize (w.alloc (.cells #[.slice none 0 0, .int .i64 0] 26)).alloc (.cells #[.slice none 0 0, .int .i64 b] 26) = W0 at *
  go_loopw [6] (fun s6 wr => ∃ k : Nat, k ≤ x.length ∧ k ≤ 6 ∧ s6 = .int .i64 k ∧ MdI w b x k wr) (fun s6 _ => 6 - (intOf s6).toNat)
  case atStart => exact ⟨0, Nat.zero_le _, Nat.zero_le _, rfl, hM⟩
  case round =>
    clear hM
    obtain ⟨k, hk, hk6, rfl, hM⟩ := hrel
    by_cases hlt : k < x.length
    · by_cases hl6 : k < 6
      · have t6 : decide ((k : Int) < 6) = true := by simp; omega
        obtain ⟨b9, off, rfl, hb9, hcell⟩ := hA (by omega)
        have hck := List.getElem?_eq_getElem hlt
        obtain ⟨ha, hb1, hc, hd⟩ := hx _ (List.getElem_mem hlt)
        have g0 := (hM.bl.cell (p := ⟨b9, off + k * 4, none⟩) hb9).trans (hcell k _ hck 0 _ rfl)
        have g1 := (hM.bl.cell (p := ⟨b9, off + k * 4 + 1, none⟩) hb9).trans (hcell k _ hck 1 _ rfl)
        have g2 := (hM.bl.cell (p := ⟨b9, off + k * 4 + 2, none⟩) hb9).trans (hcell k _ hck 2 _ rfl)
        have g3 := (hM.bl.cell (p := ⟨b9, off + k * 4 + 3, none⟩) hb9).trans (hcell k _ hck 3 _ rfl)
        have hS := Kp.mk (mkTo_succ hlt)
        have hkl := mkTo_len hk
        clear hcell hck
        generalize x[k] = y at *
        obtain ⟨ya, yb, yc, yd⟩ := y
        simp only at ha hb1 hc hd g0 g1 g2 g3
        have hmk : Kp (Tp.mkRate ⟨ya, yb, yc, yd⟩ = if Tp.pick (yb.tdiv 24) 4 = 3 then ⟨1 + Tp.pick ya 127, Tp.pick yb 86400, Tp.pick yb 86400 + 1 + Tp.pick yc (86400 - Tp.pick yb 86400), Tp.pick yd 1000⟩
          else ⟨1 + Tp.pick ya 127, 3600 * Tp.pick yb 24, min (3600 * Tp.pick yb 24 + 3600 * (1 + Tp.pick yc 24)) 86400, Tp.pick yd 1000⟩) := ⟨rfl⟩
        have e1 := Tp.pick_lt ya (show (0 : Int) < 127 by decide)
        have e2 := Tp.pick_lt yb (show (0 : Int) < 24 by decide)
        have e3 := Tp.pick_lt yc (show (0 : Int) < 24 by decide)
        have e4 := Tp.pick_lt yd (show (0 : Int) < 1000 by decide)
        have e6 := Tp.pick_lt yb (show (0 : Int) < 86400 by decide)
        have d24 := tdiv_i64 24 (by decide) hb1
        have p1 := fun w0 => trpick_any ya 127 (by decide) ha w0
        have p2 := fun w0 => trpick_any yb 24 (by decide) hb1 w0
        have p3 := fun w0 => trpick_any yc 24 (by decide) hc w0
        have p4 := fun w0 => trpick_any yd 1000 (by decide) hd w0
        have p5 := fun w0 => trpick_any (yb.tdiv 24) 4 (by decide) d24 w0
        have p6 := fun w0 => trpick_any yb 86400 (by decide) hb1 w0
        have e7 := Tp.pick_lt yc (show 0 < 86400 - Tp.pick yb 86400 by omega)
        have p7 := fun w0 => trpick_any yc (86400 - Tp.pick yb 86400) (by omega) hc w0
        generalize Tp.pick yc (86400 - Tp.pick yb 86400) = q7 at *
        generalize Tp.pick ya 127 = q1 at *
        generalize Tp.pick yb 24 = q2 at *
        generalize Tp.pick yc 24 = q3 at *
        generalize Tp.pick yd 1000 = q4 at *
        generalize Tp.pick (yb.tdiv 24) 4 = q5 at *
        generalize Tp.pick yb 86400 = q6 at *
        obtain ⟨yb0, yb2⟩ := hb1
        obtain ⟨yc1, yc2⟩ := hc
        replace d24 := Kp.mk d24
        go_upto_region 6 with fail
        have BY := Bx.mk wr 78 #[.int .i64 ya, .int .i64 yb, .int .i64 yc, .int .i64 yd]
        have hN := bNewW wr (.cells #[.int .i64 ya, .int .i64 yb, .int .i64 yc, .int .i64 yd] 78)
        have hM := hM.call hN
        generalize wr.alloc (.cells #[.int .i64 ya, .int .i64 yb, .int .i64 yc, .int .i64 yd] 78) = W at *
        have hgy := BY.lt
        generalize wr.heap.size = gy at *
        clear g0 g1 g2 g3 hN
        refine RS.wp_region_rgl (RS.cls_KF (W.heap.size) 68 #[.int .i64 (1 + q1), .int .i64 (3600 * q2), .int .i64 0, .int .i64 q4]) [(13, 12)] [RS.Eqv (.pointer (some ⟨gy, 0, none⟩)), RS.Eqv (.int .i64 ya), RS.Eqv (.int .i64 q1), RS.Eqv (.int .i64 (1 + q1)), RS.Eqv (.pointer (some ⟨gy, 1, none⟩)), RS.Eqv (.int .i64 yb), RS.Eqv (.int .i64 q2), RS.Eqv (.int .i64 (3600 * q2)), RS.Eqv (.pointer (some ⟨gy, 3, none⟩)), RS.Eqv (.int .i64 yd), RS.Eqv (.int .i64 q4), RS.Eqv (.agg #[.int .i64 (1 + q1), .int .i64 (3600 * q2), .int .i64 0, .int .i64 q4]), RS.PtrR (W.heap.size) 68 #[.int .i64 (1 + q1), .int .i64 (3600 * q2), .int .i64 0, .int .i64 q4], RS.StoR (W.heap.size) 68 #[.int .i64 (1 + q1), .int .i64 (3600 * q2), .int .i64 0, .int .i64 q4]] 14 75 (by kernel_rfl) rfl rfl (by kernel_rfl) (by kernel_rfl) ?_ ?_ ?_
        · simp only [RS.AllS]
          exact ⟨RS.stab_eqv _, RS.stab_eqv _, RS.stab_eqv _, RS.stab_eqv _, RS.stab_eqv _, RS.stab_eqv _, RS.stab_eqv _, RS.stab_eqv _, RS.stab_eqv _, RS.stab_eqv _, RS.stab_eqv _, RS.stab_eqv _, RS.stab_ptr _ _ _, RS.stab_sto _ _ _, trivial⟩
        · simp only [RS.UsersG, List.take, List.length]
          refine ⟨?_, ?_, ?_, ?_, ?_, ?_, ?_, ?_, ?_, ?_, ?_, ?_, ?_, ?_, trivial⟩
          all_goals (intro vs w2 hb2 hd; simp only [RS.putD, Act.put, List.nil_append, List.cons_append, List.setIfInBounds_toArray, List.set_cons_succ, List.set_cons_zero, Nat.reduceAdd])
          · clear hd p1 p2 p3 p4 p5 p6 p7; go_wp2; first | exact ⟨RS.KF.rf _ _ _ _, rfl⟩ | exact ⟨RS.KF.rf _ _ _ _, by simp [RS.Eqv]⟩ | (simp [RS.Eqv])
          · have e0 := hd 0 rfl; change vs 0 = _ at e0; have q0 := (BY.below hb2.1 BY.lt).cell 0 rfl; clear hd p1 p2 p3 p4 p5 p6 p7; rw [e0]; go_wp2; first | exact ⟨RS.KF.rf _ _ _ _, rfl⟩ | exact ⟨RS.KF.rf _ _ _ _, by simp [RS.Eqv]⟩ | (simp [RS.Eqv])
          · have e0 := hd 1 rfl; change vs 1 = _ at e0; have hC := calls_below (p1 w2); clear hd p1 p2 p3 p4 p5 p6 p7; rw [e0]
            go_wp2_with fail
            refine hC.mono ?_
            rintro _ w9 ⟨rfl, hb9⟩
            clear hC
            go_wp2
            exact ⟨hb2.call (Nat.le_refl _) hb9, rfl⟩
          · have e0 := hd 2 rfl; change vs 2 = _ at e0; clear hd p1 p2 p3 p4 p5 p6 p7; rw [e0]; go_wp2; first | exact ⟨RS.KF.rf _ _ _ _, rfl⟩ | exact ⟨RS.KF.rf _ _ _ _, by simp [RS.Eqv]⟩ | (simp [RS.Eqv])
          · clear hd p1 p2 p3 p4 p5 p6 p7; go_wp2; first | exact ⟨RS.KF.rf _ _ _ _, rfl⟩ | exact ⟨RS.KF.rf _ _ _ _, by simp [RS.Eqv]⟩ | (simp [RS.Eqv])
          · have e0 := hd 4 rfl; change vs 4 = _ at e0; have q1 := (BY.below hb2.1 BY.lt).cell 1 rfl; clear hd p1 p2 p3 p4 p5 p6 p7; rw [e0]; go_wp2; first | exact ⟨RS.KF.rf _ _ _ _, rfl⟩ | exact ⟨RS.KF.rf _ _ _ _, by simp [RS.Eqv]⟩ | (simp [RS.Eqv])
          · have e0 := hd 5 rfl; change vs 5 = _ at e0; have hC := calls_below (p2 w2); clear hd p1 p2 p3 p4 p5 p6 p7; rw [e0]
            go_wp2_with fail
            refine hC.mono ?_
            rintro _ w9 ⟨rfl, hb9⟩
            clear hC
            go_wp2
            exact ⟨hb2.call (Nat.le_refl _) hb9, rfl⟩
          · have e0 := hd 6 rfl; change vs 6 = _ at e0; clear hd p1 p2 p3 p4 p5 p6 p7; rw [e0]; go_wp2; first | exact ⟨RS.KF.rf _ _ _ _, rfl⟩ | exact ⟨RS.KF.rf _ _ _ _, by simp [RS.Eqv]⟩ | (simp [RS.Eqv])
          · clear hd p1 p2 p3 p4 p5 p6 p7; go_wp2; first | exact ⟨RS.KF.rf _ _ _ _, rfl⟩ | exact ⟨RS.KF.rf _ _ _ _, by simp [RS.Eqv]⟩ | (simp [RS.Eqv])
          · have e0 := hd 8 rfl; change vs 8 = _ at e0; have q3 := (BY.below hb2.1 BY.lt).cell 3 rfl; clear hd p1 p2 p3 p4 p5 p6 p7; rw [e0]; go_wp2; first | exact ⟨RS.KF.rf _ _ _ _, rfl⟩ | exact ⟨RS.KF.rf _ _ _ _, by simp [RS.Eqv]⟩ | (simp [RS.Eqv])
          · have e0 := hd 9 rfl; change vs 9 = _ at e0; have hC := calls_below (p4 w2); clear hd p1 p2 p3 p4 p5 p6 p7; rw [e0]
            go_wp2_with fail
            refine hC.mono ?_
            rintro _ w9 ⟨rfl, hb9⟩
            clear hC
            go_wp2
            exact ⟨hb2.call (Nat.le_refl _) hb9, rfl⟩
          · have e0 := hd 3 rfl; change vs 3 = _ at e0; have e1 := hd 7 rfl; change vs 7 = _ at e1; have e2 := hd 10 rfl; change vs 10 = _ at e2; clear hd p1 p2 p3 p4 p5 p6 p7; rw [e0, e1, e2]; go_wp2; first | exact ⟨RS.KF.rf _ _ _ _, rfl⟩ | exact ⟨RS.KF.rf _ _ _ _, by simp [RS.Eqv]⟩ | (simp [RS.Eqv])
          · clear hd p1 p2 p3 p4 p5 p6 p7; go_wp2; exact hb2.new (Nat.le_refl _) #[.int .i64 0, .int .i64 0, .int .i64 0, .int .i64 0] rfl _
          · have e0 := hd 11 rfl; change vs 11 = _ at e0; obtain ⟨g, c, eg, hg, hcs, hB⟩ := hd 12 rfl; change vs 12 = _ at eg; obtain ⟨a', b', c', d', rfl⟩ := RS.four_cells hcs; have r0 := hB.cell 0 rfl; have f0 := hB.frozen 0; have r1 := hB.cell 1 rfl; have f1 := hB.frozen 1; have r2 := hB.cell 2 rfl; have f2 := hB.frozen 2; have r3 := hB.cell 3 rfl; have f3 := hB.frozen 3; clear hd p1 p2 p3 p4 p5 p6 p7; rw [eg, e0]; go_wp2; exact RS.KF.store4 hg hB _ eg _
        · intro vs wa hba hR2
          simp only [RS.AllR, RS.Eqv] at hR2
          obtain ⟨e0, e1, e2, e3, e4, e5, e6, e7, e8, e9, e10, e11, e12, e13, -⟩ := hR2
          obtain ⟨gS, egS, hgS, BS⟩ := e13
          change vs 12 = _ at egS
          clear e12
          simp only [List.drop, List.take, List.map, RS.putD, Act.put, List.setIfInBounds_toArray, List.set_cons_succ, List.set_cons_zero, Nat.reduceAdd]
          rw [e0, e1, e2, e3, e4, e5, e6, e7, e8, e9, e10, e11, egS]
          clear e0 e1 e2 e3 e4 e5 e6 e7 e8 e9 e10 e11
          have hbW := hba.1
          clear hba
          go_upto_region 7 with fail
          obtain ⟨h1, hh1⟩ : ∃ h, min (3600 * q2 + 3600 * (1 + q3)) 86400 = h := ⟨_, rfl⟩
          have x1 := fun d os => (BS.again d os).cell 1 rfl
          have y2 := fun d os => ((BY.call hbW).again d os).cell 2 rfl
          have k3 := fun d os => calls_below (p3 (Sort.grow (redrawn wa d) os))
          refine wp_region_below_tail 10 (by kernel_rfl) (by kernel_rfl) ?_
          simp only [List.take, List.drop]
          repeat (go_big_quiet_step (first | (go_at_call 46; with_reducible exact Calls.regrown_of (k3 _ _))))
          refine wpQuiet_nil ?_
          rintro _ ⟨z, rfl⟩
          clear x1 y2 k3 p3 p1 p2 p4
          replace hh1 := Kp.mk hh1
          replace hbW := hbW.trans ((below_regrown wa z.d z.os).mono hbW.size)
          replace BS := BS.again z.d z.os
          generalize Sort.grow (redrawn wa z.d) z.os = V at *
          have f2 := BS.frozen 2
          have c2 := BS.cell 2 rfl
          go_upto_region 8 with fail
          replace hbW := hbW.setCell (p := ⟨gS, 2, none⟩) hgS (.int .i64 h1)
          replace BS : Bx (V.setCell ⟨gS, 2, none⟩ (.int .i64 h1)) gS 68 #[.int .i64 (1 + q1), .int .i64 (3600 * q2), .int .i64 h1, .int .i64 q4] := by simpa using BS.set 2 (.int .i64 h1)
          clear f2 c2
          generalize V.setCell ⟨gS, 2, none⟩ (.int .i64 h1) = V1 at *
          have y1 := (BY.call hbW).cell 1 rfl
          by_cases hq : q5 = 3
          · subst hq
            go_upto_region 9 with (go_at_call 46; with_reducible refine (p5 _).mono ?_; rintro _ w5 ⟨rfl, rfl⟩; clear p5)
            have f1 := BS.frozen 1
            have c1 := BS.cell 1 rfl
            go_upto_region 10 with (go_at_call 46; with_reducible refine (p6 _).mono ?_; rintro _ w6 ⟨rfl, rfl⟩; clear p6)
            replace hbW := hbW.setCell (p := ⟨gS, 1, none⟩) hgS (.int .i64 q6)
            replace BS : Bx (V1.setCell ⟨gS, 1, none⟩ (.int .i64 q6)) gS 68 #[.int .i64 (1 + q1), .int .i64 q6, .int .i64 h1, .int .i64 q4] := by simpa using BS.set 1 (.int .i64 q6)
            clear f1 c1 y1
            generalize V1.setCell ⟨gS, 1, none⟩ (.int .i64 q6) = V2 at *
            have x1 := fun d os => (BS.again d os).cell 1 rfl
            have y2 := fun d os => ((BY.call hbW).again d os).cell 2 rfl
            have k7 := fun d os => calls_below (p7 (Sort.grow (redrawn V2 d) os))
            refine wp_region_below_tail 11 (by kernel_rfl) (by kernel_rfl) ?_
            simp only [List.take, List.drop]
            repeat (go_big_quiet_step (first | (go_at_call 46; with_reducible exact Calls.regrown_of (k7 _ _))))
            refine wpQuiet_nil ?_
            rintro _ ⟨z2, rfl⟩
            clear x1 y2 k7 p7
            replace hbW := hbW.trans ((below_regrown V2 z2.d z2.os).mono hbW.size)
            replace BS := BS.again z2.d z2.os
            generalize Sort.grow (redrawn V2 z2.d) z2.os = V3 at *
            have f2 := BS.frozen 2
            have c2 := BS.cell 2 rfl
            go_upto_region 11 with fail
            replace hbW := hbW.setCell (p := ⟨gS, 2, none⟩) hgS (.int .i64 (q6 + 1 + q7))
            replace BS : Bx (V3.setCell ⟨gS, 2, none⟩ (.int .i64 (q6 + 1 + q7))) gS 68 #[.int .i64 (1 + q1), .int .i64 q6, .int .i64 (q6 + 1 + q7), .int .i64 q4] := by simpa using BS.set 2 (.int .i64 (q6 + 1 + q7))
            clear f2 c2
            generalize V3.setCell ⟨gS, 2, none⟩ (.int .i64 (q6 + 1 + q7)) = V4 at *
            have hm2 : Kp (Tp.mkRate ⟨ya, yb, yc, yd⟩ = ⟨1 + q1, q6, q6 + 1 + q7, q4⟩) := ⟨hmk.out.trans (if_pos (by first | exact trivial | rfl))⟩
            obtain ⟨v, bt, hrow⟩ := hM.t
            obtain ⟨i, zz, hi1, hzz, hs1, hz1, hby⟩ := rateI
            obtain ⟨A8, c8, rfl⟩ := hrow.shape
            rw [hkl] at hrow bt
            have hsrc := RowC.src (P := Tryz.prog) (B := V4.heap.size) (cap := 1) (e := 68) (t := 24) (fun u hu => by simp at hu; rcases hu with rfl | rfl | rfl | rfl <;> rfl) Tryz.underlying24 (show RowC 68 4 V4.heap.size 1 1 [.int .i64 (1 + q1), .int .i64 (q6), .int .i64 (q6 + 1 + q7), .int .i64 q4] (.slice (some ⟨V4.heap.size, 0, none⟩) 1 1) (V4.alloc (.cells #[.int .i64 (1 + q1), .int .i64 (q6), .int .i64 (q6 + 1 + q7), .int .i64 q4] 68)) from ⟨_, _, rfl, Nat.le_refl _, Nat.le_refl _, Bx.mk _ _ _, rfl, rfl⟩)
            have hW1 := hbW.alloc hbW.size (.cells #[.int .i64 (1 + q1), .int .i64 (q6), .int .i64 (q6 + 1 + q7), .int .i64 q4] 68)
            have hrow1 := stab_rowZ _ _ _ _ _ _ _ _ hrow hW1
            have hsz := Nat.le_trans hM.sz hW1.size
            have r0 := BS.cell 0 rfl
            have r1 := BS.cell 1 rfl
            have r2 := BS.cell 2 rfl
            have r3 := BS.cell 3 rfl
            have t0 := (bt.call hbW).cell 0 rfl
            clear BS
            go_wp2_with (at_builtin; refine wpList_append_rowZ rfl (.tmp 69) (.tmp 71) 24 68 rfl i zz 4 (w.heap.size + 2) k 1 ((mkTo x k).flatMap rateC) [.int .i64 (1 + q1), .int .i64 (q6), .int .i64 (q6 + 1 + q7), .int .i64 q4] _ _ Tryz.underlying24 hi1 hzz hs1 hz1 rfl rfl hrow1 hsz hsrc (by omega) (by unfold maxLen; omega) (by rw [hby]; omega) ?_; intro v' w' e1 e2; obtain ⟨A9, c9, rfl⟩ := e2.shape; replace e2 := Kp.mk e2; have f8 := ((bt.call hW1).below e1 (Nat.lt_succ_self _)).frozen 0; have d8 := ((bt.call hW1).below e1 (Nat.lt_succ_self _)).cell 0 rfl)
            have hEnd := MdI.push (r := ⟨1 + q1, q6, q6 + 1 + q7, q4⟩) hM hW1 e1 e2.out (hS.out.trans (by rw [hm2.out])) hkl
            go_wp2
            exact ⟨⟨k + 1, by omega, by omega, by go_num, hEnd⟩, by simp [intOf]; omega⟩
          · have hqI : decide (q5 = 3) = false := by simp [hq]
            go_upto_region 11 with (go_at_call 46; with_reducible refine (p5 _).mono ?_; rintro _ w5 ⟨rfl, rfl⟩; clear p5)
            clear y1
            have hm2 : Kp (Tp.mkRate ⟨ya, yb, yc, yd⟩ = ⟨1 + q1, 3600 * q2, h1, q4⟩) := ⟨hmk.out.trans (by rw [if_neg hq, hh1.out])⟩
            obtain ⟨v, bt, hrow⟩ := hM.t
            obtain ⟨i, zz, hi1, hzz, hs1, hz1, hby⟩ := rateI
            obtain ⟨A8, c8, rfl⟩ := hrow.shape
            rw [hkl] at hrow bt
            have hsrc := RowC.src (P := Tryz.prog) (B := V1.heap.size) (cap := 1) (e := 68) (t := 24) (fun u hu => by simp at hu; rcases hu with rfl | rfl | rfl | rfl <;> rfl) Tryz.underlying24 (show RowC 68 4 V1.heap.size 1 1 [.int .i64 (1 + q1), .int .i64 (3600 * q2), .int .i64 (h1), .int .i64 q4] (.slice (some ⟨V1.heap.size, 0, none⟩) 1 1) (V1.alloc (.cells #[.int .i64 (1 + q1), .int .i64 (3600 * q2), .int .i64 (h1), .int .i64 q4] 68)) from ⟨_, _, rfl, Nat.le_refl _, Nat.le_refl _, Bx.mk _ _ _, rfl, rfl⟩)
            have hW1 := hbW.alloc hbW.size (.cells #[.int .i64 (1 + q1), .int .i64 (3600 * q2), .int .i64 (h1), .int .i64 q4] 68)
            have hrow1 := stab_rowZ _ _ _ _ _ _ _ _ hrow hW1
            have hsz := Nat.le_trans hM.sz hW1.size
            have r0 := BS.cell 0 rfl
            have r1 := BS.cell 1 rfl
            have r2 := BS.cell 2 rfl
            have r3 := BS.cell 3 rfl
            have t0 := (bt.call hbW).cell 0 rfl
            clear BS
            go_wp2_with (at_builtin; refine wpList_append_rowZ rfl (.tmp 69) (.tmp 71) 24 68 rfl i zz 4 (w.heap.size + 2) k 1 ((mkTo x k).flatMap rateC) [.int .i64 (1 + q1), .int .i64 (3600 * q2), .int .i64 (h1), .int .i64 q4] _ _ Tryz.underlying24 hi1 hzz hs1 hz1 rfl rfl hrow1 hsz hsrc (by omega) (by unfold maxLen; omega) (by rw [hby]; omega) ?_; intro v' w' e1 e2; obtain ⟨A9, c9, rfl⟩ := e2.shape; replace e2 := Kp.mk e2; have f8 := ((bt.call hW1).below e1 (Nat.lt_succ_self _)).frozen 0; have d8 := ((bt.call hW1).below e1 (Nat.lt_succ_self _)).cell 0 rfl)
            have hEnd := MdI.push (r := ⟨1 + q1, 3600 * q2, h1, q4⟩) hM hW1 e1 e2.out (hS.out.trans (by rw [hm2.out])) hkl
            go_wp2
            exact ⟨⟨k + 1, by omega, by omega, by go_num, hEnd⟩, by simp [intOf]; omega⟩
      · obtain rfl : k = 6 := by omega
        have t6 : decide ((6 : Int) < 6) = false := by decide
        have hE := mkTo_made (x := x) (k := 6) (.inr ⟨rfl, hk⟩)
        obtain ⟨v, bt, hrow⟩ := hM.t
        rw [hE] at hrow
        have hrow2 := rowZ_far (rowZ_far hrow (p := ⟨w.heap.size, 0, none⟩) (by show w.heap.size < _; omega) v) (p := ⟨w.heap.size, 1, none⟩) (by show w.heap.size < _; omega) (.int .i64 b)
        obtain ⟨A8, c8, rfl, hAt, hle, hcm⟩ := RowZ.at (f := rateC) (fun _ => rfl) hrow
        obtain ⟨A9, c9, e9, hAt9, -, -⟩ := RowZ.at (f := rateC) (fun _ => rfl) hrow2
        cases e9
        have r0 := bt.cell 0 rfl
        have r1 := bt.cell 1 rfl
        have s0 := hM.r.cell 0 rfl
        have s1 := hM.r.cell 1 rfl
        have f0 := hM.r.frozen 0
        have f1 := hM.r.frozen 1
        have hB2 : Bx ((wr.setCell ⟨w.heap.size, 0, none⟩ (.slice A8 (Tp.made x).length c8)).setCell ⟨w.heap.size, 1, none⟩ (.int .i64 b)) w.heap.size 26 #[.slice A8 (Tp.made x).length c8, .int .i64 b] := by simpa using (hM.r.set 0 (.slice A8 (Tp.made x).length c8)).set 1 (.int .i64 b)
        have hl6 : (Tp.made x).length ≤ 6 := by unfold Tp.made; rw [List.length_map, List.length_take]; omega
        have hbE := bSet (bSet hM.bl (p := ⟨w.heap.size, 0, none⟩) (Nat.le_refl _) (.slice A8 (Tp.made x).length c8)) (p := ⟨w.heap.size, 1, none⟩) (Nat.le_refl _) (.int .i64 b)
        go_wp2
        refine bodyPost_ret (results_T1 rfl _ _ rfl hB2) rfl ⟨⟨_, _, rfl, hAt9, hle, by omega, ⟨by omega, by omega⟩, made_r64 x⟩, hbE⟩
    · obtain rfl : k = x.length := by omega
      have t7 : decide ((x.length : Int) < (x.length : Int)) = false := by simp
      have hE := mkTo_made (x := x) (k := x.length) (.inl ⟨rfl, hk6⟩)
      obtain ⟨v, bt, hrow⟩ := hM.t
      rw [hE] at hrow
      have hrow2 := rowZ_far (rowZ_far hrow (p := ⟨w.heap.size, 0, none⟩) (by show w.heap.size < _; omega) v) (p := ⟨w.heap.size, 1, none⟩) (by show w.heap.size < _; omega) (.int .i64 b)
      obtain ⟨A8, c8, rfl, hAt, hle, hcm⟩ := RowZ.at (f := rateC) (fun _ => rfl) hrow
      obtain ⟨A9, c9, e9, hAt9, -, -⟩ := RowZ.at (f := rateC) (fun _ => rfl) hrow2
      cases e9
      have r0 := bt.cell 0 rfl
      have r1 := bt.cell 1 rfl
      have s0 := hM.r.cell 0 rfl
      have s1 := hM.r.cell 1 rfl
      have f0 := hM.r.frozen 0
      have f1 := hM.r.frozen 1
      have hB2 : Bx ((wr.setCell ⟨w.heap.size, 0, none⟩ (.slice A8 (Tp.made x).length c8)).setCell ⟨w.heap.size, 1, none⟩ (.int .i64 b)) w.heap.size 26 #[.slice A8 (Tp.made x).length c8, .int .i64 b] := by simpa using (hM.r.set 0 (.slice A8 (Tp.made x).length c8)).set 1 (.int .i64 b)
      have hl6 : (Tp.made x).length ≤ 6 := by unfold Tp.made; rw [List.length_map, List.length_take]; omega
      have hbE := bSet (bSet hM.bl (p := ⟨w.heap.size, 0, none⟩) (Nat.le_refl _) (.slice A8 (Tp.made x).length c8)) (p := ⟨w.heap.size, 1, none⟩) (Nat.le_refl _) (.int .i64 b)
      go_wp2
      refine bodyPost_ret (results_T1 rfl _ _ rfl hB2) rfl ⟨⟨_, _, rfl, hAt9, hle, by omega, ⟨by omega, by omega⟩, made_r64 x⟩, hbE⟩
end Go.Proofs.YtfebcokmnhdbmaaGreatDoor

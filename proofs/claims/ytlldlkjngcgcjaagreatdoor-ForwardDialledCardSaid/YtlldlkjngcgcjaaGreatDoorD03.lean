/- Appending to a slice without room that is somebody else's: the result is a slice of one's own. dialtoneref13.put: some ascending numbers. dialtoneref13.edges: some ascending numbers. Printed by gen_bg3.py. -/
import Derived.Test.YtlldlkjngcgcjaaGreatDoorQ03
import Derived.Test.YtlldlkjngcgcjaaGreatDoorD02
import Derived.Deep.Upon
import Derived.Test.YtlldlkjngcgcjaaGreatDoorQ06
namespace Go.Proofs.YtlldlkjngcgcjaaGreatDoor
set_option linter.unusedVariables false
set_option linter.unusedSimpArgs false
open Go.RowKit
theorem append_full {α : Type} {f : α → List Value} {P : Program} (w : World) (t ty e : TypeId) (i : TypeInfo) (z : Value) (size n m : Nat) (A : Option Addr) (p : List α) (news : List Value) (x : Value) (ht : P.underlying t = some (.slice e)) (hi : P.info? e = some i) (hz : i.zero = some z)
    (hsize : i.size = size) (hzs : z.cells.size = size) (hf : ∀ c, (f c).length = size) (hA : At size f w w.heap.size A p) (hp : p.length = n) (hs : Src P size t x m news w) (hm : 0 < m) (h63 : n + m ≤ maxLen) (hb : (n + m) * i.bytes ≤ 140737488355328) :
    ∃ v' w' cap', (Builtin.append_ #[t, t] ty #[.slice A n n, x]).run P w = .ok v' w' ∧ Below w.heap.size w w' ∧ RowC e size w.heap.size cap' (n + m) (p.flatMap f ++ news) v' w' ∧ cap' ≤ maxLen := by
  subst hsize
  subst hp
  have hnl := hs.newsLen
  have hfl' : (p.flatMap f).length = p.length * i.size := flat_len hf p
  have hold : (Builtin.firstCells i.size p.length (.slice A p.length p.length)).run P w.drew = .ok (p.flatMap f).toArray w.drew := by
    cases A with
    | none =>
      have h0 : p = [] := by
        cases p with
        | nil => rfl
        | cons c r => obtain ⟨b, off, e, -⟩ := hA (by simp); cases e
      subst h0
      simp [Builtin.firstCells, loadCells, loadCellsFrom]
    | some a =>
      refine run_firstCells_some w.drew i.size p.length a p.length p.length (p.flatMap f) hfl' fun j u hu => ?_
      obtain ⟨k, c, r, h1, h2, rfl⟩ := flat_inv hf p j u hu
      obtain ⟨b, off, e, hb, hc⟩ := hA (by have := (List.getElem?_eq_some_iff.1 h1).1; omega)
      cases e
      rw [Addr.add_lit, ← Nat.add_assoc]
      exact hc k c h1 r u h2
  have hrun := run_append_grow_src (P := P) w t t ty e i z ht hi hz A p.length p.length (p.flatMap f) hold x m news hs (by omega) (by simp only [maxLen] at h63; omega) (growslice_fits (by omega) hb)
  have hge := grownCap_ge w (p.length + m) p.length e
  refine ⟨_, _, _, hrun, ((Below.refl w.heap.size w).drew).alloc (Nat.le_refl _) _, ⟨w.heap.size, _, rfl, Nat.le_refl _, hge, Bx.mk w.drew e _, ?_, ?_⟩, grownCap_le_maxLen w (p.length + m) p.length e h63⟩
  · rw [Array.size_append, List.size_toArray, List.length_append, hfl', hnl, size_zeroCells, hzs, ← Nat.add_mul, ← Nat.add_mul]
    congr 1; omega
  · rw [Array.toList_append, List.take_append_of_le_length (by simp [hfl', hnl, Nat.add_mul])]
    rw [List.take_of_length_le (by simp [hfl', hnl, Nat.add_mul])]
theorem wpList_append_full {α : Type} {f : α → List Value} {P : Program} {w : World} {ops : Array Oper} {rest : List Oper} {o : Oper} {a : Act} {Q : Exit → Act → World → Prop} (hgd : o.guard = none) (s y : Operand) (t e : TypeId) (ho : o.op = .call { callee := .builtin .append, args := #[s, y], argTypes := #[t, t] })
    (i : TypeInfo) (z : Value) (size n m : Nat) (A : Option Addr) (p : List α) (news : List Value) (x : Value) (ht : P.underlying t = some (.slice e)) (hi : P.info? e = some i) (hz : i.zero = some z)
    (hsize : i.size = size) (hzs : z.cells.size = size) (hf : ∀ c, (f c).length = size) (hes : a.eval s = .slice A n n) (hey : a.eval y = x) (hA : At size f w w.heap.size A p) (hp : p.length = n) (hs : Src P size t x m news w) (hm : 0 < m) (h63 : n + m ≤ maxLen) (hb : (n + m) * i.bytes ≤ 140737488355328)
    (h : ∀ v' w' cap', Below w.heap.size w w' → RowC e size w.heap.size cap' (n + m) (p.flatMap f ++ news) v' w' → cap' ≤ maxLen → wpList P ops Q rest (a.put o.dst v') w') : wpList P ops Q (o :: rest) a w := by
  obtain ⟨v', w', cap', hr, h1, h2, h3⟩ := append_full (P := P) w t o.type e i z size n m A p news x ht hi hz hsize hzs hf hA hp hs hm h63 hb
  refine wpList_plain hgd fun _ hK => ?_
  unfold Oper.wp execOp
  simp only [ho, resolve, invoke, builtin, Sem.run_bind, Sem.run_pure, Result.andThen_ok, List.map_toArray, List.map_cons, List.map_nil, hes, hey, hr]
  exact hK _ _ (h v' w' cap' h1 h2 h3)
end Go.Proofs.YtlldlkjngcgcjaaGreatDoor
namespace Go.Proofs.YtlldlkjngcgcjaaGreatDoor
set_option linter.unusedVariables false
set_option linter.unusedSimpArgs false
open Go.RowKit Go.Shelf
attribute [local go_sem] Oper.semAt_some
theorem in_cell {zs : List Int} {A : Option Addr} {B : Nat} {w : World} (hA : At 1 inC w B A zs) {k : Nat} (hk : k < zs.length) : ∃ b off x, A = some ⟨b, off, none⟩ ∧ b < B ∧ w.cell? ⟨b, off + k, none⟩ = some (.int .i64 x) := by
  obtain ⟨b, off, rfl, hbB, hcell⟩ := hA (by omega)
  have hck : zs[k]? = some zs[k] := List.getElem?_eq_getElem hk
  have hcl := hcell k _ hck 0 _ rfl
  simp only [Nat.mul_one, Nat.add_zero] at hcl
  exact ⟨b, off, _, rfl, hbB, hcl⟩
def InZ (m : Nat) (v : Value) (W : World) : Prop := ∃ (zs : List Int) (A : Option Addr) (cap : Nat), v = .slice A zs.length cap ∧ At 1 inC W W.heap.size A zs ∧ zs.length ≤ cap ∧ cap ≤ maxLen ∧ zs.length ≤ m
def OneI (B : Nat) (n : Int) : Value → World → Prop := fun v w => ∃ g, v = .slice (some ⟨g, 0, none⟩) 1 1 ∧ B ≤ g ∧ Bx w g 3 #[.int .i64 n]
theorem stab_OneI (B : Nat) (n : Int) : Stab (OneI B n) := fun v w w' ⟨g, h1, h2, h3⟩ h => ⟨g, h1, h2, h3.call h⟩
theorem inC1 (c : Int) : ∀ u ∈ inC c, u.oneCell' = true := fun u hu => by
  simp only [inC, List.mem_singleton] at hu
  subst hu; rfl
theorem fmI_one (L : List Int) : ∀ u ∈ L.flatMap inC, u.oneCell' = true := fun u hu => by
  obtain ⟨d, -, h3⟩ := List.mem_flatMap.1 hu
  exact inC1 d u h3
theorem at_takeI {zs : List Int} {A : Option Addr} {B k : Nat} {w : World} (h : At 1 inC w B A zs) : At 1 inC w B A (zs.take k) := fun h0 => by
  rw [List.length_take] at h0
  obtain ⟨b, off, e, hb, hc⟩ := h (by omega)
  refine ⟨b, off, e, hb, fun i c hi j u hj => hc i c ?_ j u hj⟩
  rw [List.getElem?_take] at hi
  split at hi
  · exact hi
  · cases hi
theorem at_dropI {zs : List Int} {b off B k : Nat} {w : World} (h : At 1 inC w B (some ⟨b, off, none⟩) zs) : At 1 inC w B (some ⟨b, off + k, none⟩) (zs.drop k) := fun h0 => by
  rw [List.length_drop] at h0
  obtain ⟨b', off', e, hb, hc⟩ := h (by omega)
  simp only [Option.some.injEq, Addr.mk.injEq, and_true] at e
  obtain ⟨rfl, rfl⟩ := e
  refine ⟨_, _, rfl, hb, fun i c hi j u hj => ?_⟩
  rw [List.getElem?_drop] at hi
  have := hc (k + i) c hi j u hj
  rw [← this]
  congr 2; omega
theorem wpList_app0 {P : Program} {w w' : World} {ops : Array Oper} {rest : List Oper} {o : Oper} {a : Act} {v' : Value} {Q : Exit → Act → World → Prop} (hgd : o.guard = none) (s y : Operand) (t : TypeId) (ho : o.op = .call { callee := .builtin .append, args := #[s, y], argTypes := #[t, t] })
    (vs vy : Value) (hes : a.eval s = vs) (hey : a.eval y = vy) (hr : (Builtin.append_ #[t, t] o.type #[vs, vy]).run P w = .ok v' w') (h : wpList P ops Q rest (a.put o.dst v') w') : wpList P ops Q (o :: rest) a w := by
  refine wpList_plain hgd fun _ hK => ?_
  unfold Oper.wp execOp
  simp only [ho, resolve, invoke, builtin, Sem.run_bind, Sem.run_pure, Result.andThen_ok, List.map_toArray, List.map_cons, List.map_nil, hes, hey, hr]
  exact hK _ _ h
set_option maxRecDepth 100000 in
set_option maxHeartbeats 4000000 in
theorem r13put_any (m : Nat) (hm : m ≤ 1000) (zs : List Int) (A : Option Addr) (cap : Nat) (n : Int) (w : World) (hA : At 1 inC w w.heap.size A zs) (hn : zs.length ≤ cap) (hcm : cap ≤ maxLen) (hl : zs.length ≤ m) :
    Calls Tryz.prog 147 #[.slice A zs.length cap, .int .i64 n] w fun e w' => ∃ v, e = .returned v ∧ Below w.heap.size w w' ∧ InZ (m + 1) v w' := by
  go_enter Tryz.func147, Tryz.ntmps147
  go_wp2
  go_loopw [5] (fun s5 wr => ∃ (k : Nat), k ≤ zs.length ∧ s5 = .int .i64 k ∧ wr = w) (fun s5 _ => zs.length - (intOf s5).toNat)
  case atStart => exact ⟨0, Nat.zero_le _, rfl, rfl⟩
  case round =>
    obtain ⟨k, hk, rfl, rfl⟩ := hrel
    by_cases hlt : k < zs.length
    · obtain ⟨b, off, x, rfl, hbB, c0⟩ := in_cell hA hlt
      have hck : Kp (InZ (m + 1) (.slice (some ⟨b, off, none⟩) zs.length cap) wr) := ⟨⟨zs, _, cap, rfl, hA, hn, hcm, by omega⟩⟩
      by_cases q1 : x < n
      · clear hA
        go_wp2
        exact ⟨⟨k + 1, by omega, by go_num, trivial⟩, by simp [intOf]; omega⟩
      · by_cases q2 : x = n
        · subst q2
          clear hA q1
          have t2 : decide (x < x) = false := by simp
          go_wp2
          go_ret
          exact ⟨_, rfl, Below.refl _ _, hck.out⟩
        · clear hck
          have t2 : (x == n) = false := by simpa using q2
          go_upto_region 6 with fail
          clear c0 q1 q2 t2
          refine wp_region_rgl [Eqv (.slice (some ⟨b, off, none⟩) zs.length cap), Eqv (.int .i64 k), Eqv (.int .i64 k), Eqv (.slice (some ⟨b, off, none⟩) k k), Eqv (.int .i64 n), OneI wr.heap.size n, Eqv (.slice (some ⟨b, off, none⟩) zs.length cap), Eqv (.int .i64 k), Eqv (.slice (some ⟨b, off + k, none⟩) (zs.length - k) (cap - k)), (fun v W => ∃ c, RowC 3 1 wr.heap.size c (1 + (zs.length - k)) ([n] ++ zs.drop k |>.flatMap inC) v W ∧ c ≤ maxLen)] 10 44 (by kernel_rfl) rfl rfl (by kernel_rfl) ?_ ?_ ?_
          · simp only [AllS]
            exact ⟨stab_eqv _, stab_eqv _, stab_eqv _, stab_eqv _, stab_eqv _, stab_OneI _ _, stab_eqv _, stab_eqv _, stab_eqv _, fun v w w' ⟨c, h, h2⟩ hb => ⟨c, stab_rowC _ _ _ _ _ _ _ _ _ h hb, h2⟩, trivial⟩
          · simp only [Users, List.take, List.length]
            refine ⟨?_, ?_, ?_, ?_, ?_, ?_, ?_, ?_, ?_, ?_, trivial⟩
            all_goals (intro vs w3 hb2 hd; simp only [putD, Act.put, List.nil_append, List.cons_append, List.setIfInBounds_toArray, List.set_cons_succ, List.set_cons_zero, Nat.reduceAdd])
            · clear hd hA
              go_wp2
              first | exact ⟨Below.refl _ _, rfl⟩ | exact rfl | exact ⟨rfl, rfl⟩
            · clear hd hA
              go_wp2
              first | exact ⟨Below.refl _ _, rfl⟩ | exact rfl | exact ⟨rfl, rfl⟩
            · clear hd hA
              go_wp2
              first | exact ⟨Below.refl _ _, rfl⟩ | exact rfl | exact ⟨rfl, rfl⟩
            · have e0 : vs 0 = _ := hd 0 rfl
              have e1 : vs 1 = _ := hd 1 rfl
              have e2 : vs 2 = _ := hd 2 rfl
              clear hd hA
              rw [e0, e1, e2]
              go_wp2
              first | exact ⟨Below.refl _ _, rfl⟩ | exact rfl | exact ⟨rfl, rfl⟩
            · clear hd hA
              go_wp2
              first | exact ⟨Below.refl _ _, rfl⟩ | exact rfl | exact ⟨rfl, rfl⟩
            · have e4 : vs 4 = _ := hd 4 rfl
              have hsz := hb2.size
              clear hd hA
              rw [e4]
              go_wp2
              exact ⟨bNew (Below.refl _ _) _, _, rfl, hsz, Bx.mk w3 _ _⟩
            · clear hd hA
              go_wp2
              first | exact ⟨Below.refl _ _, rfl⟩ | exact rfl | exact ⟨rfl, rfl⟩
            · clear hd hA
              go_wp2
              first | exact ⟨Below.refl _ _, rfl⟩ | exact rfl | exact ⟨rfl, rfl⟩
            · have e6 : vs 6 = _ := hd 6 rfl
              have e7 : vs 7 = _ := hd 7 rfl
              clear hd hA
              rw [e6, e7]
              go_wp2
              first | exact ⟨Below.refl _ _, rfl⟩ | exact rfl | exact ⟨rfl, rfl⟩
            · have e5 : OneI wr.heap.size n (vs 5) w3 := hd 5 rfl
              have e8 : vs 8 = _ := hd 8 rfl
              have hA3 : At 1 inC w3 w3.heap.size (some ⟨b, off, none⟩) zs := (hA.below hb2).more hb2.size
              have hD := at_dropI (k := k) hA3
              have hsz := hb2.size
              obtain ⟨g, e5, hg, hB⟩ := e5
              have hP : At 1 inC w3 w3.heap.size (some ⟨g, 0, none⟩) [n] := fun _ => ⟨g, 0, rfl, hB.lt, fun i c hi j u hj => by
                have hi0 : i = 0 := by have := (List.getElem?_eq_some_iff.1 hi).1; simp at this; exact this
                subst hi0
                simp only [List.getElem?_cons_zero, Option.some.injEq] at hi
                subst hi
                have hj0 : j = 0 := by have := (List.getElem?_eq_some_iff.1 hj).1; simp [inC] at this; exact this
                subst hj0
                simp only [inC, List.getElem?_cons_zero, Option.some.injEq] at hj
                subst hj
                exact hB.cell 0 rfl⟩
              have hsrc : Src Tryz.prog 1 43 (.slice (some ⟨b, off + k, none⟩) (zs.length - k) (cap - k)) (zs.length - k) ((zs.drop k).flatMap inC) w3 := by
                have := At.src (P := Tryz.prog) (t := 43) (e := 3) (size := 1) (f := inC) (fun _ => rfl) inC1 Tryz.underlying43 hD (cap - k)
                rwa [List.length_drop] at this
              obtain ⟨ti, tz, hti, hzz, hs1, hz1, hby⟩ := intI
              clear hd hA hA3 hD hB
              rw [e5, e8]
              at_builtin
              refine wpList_append_full rfl (.tmp 38) (.tmp 41) 43 3 rfl ti tz 1 1 (zs.length - k) (some ⟨g, 0, none⟩) [n] ((zs.drop k).flatMap inC) (.slice (some ⟨b, off + k, none⟩) (zs.length - k) (cap - k)) Tryz.underlying43 hti hzz hs1 hz1 (fun _ => rfl) rfl rfl hP rfl hsrc (by omega) (by unfold maxLen; omega) (by rw [hby]; omega) ?_
              intro v' w2 c' q1 q2 q3
              have key : ∃ c, RowC 3 1 wr.heap.size c (1 + (zs.length - k)) ([n] ++ zs.drop k |>.flatMap inC) v' w2 ∧ c ≤ maxLen := by
                obtain ⟨g2, cells, h1, h2, h3, h4, h5, h6⟩ := q2
                exact ⟨c', ⟨g2, cells, h1, by omega, h3, h4, h5, by rw [h6, List.flatMap_append]⟩, q3⟩
              clear q2 q3
              go_wp2
              first | exact ⟨q1, key⟩ | exact key
          · intro vs wa hba hR2
            simp only [AllR, Eqv] at hR2
            obtain ⟨-, -, -, e3, -, -, -, -, -, ⟨c9, e9, hc9⟩, -⟩ := hR2
            simp only [List.drop, List.take, List.map, putD, Act.put, List.setIfInBounds_toArray, List.set_cons_succ, List.set_cons_zero, Nat.reduceAdd]
            have hA3 : At 1 inC wa wa.heap.size (some ⟨b, off, none⟩) (zs.take k) := at_takeI ((hA.below hba).more hba.size)
            have hsz := hba.size
            have hsrc : Src Tryz.prog 1 43 (vs 9) (1 + (zs.length - k)) (([n] ++ zs.drop k).flatMap inC) wa := RowC.src (fmI_one _) Tryz.underlying43 e9
            obtain ⟨ti, tz, hti, hzz, hs1, hz1, hby⟩ := intI
            have hlk : (zs.take k).length = k := by rw [List.length_take]; omega
            rw [e3]
            clear e9 e3 hA
            go_wp2_with (at_builtin; refine wpList_append_full rfl (.tmp 36) (.tmp 42) 43 3 rfl ti tz 1 k (1 + (zs.length - k)) (some ⟨b, off, none⟩) (zs.take k) (([n] ++ zs.drop k).flatMap inC) (vs 9) Tryz.underlying43 hti hzz hs1 hz1 (fun _ => rfl) rfl rfl hA3 hlk hsrc (by omega) (by unfold maxLen; omega) (by rw [hby]; omega) ?_; intro v' w2 c' q1 q2 q3; replace q1 := Kp.mk q1; replace q2 := Kp.mk q2; replace q3 := Kp.mk q3)
            go_ret
            refine ⟨_, rfl, hba.trans (q1.out.mono hsz), zs.take k ++ ([n] ++ zs.drop k), ?_⟩
            have hL : (zs.take k ++ ([n] ++ zs.drop k)).length = k + (1 + (zs.length - k)) := by simp only [List.length_append, List.length_take, List.length_drop, List.length_singleton]; omega
            have hq : RowC 3 1 wa.heap.size c' (zs.take k ++ ([n] ++ zs.drop k)).length ((zs.take k ++ ([n] ++ zs.drop k)).flatMap inC) v' w2 := by rw [hL, List.flatMap_append]; exact q2.out
            obtain ⟨A9, e1, e2, e3⟩ := RowC.at (f := inC) (fun _ => rfl) hq
            exact ⟨A9, c', e1, e2, e3, q3.out, by rw [hL]; omega⟩
    · obtain rfl : k = zs.length := by omega
      cases A with
      | none =>
        go_upto_region 6 with fail
        refine wp_region_rgl [Eqv (.slice none zs.length cap), Eqv (.int .i64 zs.length), Eqv (.int .i64 zs.length), Eqv (.slice none zs.length zs.length), Eqv (.int .i64 n), OneI wr.heap.size n, Eqv (.slice none zs.length cap), Eqv (.int .i64 zs.length), (fun v W => ∃ A2 c2, v = .slice A2 0 c2), OneI wr.heap.size n] 10 44 (by kernel_rfl) rfl rfl (by kernel_rfl) ?_ ?_ ?_
        · simp only [AllS]
          exact ⟨stab_eqv _, stab_eqv _, stab_eqv _, stab_eqv _, stab_eqv _, stab_OneI _ _, stab_eqv _, stab_eqv _, fun v w w' h hb => h, stab_OneI _ _, trivial⟩
        · simp only [Users, List.take, List.length]
          refine ⟨?_, ?_, ?_, ?_, ?_, ?_, ?_, ?_, ?_, ?_, trivial⟩
          all_goals (intro vs w3 hb2 hd; simp only [putD, Act.put, List.nil_append, List.cons_append, List.setIfInBounds_toArray, List.set_cons_succ, List.set_cons_zero, Nat.reduceAdd])
          · clear hd hA
            go_wp2
            first | exact ⟨Below.refl _ _, rfl⟩ | exact rfl | exact ⟨rfl, rfl⟩
          · clear hd hA
            go_wp2
            first | exact ⟨Below.refl _ _, rfl⟩ | exact rfl | exact ⟨rfl, rfl⟩
          · clear hd hA
            go_wp2
            first | exact ⟨Below.refl _ _, rfl⟩ | exact rfl | exact ⟨rfl, rfl⟩
          · have e0 : vs 0 = _ := hd 0 rfl
            have e1 : vs 1 = _ := hd 1 rfl
            have e2 : vs 2 = _ := hd 2 rfl
            clear hd hA
            rw [e0, e1, e2]
            go_wp2
            first | exact ⟨Below.refl _ _, rfl⟩ | exact rfl | exact ⟨rfl, rfl⟩
          · clear hd hA
            go_wp2
            first | exact ⟨Below.refl _ _, rfl⟩ | exact rfl | exact ⟨rfl, rfl⟩
          · have e4 : vs 4 = _ := hd 4 rfl
            have hsz := hb2.size
            clear hd hA
            rw [e4]
            go_wp2
            exact ⟨bNew (Below.refl _ _) _, _, rfl, hsz, Bx.mk w3 _ _⟩
          · clear hd hA
            go_wp2
            first | exact ⟨Below.refl _ _, rfl⟩ | exact rfl | exact ⟨rfl, rfl⟩
          · clear hd hA
            go_wp2
            first | exact ⟨Below.refl _ _, rfl⟩ | exact rfl | exact ⟨rfl, rfl⟩
          · have e6 : vs 6 = _ := hd 6 rfl
            have e7 : vs 7 = _ := hd 7 rfl
            clear hd hA
            rw [e6, e7]
            go_wp2
            all_goals first | exact ⟨Below.refl _ _, _, _, rfl⟩ | exact ⟨_, _, rfl⟩
          · have e5 : OneI wr.heap.size n (vs 5) w3 := hd 5 rfl
            have e8 : ∃ A2 c2, vs 8 = .slice A2 0 c2 := hd 8 rfl
            obtain ⟨A2, c2, e8⟩ := e8
            obtain ⟨g, e5, hg, hB⟩ := e5
            have hsrc : Src Tryz.prog 1 43 (.slice A2 0 c2) 0 [] w3 := At.src (P := Tryz.prog) (t := 43) (e := 3) (size := 1) (f := inC) (fun _ => rfl) inC1 Tryz.underlying43 (B := w3.heap.size) (A := A2) (p := []) (fun h => absurd h (by simp)) c2
            obtain ⟨ti, tz, hti, hzz, hs1, hz1, hby⟩ := intI
            clear hd hA
            rw [e5, e8]
            have hr := run_append_nothing (P := Tryz.prog) w3 43 43 43 3 ti Tryz.underlying43 hti (some ⟨g, 0, none⟩) 1 1 (Nat.le_refl _) (.slice A2 0 c2) (by rw [hs1]; exact hsrc)
            at_builtin
            refine wpList_app0 rfl (.tmp 38) (.tmp 41) 43 rfl (.slice (some ⟨g, 0, none⟩) 1 1) (.slice A2 0 c2) rfl rfl hr ?_
            clear hr hsrc
            go_wp2
            first | exact ⟨Below.refl _ _, g, rfl, hg, hB⟩ | exact ⟨g, rfl, hg, hB⟩
        · intro vs wa hba hR2
          simp only [AllR, Eqv] at hR2
          obtain ⟨-, -, -, e3, -, -, -, -, -, ⟨g9, e9, hg9, hB9⟩, -⟩ := hR2
          simp only [List.drop, List.take, List.map, putD, Act.put, List.setIfInBounds_toArray, List.set_cons_succ, List.set_cons_zero, Nat.reduceAdd]
          have hA3 : At 1 inC wa wa.heap.size none zs := (hA.below hba).more hba.size
          have hsz := hba.size
          have hsrc : Src Tryz.prog 1 43 (.slice (some ⟨g9, 0, none⟩) 1 1) 1 (inC n) wa := RowC.src (P := Tryz.prog) (B := 0) (cap := 1) (e := 3) (t := 43) (inC1 _) Tryz.underlying43 ⟨g9, _, rfl, Nat.zero_le _, Nat.le_refl _, hB9, rfl, rfl⟩
          obtain ⟨ti, tz, hti, hzz, hs1, hz1, hby⟩ := intI
          rw [e3, e9]
          clear e9 e3 hA
          go_wp2_with (at_builtin; refine wpList_append_full rfl (.tmp 36) (.tmp 42) 43 3 rfl ti tz 1 zs.length 1 none zs (inC n) (.slice (some ⟨g9, 0, none⟩) 1 1) Tryz.underlying43 hti hzz hs1 hz1 (fun _ => rfl) rfl rfl hA3 rfl hsrc (by omega) (by unfold maxLen; omega) (by rw [hby]; omega) ?_; intro v' w2 c' q1 q2 q3; replace q1 := Kp.mk q1; replace q2 := Kp.mk q2; replace q3 := Kp.mk q3)
          go_ret
          refine ⟨_, rfl, hba.trans (q1.out.mono hsz), zs ++ [n], ?_⟩
          have hL : (zs ++ [n]).length = zs.length + 1 := by simp
          have hq : RowC 3 1 wa.heap.size c' (zs ++ [n]).length ((zs ++ [n]).flatMap inC) v' w2 := by rw [hL, List.flatMap_append, List.flatMap_singleton]; exact q2.out
          obtain ⟨A9, e1, e2, e3⟩ := RowC.at (f := inC) (fun _ => rfl) hq
          exact ⟨A9, c', e1, e2, e3, q3.out, by rw [hL]; omega⟩
      | some a =>
        go_upto_region 6 with fail
        refine wp_region_rgl [Eqv (.slice (some a) zs.length cap), Eqv (.int .i64 zs.length), Eqv (.int .i64 zs.length), Eqv (.slice (some a) zs.length zs.length), Eqv (.int .i64 n), OneI wr.heap.size n, Eqv (.slice (some a) zs.length cap), Eqv (.int .i64 zs.length), (fun v W => ∃ A2 c2, v = .slice A2 0 c2), OneI wr.heap.size n] 10 44 (by kernel_rfl) rfl rfl (by kernel_rfl) ?_ ?_ ?_
        · simp only [AllS]
          exact ⟨stab_eqv _, stab_eqv _, stab_eqv _, stab_eqv _, stab_eqv _, stab_OneI _ _, stab_eqv _, stab_eqv _, fun v w w' h hb => h, stab_OneI _ _, trivial⟩
        · simp only [Users, List.take, List.length]
          refine ⟨?_, ?_, ?_, ?_, ?_, ?_, ?_, ?_, ?_, ?_, trivial⟩
          all_goals (intro vs w3 hb2 hd; simp only [putD, Act.put, List.nil_append, List.cons_append, List.setIfInBounds_toArray, List.set_cons_succ, List.set_cons_zero, Nat.reduceAdd])
          · clear hd hA
            go_wp2
            first | exact ⟨Below.refl _ _, rfl⟩ | exact rfl | exact ⟨rfl, rfl⟩
          · clear hd hA
            go_wp2
            first | exact ⟨Below.refl _ _, rfl⟩ | exact rfl | exact ⟨rfl, rfl⟩
          · clear hd hA
            go_wp2
            first | exact ⟨Below.refl _ _, rfl⟩ | exact rfl | exact ⟨rfl, rfl⟩
          · have e0 : vs 0 = _ := hd 0 rfl
            have e1 : vs 1 = _ := hd 1 rfl
            have e2 : vs 2 = _ := hd 2 rfl
            clear hd hA
            rw [e0, e1, e2]
            go_wp2
            first | exact ⟨Below.refl _ _, rfl⟩ | exact rfl | exact ⟨rfl, rfl⟩
          · clear hd hA
            go_wp2
            first | exact ⟨Below.refl _ _, rfl⟩ | exact rfl | exact ⟨rfl, rfl⟩
          · have e4 : vs 4 = _ := hd 4 rfl
            have hsz := hb2.size
            clear hd hA
            rw [e4]
            go_wp2
            exact ⟨bNew (Below.refl _ _) _, _, rfl, hsz, Bx.mk w3 _ _⟩
          · clear hd hA
            go_wp2
            first | exact ⟨Below.refl _ _, rfl⟩ | exact rfl | exact ⟨rfl, rfl⟩
          · clear hd hA
            go_wp2
            first | exact ⟨Below.refl _ _, rfl⟩ | exact rfl | exact ⟨rfl, rfl⟩
          · have e6 : vs 6 = _ := hd 6 rfl
            have e7 : vs 7 = _ := hd 7 rfl
            clear hd hA
            rw [e6, e7]
            go_wp2
            all_goals first | exact ⟨Below.refl _ _, _, _, rfl⟩ | exact ⟨_, _, rfl⟩
          · have e5 : OneI wr.heap.size n (vs 5) w3 := hd 5 rfl
            have e8 : ∃ A2 c2, vs 8 = .slice A2 0 c2 := hd 8 rfl
            obtain ⟨A2, c2, e8⟩ := e8
            obtain ⟨g, e5, hg, hB⟩ := e5
            have hsrc : Src Tryz.prog 1 43 (.slice A2 0 c2) 0 [] w3 := At.src (P := Tryz.prog) (t := 43) (e := 3) (size := 1) (f := inC) (fun _ => rfl) inC1 Tryz.underlying43 (B := w3.heap.size) (A := A2) (p := []) (fun h => absurd h (by simp)) c2
            obtain ⟨ti, tz, hti, hzz, hs1, hz1, hby⟩ := intI
            clear hd hA
            rw [e5, e8]
            have hr := run_append_nothing (P := Tryz.prog) w3 43 43 43 3 ti Tryz.underlying43 hti (some ⟨g, 0, none⟩) 1 1 (Nat.le_refl _) (.slice A2 0 c2) (by rw [hs1]; exact hsrc)
            at_builtin
            refine wpList_app0 rfl (.tmp 38) (.tmp 41) 43 rfl (.slice (some ⟨g, 0, none⟩) 1 1) (.slice A2 0 c2) rfl rfl hr ?_
            clear hr hsrc
            go_wp2
            first | exact ⟨Below.refl _ _, g, rfl, hg, hB⟩ | exact ⟨g, rfl, hg, hB⟩
        · intro vs wa hba hR2
          simp only [AllR, Eqv] at hR2
          obtain ⟨-, -, -, e3, -, -, -, -, -, ⟨g9, e9, hg9, hB9⟩, -⟩ := hR2
          simp only [List.drop, List.take, List.map, putD, Act.put, List.setIfInBounds_toArray, List.set_cons_succ, List.set_cons_zero, Nat.reduceAdd]
          have hA3 : At 1 inC wa wa.heap.size (some a) zs := (hA.below hba).more hba.size
          have hsz := hba.size
          have hsrc : Src Tryz.prog 1 43 (.slice (some ⟨g9, 0, none⟩) 1 1) 1 (inC n) wa := RowC.src (P := Tryz.prog) (B := 0) (cap := 1) (e := 3) (t := 43) (inC1 _) Tryz.underlying43 ⟨g9, _, rfl, Nat.zero_le _, Nat.le_refl _, hB9, rfl, rfl⟩
          obtain ⟨ti, tz, hti, hzz, hs1, hz1, hby⟩ := intI
          rw [e3, e9]
          clear e9 e3 hA
          go_wp2_with (at_builtin; refine wpList_append_full rfl (.tmp 36) (.tmp 42) 43 3 rfl ti tz 1 zs.length 1 (some a) zs (inC n) (.slice (some ⟨g9, 0, none⟩) 1 1) Tryz.underlying43 hti hzz hs1 hz1 (fun _ => rfl) rfl rfl hA3 rfl hsrc (by omega) (by unfold maxLen; omega) (by rw [hby]; omega) ?_; intro v' w2 c' q1 q2 q3; replace q1 := Kp.mk q1; replace q2 := Kp.mk q2; replace q3 := Kp.mk q3)
          go_ret
          refine ⟨_, rfl, hba.trans (q1.out.mono hsz), zs ++ [n], ?_⟩
          have hL : (zs ++ [n]).length = zs.length + 1 := by simp
          have hq : RowC 3 1 wa.heap.size c' (zs ++ [n]).length ((zs ++ [n]).flatMap inC) v' w2 := by rw [hL, List.flatMap_append, List.flatMap_singleton]; exact q2.out
          obtain ⟨A9, e1, e2, e3⟩ := RowC.at (f := inC) (fun _ => rfl) hq
          exact ⟨A9, c', e1, e2, e3, q3.out, by rw [hL]; omega⟩
end Go.Proofs.YtlldlkjngcgcjaaGreatDoor
namespace Go.Proofs.YtlldlkjngcgcjaaGreatDoor
set_option linter.unusedVariables false
set_option linter.unusedSimpArgs false
open Go.RowKit Go.Shelf
attribute [local go_sem] Oper.semAt_some
theorem InZ.call {m : Nat} {v : Value} {w w' : World} (h : InZ m v w) (hb : Below w.heap.size w w') : InZ m v w' := by
  obtain ⟨zs, A, cap, e, h1, h2, h3, h4⟩ := h
  exact ⟨zs, A, cap, e, (h1.below hb).more hb.size, h2, h3, h4⟩
theorem stab_InZ (m : Nat) : Stab (InZ m) := fun v w w' h hb => h.call hb
theorem put_inz (m : Nat) (hm : m ≤ 1000) (v : Value) (n : Int) (w : World) (h : InZ m v w) :
    Calls Tryz.prog 147 #[v, .int .i64 n] w fun e w' => ∃ v', e = .returned v' ∧ Below w.heap.size w w' ∧ InZ (m + 1) v' w' := by
  obtain ⟨zs, A, cap, rfl, h1, h2, h3, h4⟩ := h
  exact r13put_any m hm zs A cap n w h1 h2 h3 h4
theorem inz_two (w : World) (x y : Int) : InZ 2 (.slice (some ⟨w.heap.size, 0, none⟩) 2 2) (w.alloc (.cells #[.int .i64 x, .int .i64 y] 3)) := by
  have B := Bx.mk w 3 #[.int .i64 x, .int .i64 y]
  have hr : RowC 3 1 0 2 [x, y].length ([x, y].flatMap inC) (.slice (some ⟨w.heap.size, 0, none⟩) 2 2) (w.alloc (.cells #[.int .i64 x, .int .i64 y] 3)) := ⟨_, _, rfl, Nat.zero_le _, Nat.le_refl _, B, rfl, rfl⟩
  obtain ⟨A, e1, e2, e3⟩ := RowC.at (f := inC) (fun _ => rfl) hr
  exact ⟨[x, y], A, 2, e1, e2, e3, by decide, Nat.le_refl _⟩
set_option maxRecDepth 100000 in
set_option maxHeartbeats 4000000 in
theorem r13edges_any (la lb : List Blk3) (A B : Option Addr) (ca cb g : Nat) (w : World) (hA : At 3 blC w g A la) (hB : At 3 blC w g B lb) (hgw : w.heap.size = g) (hna : la.length ≤ ca) (hnb : lb.length ≤ cb) (hla : la.length ≤ 40) (hlb : lb.length ≤ 40) :
    Calls Tryz.prog 111 #[.slice A la.length ca, .slice B lb.length cb] w fun e w' => ∃ v, e = .returned v ∧ Below g w w' ∧ InZ 162 v w' := by
  go_enter Tryz.func111, Tryz.ntmps111
  have hb0 := bNx w (.cells #[.int .i64 0, .int .i64 100000000] 3)
  have hz0 := inz_two w 0 100000000
  rw [hgw] at hb0
  simp only [hgw] at hz0
  go_wp2
  go_loopw [6, 5] (fun s6 s5 wr => ∃ (k : Nat), k ≤ la.length ∧ s6 = .int .i64 k ∧ Below g w wr ∧ InZ (2 + 2 * k) s5 wr) (fun s6 _ _ => la.length - (intOf s6).toNat)
  case atStart => exact ⟨0, Nat.zero_le _, rfl, hb0, hz0⟩
  case round =>
    obtain ⟨k, hk, rfl, hb, hz⟩ := hrel
    by_cases hlt : k < la.length
    · have hA' := hA.below hb
      obtain ⟨b, off, f, t, c, rfl, hbB, c0, c1, -⟩ := bl_cell hA' hlt
      have hgr : g ≤ wr.heap.size := by rw [← hgw]; exact hb.size
      have hp1 := fun (v : Value) (w0 : World) (h : InZ (2 + 2 * k) v w0) => put_inz (2 + 2 * k) (by omega) v f w0 h
      have hp2 := fun (v : Value) (w0 : World) (h : InZ (2 + 2 * k + 1) v w0) => put_inz (2 + 2 * k + 1) (by omega) v t w0 h
      have hbw : b < wr.heap.size := by omega
      clear hA' hA hB
      go_upto_region 5 with fail
      refine wp_region_rgl [(fun v W => InZ (2 + 2 * k) v W), Eqv (.slice (some ⟨b, off, none⟩) la.length ca), Eqv (.int .i64 k), Eqv (.pointer (some ⟨b, off + k * 3, none⟩)), Eqv (.pointer (some ⟨b, off + k * 3, none⟩)), Eqv (.pointer (some ⟨b, off + k * 3, none⟩)), Eqv (.int .i64 f), (fun v W => InZ (2 + 2 * k + 1) v W), Eqv (.slice (some ⟨b, off, none⟩) la.length ca), Eqv (.int .i64 k), Eqv (.pointer (some ⟨b, off + k * 3, none⟩)), Eqv (.pointer (some ⟨b, off + k * 3, none⟩)), Eqv (.pointer (some ⟨b, off + k * 3 + 1, none⟩)), Eqv (.int .i64 t), (fun v W => InZ (2 + 2 * k + 2) v W)] 15 52 (by kernel_rfl) rfl rfl (by kernel_rfl) ?_ ?_ ?_
      · simp only [AllS]
        exact ⟨stab_InZ _, stab_eqv _, stab_eqv _, stab_eqv _, stab_eqv _, stab_eqv _, stab_eqv _, stab_InZ _, stab_eqv _, stab_eqv _, stab_eqv _, stab_eqv _, stab_eqv _, stab_eqv _, stab_InZ _, trivial⟩
      · simp only [Users, List.take, List.length]
        refine ⟨?_, ?_, ?_, ?_, ?_, ?_, ?_, ?_, ?_, ?_, ?_, ?_, ?_, ?_, ?_, trivial⟩
        all_goals (intro vs w3 hb2 hd; simp only [putD, Act.put, List.nil_append, List.cons_append, List.setIfInBounds_toArray, List.set_cons_succ, List.set_cons_zero, Nat.reduceAdd])
        · have hz3 := hz.call hb2
          clear hd hp1 hp2 c0 c1
          go_wp2
          first | exact ⟨Below.refl _ _, hz3⟩ | exact hz3 | trivial
        · clear hd hz hp1 hp2 c0 c1
          go_wp2
          first | exact ⟨Below.refl _ _, rfl⟩ | exact rfl | exact ⟨rfl, rfl⟩
        · clear hd hz hp1 hp2 c0 c1
          go_wp2
          first | exact ⟨Below.refl _ _, rfl⟩ | exact rfl | exact ⟨rfl, rfl⟩
        · have e1 : vs 1 = _ := hd 1 rfl
          have e2 : vs 2 = _ := hd 2 rfl
          clear hd hz hp1 hp2 c0 c1
          rw [e1, e2]
          go_wp2
          first | exact ⟨Below.refl _ _, rfl⟩ | exact rfl | exact ⟨rfl, rfl⟩
        · have e3 : vs 3 = _ := hd 3 rfl
          clear hd hz hp1 hp2 c0 c1
          rw [e3]
          go_wp2
          first | exact ⟨Below.refl _ _, rfl⟩ | exact rfl | exact ⟨rfl, rfl⟩
        · have e4 : vs 4 = _ := hd 4 rfl
          clear hd hz hp1 hp2 c0 c1
          rw [e4]
          go_wp2
          first | exact ⟨Below.refl _ _, rfl⟩ | exact rfl | exact ⟨rfl, rfl⟩
        · have e5 : vs 5 = _ := hd 5 rfl
          have x0 := (hb2.cell (p := ⟨b, _, none⟩) hbw).trans c0
          clear hd hz hp1 hp2 c0 c1
          rw [e5]
          go_wp2
          first | exact ⟨Below.refl _ _, rfl⟩ | exact rfl | exact ⟨rfl, rfl⟩
        · have e0 : InZ (2 + 2 * k) (vs 0) w3 := hd 0 rfl
          have e6 : vs 6 = _ := hd 6 rfl
          have hc := hp1 _ w3 e0
          clear hd hz hp1 hp2 c0 c1 e0
          rw [e6]
          go_wp2_with fail
          refine hc.mono ?_
          rintro _ w4 ⟨v4, rfl, hb4, hz4⟩
          go_wp2
          first | exact ⟨hb4, hz4⟩ | exact hz4
        · clear hd hz hp1 hp2 c0 c1
          go_wp2
          first | exact ⟨Below.refl _ _, rfl⟩ | exact rfl | exact ⟨rfl, rfl⟩
        · clear hd hz hp1 hp2 c0 c1
          go_wp2
          first | exact ⟨Below.refl _ _, rfl⟩ | exact rfl | exact ⟨rfl, rfl⟩
        · have e8 : vs 8 = _ := hd 8 rfl
          have e9 : vs 9 = _ := hd 9 rfl
          clear hd hz hp1 hp2 c0 c1
          rw [e8, e9]
          go_wp2
          first | exact ⟨Below.refl _ _, rfl⟩ | exact rfl | exact ⟨rfl, rfl⟩
        · have e10 : vs 10 = _ := hd 10 rfl
          clear hd hz hp1 hp2 c0 c1
          rw [e10]
          go_wp2
          first | exact ⟨Below.refl _ _, rfl⟩ | exact rfl | exact ⟨rfl, rfl⟩
        · have e11 : vs 11 = _ := hd 11 rfl
          clear hd hz hp1 hp2 c0 c1
          rw [e11]
          go_wp2
          first | exact ⟨Below.refl _ _, rfl⟩ | exact rfl | exact ⟨rfl, rfl⟩
        · have e12 : vs 12 = _ := hd 12 rfl
          have x0 := (hb2.cell (p := ⟨b, _, none⟩) hbw).trans c1
          clear hd hz hp1 hp2 c0 c1
          rw [e12]
          go_wp2
          first | exact ⟨Below.refl _ _, rfl⟩ | exact rfl | exact ⟨rfl, rfl⟩
        · have e0 : InZ (2 + 2 * k + 1) (vs 7) w3 := hd 7 rfl
          have e6 : vs 13 = _ := hd 13 rfl
          have hc := hp2 _ w3 e0
          clear hd hz hp1 hp2 c0 c1 e0
          rw [e6]
          go_wp2_with fail
          refine hc.mono ?_
          rintro _ w4 ⟨v4, rfl, hb4, hz4⟩
          go_wp2
          first | exact ⟨hb4, hz4⟩ | exact hz4
      · intro vs wa hba hR2
        simp only [AllR, Eqv] at hR2
        obtain ⟨-, -, -, -, -, -, -, -, -, -, -, -, -, -, hz9, -⟩ := hR2
        simp only [List.drop, List.take, List.map, putD, Act.put, List.setIfInBounds_toArray, List.set_cons_succ, List.set_cons_zero, Nat.reduceAdd]
        have hb9 := hb.trans (hba.mono hgr)
        clear hz hp1 hp2 c0 c1 hb
        go_wp2
        exact ⟨⟨k + 1, by omega, by go_num, hb9, by rw [show 2 + 2 * (k + 1) = 2 + 2 * k + 2 by omega]; exact hz9⟩, by simp [intOf]; omega⟩
    · obtain rfl : k = la.length := by omega
      go_wp2
      clear hA hb0 hz0
      go_loopw [7, 5] (fun s7 s5 wr => ∃ (k : Nat), k ≤ lb.length ∧ s7 = .int .i64 k ∧ Below g w wr ∧ InZ (2 + 2 * la.length + 2 * k) s5 wr) (fun s7 _ _ => lb.length - (intOf s7).toNat)
      case atStart => exact ⟨0, Nat.zero_le _, rfl, hb, hz⟩
      case round =>
        obtain ⟨k, hk, rfl, hb, hz⟩ := hrel
        by_cases hlt : k < lb.length
        · have hA' := hB.below hb
          obtain ⟨b, off, f, t, c, rfl, hbB, c0, c1, -⟩ := bl_cell hA' hlt
          have hgr : g ≤ wr.heap.size := by rw [← hgw]; exact hb.size
          have hp1 := fun (v : Value) (w0 : World) (h : InZ (2 + 2 * la.length + 2 * k) v w0) => put_inz (2 + 2 * la.length + 2 * k) (by omega) v f w0 h
          have hp2 := fun (v : Value) (w0 : World) (h : InZ (2 + 2 * la.length + 2 * k + 1) v w0) => put_inz (2 + 2 * la.length + 2 * k + 1) (by omega) v t w0 h
          have hbw : b < wr.heap.size := by omega
          clear hA' hB
          go_upto_region 9 with fail
          refine wp_region_rgl [(fun v W => InZ (2 + 2 * la.length + 2 * k) v W), Eqv (.slice (some ⟨b, off, none⟩) lb.length cb), Eqv (.int .i64 k), Eqv (.pointer (some ⟨b, off + k * 3, none⟩)), Eqv (.pointer (some ⟨b, off + k * 3, none⟩)), Eqv (.pointer (some ⟨b, off + k * 3, none⟩)), Eqv (.int .i64 f), (fun v W => InZ (2 + 2 * la.length + 2 * k + 1) v W), Eqv (.slice (some ⟨b, off, none⟩) lb.length cb), Eqv (.int .i64 k), Eqv (.pointer (some ⟨b, off + k * 3, none⟩)), Eqv (.pointer (some ⟨b, off + k * 3, none⟩)), Eqv (.pointer (some ⟨b, off + k * 3 + 1, none⟩)), Eqv (.int .i64 t), (fun v W => InZ (2 + 2 * la.length + 2 * k + 2) v W)] 15 52 (by kernel_rfl) rfl rfl (by kernel_rfl) ?_ ?_ ?_
          · simp only [AllS]
            exact ⟨stab_InZ _, stab_eqv _, stab_eqv _, stab_eqv _, stab_eqv _, stab_eqv _, stab_eqv _, stab_InZ _, stab_eqv _, stab_eqv _, stab_eqv _, stab_eqv _, stab_eqv _, stab_eqv _, stab_InZ _, trivial⟩
          · simp only [Users, List.take, List.length]
            refine ⟨?_, ?_, ?_, ?_, ?_, ?_, ?_, ?_, ?_, ?_, ?_, ?_, ?_, ?_, ?_, trivial⟩
            all_goals (intro vs w3 hb2 hd; simp only [putD, Act.put, List.nil_append, List.cons_append, List.setIfInBounds_toArray, List.set_cons_succ, List.set_cons_zero, Nat.reduceAdd])
            · have hz3 := hz.call hb2
              clear hd hp1 hp2 c0 c1
              go_wp2
              first | exact ⟨Below.refl _ _, hz3⟩ | exact hz3 | trivial
            · clear hd hz hp1 hp2 c0 c1
              go_wp2
              first | exact ⟨Below.refl _ _, rfl⟩ | exact rfl | exact ⟨rfl, rfl⟩
            · clear hd hz hp1 hp2 c0 c1
              go_wp2
              first | exact ⟨Below.refl _ _, rfl⟩ | exact rfl | exact ⟨rfl, rfl⟩
            · have e1 : vs 1 = _ := hd 1 rfl
              have e2 : vs 2 = _ := hd 2 rfl
              clear hd hz hp1 hp2 c0 c1
              rw [e1, e2]
              go_wp2
              first | exact ⟨Below.refl _ _, rfl⟩ | exact rfl | exact ⟨rfl, rfl⟩
            · have e3 : vs 3 = _ := hd 3 rfl
              clear hd hz hp1 hp2 c0 c1
              rw [e3]
              go_wp2
              first | exact ⟨Below.refl _ _, rfl⟩ | exact rfl | exact ⟨rfl, rfl⟩
            · have e4 : vs 4 = _ := hd 4 rfl
              clear hd hz hp1 hp2 c0 c1
              rw [e4]
              go_wp2
              first | exact ⟨Below.refl _ _, rfl⟩ | exact rfl | exact ⟨rfl, rfl⟩
            · have e5 : vs 5 = _ := hd 5 rfl
              have x0 := (hb2.cell (p := ⟨b, _, none⟩) hbw).trans c0
              clear hd hz hp1 hp2 c0 c1
              rw [e5]
              go_wp2
              first | exact ⟨Below.refl _ _, rfl⟩ | exact rfl | exact ⟨rfl, rfl⟩
            · have e0 : InZ (2 + 2 * la.length + 2 * k) (vs 0) w3 := hd 0 rfl
              have e6 : vs 6 = _ := hd 6 rfl
              have hc := hp1 _ w3 e0
              clear hd hz hp1 hp2 c0 c1 e0
              rw [e6]
              go_wp2_with fail
              refine hc.mono ?_
              rintro _ w4 ⟨v4, rfl, hb4, hz4⟩
              go_wp2
              first | exact ⟨hb4, hz4⟩ | exact hz4
            · clear hd hz hp1 hp2 c0 c1
              go_wp2
              first | exact ⟨Below.refl _ _, rfl⟩ | exact rfl | exact ⟨rfl, rfl⟩
            · clear hd hz hp1 hp2 c0 c1
              go_wp2
              first | exact ⟨Below.refl _ _, rfl⟩ | exact rfl | exact ⟨rfl, rfl⟩
            · have e8 : vs 8 = _ := hd 8 rfl
              have e9 : vs 9 = _ := hd 9 rfl
              clear hd hz hp1 hp2 c0 c1
              rw [e8, e9]
              go_wp2
              first | exact ⟨Below.refl _ _, rfl⟩ | exact rfl | exact ⟨rfl, rfl⟩
            · have e10 : vs 10 = _ := hd 10 rfl
              clear hd hz hp1 hp2 c0 c1
              rw [e10]
              go_wp2
              first | exact ⟨Below.refl _ _, rfl⟩ | exact rfl | exact ⟨rfl, rfl⟩
            · have e11 : vs 11 = _ := hd 11 rfl
              clear hd hz hp1 hp2 c0 c1
              rw [e11]
              go_wp2
              first | exact ⟨Below.refl _ _, rfl⟩ | exact rfl | exact ⟨rfl, rfl⟩
            · have e12 : vs 12 = _ := hd 12 rfl
              have x0 := (hb2.cell (p := ⟨b, _, none⟩) hbw).trans c1
              clear hd hz hp1 hp2 c0 c1
              rw [e12]
              go_wp2
              first | exact ⟨Below.refl _ _, rfl⟩ | exact rfl | exact ⟨rfl, rfl⟩
            · have e0 : InZ (2 + 2 * la.length + 2 * k + 1) (vs 7) w3 := hd 7 rfl
              have e6 : vs 13 = _ := hd 13 rfl
              have hc := hp2 _ w3 e0
              clear hd hz hp1 hp2 c0 c1 e0
              rw [e6]
              go_wp2_with fail
              refine hc.mono ?_
              rintro _ w4 ⟨v4, rfl, hb4, hz4⟩
              go_wp2
              first | exact ⟨hb4, hz4⟩ | exact hz4
          · intro vs wa hba hR2
            simp only [AllR, Eqv] at hR2
            obtain ⟨-, -, -, -, -, -, -, -, -, -, -, -, -, -, hz9, -⟩ := hR2
            simp only [List.drop, List.take, List.map, putD, Act.put, List.setIfInBounds_toArray, List.set_cons_succ, List.set_cons_zero, Nat.reduceAdd]
            have hb9 := hb.trans (hba.mono hgr)
            clear hz hp1 hp2 c0 c1 hb
            go_wp2
            exact ⟨⟨k + 1, by omega, by go_num, hb9, by rw [show 2 + 2 * la.length + 2 * (k + 1) = 2 + 2 * la.length + 2 * k + 2 by omega]; exact hz9⟩, by simp [intOf]; omega⟩
        · obtain rfl : k = lb.length := by omega
          go_wp2
          go_ret
          refine ⟨_, rfl, hb, ?_⟩
          obtain ⟨zs, A9, cap9, e, h1, h2, h3, h4⟩ := hz
          exact ⟨zs, A9, cap9, e, h1, h2, h3, by omega⟩
end Go.Proofs.YtlldlkjngcgcjaaGreatDoor

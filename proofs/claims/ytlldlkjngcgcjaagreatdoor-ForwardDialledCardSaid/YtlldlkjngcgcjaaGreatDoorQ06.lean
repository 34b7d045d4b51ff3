/- Package forward: Creates. Package forward: Check, Payers. The reference's comparisons, and small functions of the law package. The reference's Same; settings and pick of the law package. ends of the law package. Plain mathematics of numbering plans: no Go in sight. Package forward, plain: validity by a test that computes; what the law's own settings come to. ends of the law package, at slices that the law has just made. Go's library at this dump: strings.Trim, strings.Repeat, strconv.Itoa, strconv.Atoi, said of lists of bytes. The small functions of packages plan, dialtoneref12 and dialtonelaw12: what each returns. -/
import Derived.Test.YtlldlkjngcgcjaaGreatDoorQ0a
import Derived.Laws.Cover3
import Derived.Test.YtlldlkjngcgcjaaGreatDoorQ04
import Derived.Test.YtlldlkjngcgcjaaGreatDoorQ03
import Derived.Test.YtlldlkjngcgcjaaGreatDoorQ05
import Derived.Test.YtlldlkjngcgcjaaGreatDoorQ00
import Derived.Test.YtlldlkjngcgcjaaGreatDoorShelf
import Derived.Test.YtlldlkjngcgcjaaGreatDoorQ01
import Derived.Test.YtlldlkjngcgcjaaGreatDoorProg
namespace Go.Proofs.YtlldlkjngcgcjaaGreatDoor
set_option linter.unusedVariables false
set_option linter.unusedSimpArgs false
open Go.RowKit Go.Shelf
attribute [local go_sem] Oper.semAt_some
theorem setI : ∃ i z, Tryz.prog.info? 33 = some i ∧ i.zero = some z ∧ i.size = 5 ∧ z.cells.size = 5 ∧ i.bytes = 40 := by
  have h : (Tryz.prog.info? 33).map (fun i => (i.size, i.bytes, i.zero.map (·.cells.size))) = some (5, 40, some 5) := by kernel_rfl
  cases hi : Tryz.prog.info? 33 with
  | none => rw [hi] at h; cases h
  | some i =>
    rw [hi] at h
    simp only [Option.map_some, Option.some.injEq, Prod.mk.injEq] at h
    obtain ⟨h1, h2, h3⟩ := h
    cases hz : i.zero with
    | none => rw [hz] at h3; cases h3
    | some z =>
      rw [hz] at h3
      simp only [Option.map_some, Option.some.injEq] at h3
      exact ⟨i, z, rfl, hz, h1, h3, h2⟩
theorem stC_one (c : Tw.St) : ∀ u ∈ stC c, u.oneCell' = true := fun u hu => by
  simp only [stC, List.mem_cons, List.not_mem_nil, or_false] at hu
  rcases hu with rfl | rfl | rfl | rfl | rfl <;> rfl
theorem run_eql_nil {P : Program} (w : World) (t e : TypeId) (a : Option Addr) (l c : Nat) (h : P.underlying t = some (.slice e)) : (binOp .eql t (.slice a l c) (.slice none 0 0)).run P w = .ok (.bool a.isNone) w := by
  simp only [binOp]
  simp [run_equal_slice_nil w t e a l c h]
set_option maxRecDepth 100000 in
set_option maxHeartbeats 4000000 in
theorem clone_any (l : List Tw.St) (A : Option Addr) (cap : Nat) (w : World) (hA : At 5 stC w w.heap.size A l) (hn : l.length ≤ cap) (hl : l.length ≤ 1000000) :
    Calls Tryz.prog 57 #[.slice A l.length cap] w fun e w' => (∃ v, e = .returned v ∧ RowZ 33 5 w.heap.size l.length (l.flatMap stC) v w') ∧ Below w.heap.size w w' := by
  obtain ⟨ti, tz, hi, hzz, hs1, hz1, hby⟩ := setI
  cases A with
  | none =>
    have h0 : l.length = 0 := by
      rcases Nat.eq_zero_or_pos l.length with h | h
      · exact h
      · obtain ⟨b, off, e, -⟩ := hA h
        cases e
    obtain rfl := List.eq_nil_of_length_eq_zero h0
    have hq := run_eql_nil (P := Tryz.prog) w 41 33 none 0 cap Tryz.underlying41
    simp only [Option.isNone_none, Option.isNone_some] at hq
    clear hA
    go_enter Tryz.func57, Tryz.ntmps57
    go_wp2
    go_ret
    exact ⟨⟨_, rfl, .inl ⟨rfl, rfl, rfl⟩⟩, Below.refl _ _⟩
  | some a =>
    have hb := bNx w (.cells #[] 33)
    have hsrc := At.src (P := Tryz.prog) (e := 33) (t := 41) (f := stC) (fun _ => rfl) stC_one Tryz.underlying41 ((hA.below hb).more hb.size) cap
    have hrow : RowC 33 5 w.heap.size 0 0 [] (.slice (some ⟨w.heap.size, 0, none⟩) 0 0) (w.alloc (.cells #[] 33)) := ⟨_, _, rfl, Nat.le_refl _, Nat.le_refl _, Bx.mk _ _ _, rfl, rfl⟩
    have fin : ∀ v' w' cap', Below w.heap.size (w.alloc (.cells #[] 33)) w' → RowC 33 5 w.heap.size cap' (0 + l.length) ([] ++ l.flatMap stC) v' w' → cap' ≤ maxLen → RowZ 33 5 w.heap.size l.length (l.flatMap stC) v' w' ∧ Below w.heap.size w w' := fun v' w' cap' h1 h2 h3 => by
      rw [Nat.zero_add, List.nil_append] at h2
      exact ⟨.inr ⟨cap', h2, h3⟩, hb.trans h1⟩
    have hsz := hb.size
    have hq := run_eql_nil (P := Tryz.prog) w 41 33 (some a) l.length cap Tryz.underlying41
    simp only [Option.isNone_none, Option.isNone_some] at hq
    clear hA
    go_enter Tryz.func57, Tryz.ntmps57
    go_wp2_with (at_builtin; refine wpList_append_row rfl (.tmp 5) (.tmp 6) 41 33 rfl ti tz 5 w.heap.size 0 0 l.length [] (l.flatMap stC) _ _ Tryz.underlying41 hi hzz hs1 hz1 rfl rfl hrow hsz hsrc (by unfold maxLen; omega) (by unfold maxLen; omega) (by rw [hby]; omega) ?_; intro v' w' cap' e1 e2 e3 e4; obtain ⟨f1, f2⟩ := fin _ _ _ e1 e3 e4)
    go_ret
    exact ⟨⟨_, rfl, f1⟩, f2⟩

/-- the times at which a spell begins while s counts, in order -/
def tmL (l : List Tw.St) (s : Tw.St) : List Int := (Tw.timesL l s).mergeSort fun x y => decide (x ≤ y)
def crB (l : List Tw.St) (s : Tw.St) : Prop := Tw.Va (l ++ [s]) ∧ s.k = 1
open Classical in
noncomputable def crR (l : List Tw.St) (s : Tw.St) : Option (Int × List Int) := if crB l s then (Tw.firstL (l ++ [s]) s.n (tmL (l ++ [s]) s)).map fun T => (T, (rotL (l ++ [s]) T s.n).getD []) else none
theorem cr_t {l : List Tw.St} {s : Tw.St} (h : crB l s) : crR l s = (Tw.firstL (l ++ [s]) s.n (tmL (l ++ [s]) s)).map fun T => (T, (rotL (l ++ [s]) T s.n).getD []) := if_pos h
theorem cr_f {l : List Tw.St} {s : Tw.St} (h : ¬ crB l s) : crR l s = none := if_neg h
theorem RowZ.low {e : TypeId} {size B B' n : Nat} {fl : List Value} {v : Value} {w : World} (h : RowZ e size B n fl v w) (hB : B' ≤ B) : RowZ e size B' n fl v w := by
  rcases h with h | ⟨cap, ⟨g, cells, h1, h2, h3⟩, h7⟩
  · exact .inl h
  · exact .inr ⟨cap, ⟨g, cells, h1, Nat.le_trans hB h2, h3⟩, h7⟩
theorem RowZ.over {e : TypeId} {size B n : Nat} {fl : List Value} {v : Value} {w : World} (h : RowZ e size B n fl v w) {g : Nat} (hg : g < B) : ∀ n c, v ≠ .slice (some ⟨g, 0, none⟩) n c := fun n c e => by
  rcases h with ⟨rfl, -, -⟩ | ⟨cap, ⟨g', cells, rfl, h2, h3⟩, h7⟩
  · cases e
  · simp only [Value.slice.injEq, Option.some.injEq, Addr.mk.injEq, and_true] at e
    omega
/-- a row of one setting -/
def Sl1 (B : Nat) (cs : List Value) : Value → World → Prop := fun v w => ∃ g, v = .slice (some ⟨g, 0, none⟩) 1 1 ∧ B ≤ g ∧ Bx w g 33 cs.toArray
theorem stab_Sl1 (B : Nat) (cs : List Value) : Stab (Sl1 B cs) := fun v w w' ⟨g, h1, h2, h3⟩ h => ⟨g, h1, h2, h3.call h⟩
/-- slices.Sort of a row of one's own -/
theorem sortI_any (zs : List Int) (B : Nat) (sv : Value) (w : World) (h0 : zs ≠ []) (hB : B ≤ w.heap.size) (hrow : RowZ 3 1 B zs.length (zs.flatMap inC) sv w) (hlen : zs.length ≤ 1000) :
    Calls Tryz.prog 59 #[sv] w fun e w' => e = .returned (.tuple #[]) ∧ Below B w w' ∧ RowZ 3 1 B zs.length ((zs.mergeSort fun x y => decide (x ≤ y)).flatMap inC) sv w' := by
  have hfm : ∀ L : List Int, L.flatMap inC = L.map (Value.int .i64) := fun L => by
    induction L with
    | nil => rfl
    | cons e es ih => rw [List.flatMap_cons, ih]; rfl
  rcases hrow with ⟨rfl, hn, hf⟩ | ⟨cap, ⟨g, cells, rfl, hg, hc, hBx, hcs, hfl⟩, hcm⟩
  · exact absurd (List.length_eq_zero_iff.1 hn) h0
  have hH : Sort.Holds (Value.int .i64) w g 0 zs.toArray := holds_g hBx (by rw [← hfm]; simpa using hfl)
  refine (Tryz.slices_Sort_int g 0 cap zs w hH hBx.lt (by omega)).mono ?_
  rintro e w' ⟨rfl, n, os, rfl⟩
  have hl : (zs.mergeSort fun x y => decide (x ≤ y)).length = zs.length := List.length_mergeSort _
  generalize (zs.mergeSort fun x y => decide (x ≤ y)) = ys at *
  obtain ⟨cells', k1, k2, k3⟩ := put_g (enc := Value.int .i64) (n := n) hBx ys.toArray (by simp; omega)
  have hb1 : Below B w (Sort.putRow (Value.int .i64) (Sort.ahead w n) g 0 ys.toArray) := ⟨rfl, rfl, rfl, by rw [Sort.size_putRow]; exact Nat.le_refl _, fun b hb => by
    unfold Sort.putRow Sort.mapBlock Sort.ahead
    simp only [Array.getElem?_modify]
    rw [if_neg (by omega)]⟩
  have hb2 : Below (Sort.putRow (Value.int .i64) (Sort.ahead w n) g 0 ys.toArray).heap.size (Sort.putRow (Value.int .i64) (Sort.ahead w n) g 0 ys.toArray) (Sort.grow (Sort.putRow (Value.int .i64) (Sort.ahead w n) g 0 ys.toArray) os) := below_regrown _ (Sort.putRow (Value.int .i64) (Sort.ahead w n) g 0 ys.toArray).drawn os
  refine ⟨rfl, hb1.trans (hb2.mono (by rw [Sort.size_putRow]; show B ≤ w.heap.size; exact hB)), .inr ⟨cap, ⟨g, cells', rfl, hg, hc, k1.call hb2, by rw [k2]; exact hcs, ?_⟩, hcm⟩⟩
  rw [Nat.mul_one, hfm, ← hl]
  simpa using k3
theorem first_snoc {all : List Tw.St} {n : Int} {ts : List Int} {t : Int} : Tw.firstL all n (ts ++ [t]) = (Tw.firstL all n ts).or (if (Tw.loopOf all t n).isSome then some t else none) := by
  unfold Tw.firstL
  rw [List.find?_append]
  congr 1
  by_cases h : (Tw.loopOf all t n).isSome <;> simp [List.find?_cons, h]
theorem first_keep {all : List Tw.St} {n : Int} {ts : List Int} {k : Nat} (hk : k < ts.length) (h : Tw.firstL all n (ts.take k) = none) (h2 : rotL all ts[k] n = none) : Tw.firstL all n (ts.take (k + 1)) = none := by
  rw [List.take_succ_eq_append_getElem hk, first_snoc, h]
  have : Tw.loopOf all ts[k] n = none := by
    unfold rotL at h2
    cases h3 : Tw.loopOf all ts[k] n with
    | none => rfl
    | some r => rw [h3] at h2; cases h2
  rw [this]; rfl
theorem first_hit {all : List Tw.St} {n : Int} {ts : List Int} {k : Nat} (hk : k < ts.length) (h : Tw.firstL all n (ts.take k) = none) {r : List Int} (h2 : rotL all ts[k] n = some r) : Tw.firstL all n ts = some ts[k] := by
  have h3 : Tw.firstL all n (ts.take (k + 1)) = some ts[k] := by
    rw [List.take_succ_eq_append_getElem hk, first_snoc, h]
    have : (Tw.loopOf all ts[k] n).isSome = true := by
      unfold rotL at h2
      cases h3 : Tw.loopOf all ts[k] n with
      | none => rw [h3] at h2; cases h2
      | some r => rfl
    rw [this]; rfl
  have h4 : Tw.firstL all n (ts.take (k + 1) ++ ts.drop (k + 1)) = some ts[k] := by
    unfold Tw.firstL at h3 ⊢
    rw [List.find?_append, h3]; rfl
  rwa [List.take_append_drop] at h4
set_option maxRecDepth 100000 in
set_option maxHeartbeats 8000000 in
theorem creates_any (l : List Tw.St) (A : Option Addr) (cap : Nat) (s : Tw.St) (w : World) (hA : At 5 stC w w.heap.size A l) (hn : l.length ≤ cap) (hl : l.length ≤ 100000) :
    Calls Tryz.prog 18 #[.slice A l.length cap, .agg #[.int .i64 s.n, .int .i64 s.k, .int .i64 s.to, .int .i64 s.f, .int .i64 s.e]] w fun e w' => ∃ v, e = .returned (.tuple #[.int .i64 ((crR l s).elim 0 (·.1)), v, .bool (crR l s).isSome]) ∧ Below w.heap.size w w' ∧ LoA ((crR l s).map (·.2)) v w' := by
  have hb0 := bNx w (.cells #[.int .i64 s.n, .int .i64 s.k, .int .i64 s.to, .int .i64 s.f, .int .i64 s.e] 33)
  have BS := Bx.mk w 33 #[.int .i64 s.n, .int .i64 s.k, .int .i64 s.to, .int .i64 s.f, .int .i64 s.e]
  have hA1 := hA.callx hb0
  obtain ⟨ti, tz, hti, hzz, hs1, hz1, hby⟩ := setI
  go_enter Tryz.func18, Tryz.ntmps18
  go_wp2_with fail
  clear hA
  have hs1' := Kp.mk (show (w.alloc (.cells #[.int .i64 s.n, .int .i64 s.k, .int .i64 s.to, .int .i64 s.f, .int .i64 s.e] 33)).heap.size = w.heap.size + 1 by simp only [World.size_alloc])
  generalize w.alloc (.cells #[.int .i64 s.n, .int .i64 s.k, .int .i64 s.to, .int .i64 s.f, .int .i64 s.e] 33) = w1 at *
  have hcl := fun (w3 : World) (hb : Below w1.heap.size w1 w3) => clone_any l A cap w3 (hA1.callx hb) hn (by omega)
  refine wp_region_rgl [Eqv (.slice A l.length cap), (fun v W => RowZ 33 5 w1.heap.size l.length (l.flatMap stC) v W), Eqv (.agg #[.int .i64 s.n, .int .i64 s.k, .int .i64 s.to, .int .i64 s.f, .int .i64 s.e]), Sl1 w1.heap.size (stC s)] 4 65 (by kernel_rfl) rfl rfl (by kernel_rfl) ?_ ?_ ?_
  · simp only [AllS]
    exact ⟨stab_eqv _, fun v w w' h hb => stab_rowZ _ _ _ _ _ _ _ _ h hb, stab_eqv _, stab_Sl1 _ _, trivial⟩
  · simp only [Users, List.take, List.length]
    refine ⟨?_, ?_, ?_, ?_, trivial⟩
    all_goals (intro vs w3 hb2 hd; simp only [putD, Act.put, List.nil_append, List.cons_append, List.setIfInBounds_toArray, List.set_cons_succ, List.set_cons_zero, Nat.reduceAdd])
    · clear hd hcl hA1 BS
      go_wp2
      first | exact ⟨Below.refl _ _, rfl⟩ | exact rfl | exact ⟨rfl, rfl⟩
    · have ea : vs 0 = _ := hd 0 rfl
      have hc := hcl w3 hb2
      have hsz := hb2.size
      clear hd hcl hA1 BS
      rw [ea]
      go_wp2_with fail
      refine hc.mono ?_
      rintro _ w4 ⟨⟨v, rfl, hrow⟩, hb4⟩
      go_wp2
      first | exact ⟨hb4, hrow.low hsz⟩ | exact hrow.low hsz
    · have q0 := (BS.call hb2).cell 0 rfl
      have q1 := (BS.call hb2).cell 1 rfl
      have q2 := (BS.call hb2).cell 2 rfl
      have q3 := (BS.call hb2).cell 3 rfl
      have q4 := (BS.call hb2).cell 4 rfl
      clear hd hcl hA1 BS
      go_wp2
      first | exact ⟨Below.refl _ _, rfl⟩ | exact rfl | exact ⟨rfl, rfl⟩
    · have ea : vs 2 = _ := hd 2 rfl
      have hsz := hb2.size
      clear hd hcl hA1 BS
      rw [ea]
      go_wp2
      exact ⟨bNew (Below.refl _ _) _, _, rfl, hsz, Bx.mk w3 _ _⟩
  · intro vs wa hba hR2
    simp only [AllR, Eqv] at hR2
    obtain ⟨e0, hrow, e2, ⟨g3, e3, hg3, hB3⟩, -⟩ := hR2
    simp only [List.drop, List.take, List.map, putD, Act.put, List.setIfInBounds_toArray, List.set_cons_succ, List.set_cons_zero, Nat.reduceAdd]
    have hlow : w.heap.size < w1.heap.size := by have := hs1'.out; omega
    have hsrc : Src Tryz.prog 5 41 (.slice (some ⟨g3, 0, none⟩) 1 1) 1 (stC s) wa := RowC.src (P := Tryz.prog) (B := w1.heap.size) (cap := 1) (e := 33) (t := 41) (stC_one s) Tryz.underlying41 (show RowC 33 5 w1.heap.size 1 1 (stC s) (.slice (some ⟨g3, 0, none⟩) 1 1) wa from ⟨g3, _, rfl, hg3, Nat.le_refl _, hB3, rfl, rfl⟩)
    rw [e3]
    replace BS := BS.call hba
    have hb := bCall hb0 hba
    clear e0 e2 e3 hcl hA1 hb0
    have hover := hrow.over hlow
    have hwa := hba.size
    go_wp2_with (at_builtin; refine wpList_append_rowF rfl (.tmp 15) (.tmp 17) 41 33 rfl ti tz 5 w1.heap.size l.length 1 (l.flatMap stC) (stC s) _ (.slice (some ⟨g3, 0, none⟩) 1 1) Tryz.underlying41 hti hzz hs1 hz1 rfl rfl hrow hwa hsrc (by decide) (by unfold maxLen; omega) (by rw [hby]; omega) ?_; intro v' w2 q1 q2 q3; replace q1 := Kp.mk q1; replace q2 := Kp.mk q2; replace q3 := Kp.mk q3)
    have hk := q2.out
    replace BS := hk.bx BS hover
    replace hb : Below w.heap.size w w2 := hb.trans (q1.out.mono (by omega))
    have hrowL : RowZ 33 5 w1.heap.size (l ++ [s]).length ((l ++ [s]).flatMap stC) v' w2 := by
      rw [List.length_append, List.length_singleton, List.flatMap_append]
      exact q3.out
    obtain ⟨A', c', rfl, hAL, hcL, -⟩ := RowZ.at (p := l ++ [s]) (f := stC) (fun _ => rfl) hrowL
    have hLl : (l ++ [s]).length ≤ 100001 := by simp; omega
    have hmemK : Kp (s ∈ l ++ [s]) := ⟨by simp⟩
    clear q1 q2 q3 hk hrowL hrow hover hsrc hB3 hg3 hba hwa hlow hs1'
    have hcr : ((vaB (l ++ [s]) = false ∧ crR l s = none) ∨ (vaB (l ++ [s]) = true ∧ s.k ≠ 1 ∧ crR l s = none) ∨ (vaB (l ++ [s]) = true ∧ s.k = 1 ∧ Tw.Va (l ++ [s]) ∧ crR l s = (Tw.firstL (l ++ [s]) s.n (tmL (l ++ [s]) s)).map fun T => (T, (rotL (l ++ [s]) T s.n).getD []))) := by
      by_cases h1 : Tw.Va (l ++ [s])
      · by_cases h2 : s.k = 1
        · exact .inr (.inr ⟨vaB_t h1, h2, h1, cr_t ⟨h1, h2⟩⟩)
        · exact .inr (.inl ⟨vaB_t h1, h2, cr_f fun h => h2 h.2⟩)
      · exact .inl ⟨vaB_f h1, cr_f fun h => h1 h.1⟩
    have hV := wSet_any (l ++ [s]) A' c' w2 hAL hcL (by omega)
    obtain ⟨R, hR⟩ := exKx (crR l s)
    rw [hR.out] at hcr
    generalize l ++ [s] = L at *
    rcases hcr with ⟨e1, rfl⟩ | ⟨e1, e2, rfl⟩ | ⟨e1, e2, hv, e3⟩
    · rw [e1] at hV
      clear e1 hAL
      refine hV.mono ?_
      rintro _ w3 ⟨rfl, hb3⟩
      go_wp2_with fail
      refine bodyPost_ret (v := .tuple #[.int .i64 0, .slice none 0 0, .bool false]) (by simp [results, Tryz.results18, go_sem]) rfl ?_
      exact ⟨_, by rw [hR.out]; rfl, hb.trans (hb3.mono hb.size), by rw [hR.out]; rfl⟩
    · rw [e1] at hV
      have tk : (s.k == 1) = false := by simpa using e2
      clear e1 hAL
      refine hV.mono ?_
      rintro _ w3 ⟨rfl, hb3⟩
      have k1 := (BS.call hb3).cell 1 rfl
      go_wp2_with fail
      refine bodyPost_ret (v := .tuple #[.int .i64 0, .slice none 0 0, .bool false]) (by simp [results, Tryz.results18, go_sem]) rfl ?_
      exact ⟨_, by rw [hR.out]; rfl, hb.trans (hb3.mono hb.size), by rw [hR.out]; rfl⟩
    · rw [e1] at hV
      have tk : (s.k == 1) = true := by simpa using e2
      clear e1
      refine hV.mono ?_
      rintro _ w3 ⟨rfl, hb3⟩
      replace BS := BS.call hb3
      replace hAL := hAL.callx hb3
      replace hb := hb.trans (hb3.mono hb.size)
      have k1 := BS.cell 1 rfl
      go_wp2_with fail
      have hl40 := hv.len
      clear k1 tk hV hb3
      go_loopw [8, 29] (fun s8 s29 wr => ∃ (k : Nat) (ts : List Int) (sv : Value), k ≤ L.length ∧ s29 = .int .i64 k ∧ s8 = sv ∧ Below w3.heap.size w3 wr ∧ RowZ 3 1 w3.heap.size ts.length (ts.flatMap inC) sv wr ∧ Kp (ts = ((L.take k).filter fun r => s.has r.f).map Tw.St.f) ∧ ts.length ≤ k) (fun _ s29 _ => L.length - (intOf s29).toNat)
      case atStart => exact ⟨0, [], _, Nat.zero_le _, rfl, rfl, Below.refl _ _, .inl ⟨rfl, rfl, rfl⟩, ⟨rfl⟩, Nat.le_refl _⟩
      case round =>
        obtain ⟨k, ts, sv, hk, rfl, rfl, hbr, hRow, hts, htl⟩ := hrel
        by_cases hlt : k < L.length
        · obtain ⟨b, off, rfl, hbB, hcell⟩ := hAL.run (Nat.le_refl _) hlt
          have hcl0 := hcell wr hbr 0 _ rfl
          have hcl1 := hcell wr hbr 1 _ rfl
          have hcl2 := hcell wr hbr 2 _ rfl
          have hcl3 := hcell wr hbr 3 _ rfl
          have hcl4 := hcell wr hbr 4 _ rfl
          simp only [Nat.add_zero] at hcl0
          have hH := wHas_any s.f s.e (L[k]).f
          have hhas : (decide (s.f ≤ (L[k]).f) && decide ((L[k]).f < s.e)) = s.has (L[k]).f := rfl
          rw [hhas] at hH
          have hyes : Kp (s.has (L[k]).f = true → ts ++ [(L[k]).f] = ((L.take (k + 1)).filter fun r => s.has r.f).map Tw.St.f) := ⟨fun h => by
            rw [List.take_succ_eq_append_getElem hlt, List.filter_append, List.map_append, ← hts.out, List.filter_cons, if_pos h]; rfl⟩
          have hno : Kp (s.has (L[k]).f = false → ts = ((L.take (k + 1)).filter fun r => s.has r.f).map Tw.St.f) := ⟨fun h => by
            rw [List.take_succ_eq_append_getElem hlt, List.filter_append, List.map_append, ← hts.out, List.filter_cons, if_neg (by rw [h]; simp)]; simp⟩
          clear hcell hhas hts
          generalize hbh : s.has (L[k]).f = bh at *
          clear hbh
          generalize L[k] = r at *
          obtain ⟨rn, rk, rt, rf, re⟩ := r
          dsimp only at hcl0 hcl1 hcl2 hcl3 hcl4 hH hyes
          have hbn := bNx wr (.cells #[.int .i64 rn, .int .i64 rk, .int .i64 rt, .int .i64 rf, .int .i64 re] 33)
          have BC := Bx.mk wr 33 #[.int .i64 rn, .int .i64 rk, .int .i64 rt, .int .i64 rf, .int .i64 re]
          have hbr1 := hbr.trans (hbn.mono hbr.size)
          have BS1 := BS.call hbr1
          have hRow1 := stab_rowZ _ _ _ _ _ _ _ _ hRow hbn
          have c3 := BC.cell 3 rfl
          have s3 := BS1.cell 3 rfl
          have s4 := BS1.cell 4 rfl
          go_wp2_with fail
          refine (hH _).mono ?_
          rintro _ w5 ⟨rfl, hb5⟩
          clear c3 s3 s4 hcl0 hcl1 hcl2 hcl3 hcl4 hH
          replace BC := BC.call hb5
          have hbr5 := hbr1.trans (hb5.mono hbr1.size)
          have hRow5 := stab_rowZ _ _ _ _ _ _ _ _ hRow1 hb5
          clear hbn hbr1 BS1 hRow1 hb5 hRow
          cases bh
          · have hnK : Kp (ts = ((L.take (k + 1)).filter fun r => s.has r.f).map Tw.St.f) := ⟨by first | exact hno.out rfl | exact hno.out trivial⟩
            clear hyes hno
            go_wp2_with fail
            exact ⟨⟨k + 1, ts, _, by omega, by go_num, rfl, hbr5, hRow5, hnK, by omega⟩, by simp [intOf]; omega⟩
          · have hyK : Kp (ts ++ [rf] = ((L.take (k + 1)).filter fun r => s.has r.f).map Tw.St.f) := ⟨by first | exact hyes.out rfl | exact hyes.out trivial⟩
            clear hyes hno
            obtain ⟨ii, iz, hii, hiz, his, hiz1, hib⟩ := intI
            have c3 := BC.cell 3 rfl
            have hsrc := intSrc (W := w5) (y := rf) rfl
            have hbA : Below w5.heap.size w5 (w5.alloc (.cells #[.int .i64 rf] 3)) := bNew (Below.refl _ _) _
            have hRowA := stab_rowZ _ _ _ _ _ _ _ _ hRow5 hbA
            have hbrA := hbr5.trans (hbA.mono hbr5.size)
            have hszA := hbrA.size
            go_wp2_with (at_builtin; refine wpList_append_rowF rfl (.tmp 39) (.tmp 43) 43 3 rfl ii iz 1 w3.heap.size ts.length 1 (ts.flatMap inC) [.int .i64 rf] _ (.slice (some ⟨w5.heap.size, 0, none⟩) 1 1) Tryz.underlying43 hii hiz his hiz1 rfl rfl hRowA hszA hsrc (by decide) (by unfold maxLen; omega) (by rw [hib]; omega) ?_; intro v9 w9 e1 e0 e4; replace e1 := Kp.mk e1; replace e0 := Kp.mk e0; replace e4 := Kp.mk e4)
            exact ⟨⟨k + 1, ts ++ [rf], _, by omega, by go_num, rfl, hbrA.trans e1.out, by rw [List.length_append, List.length_singleton, List.flatMap_append]; exact e4.out, hyK, by rw [List.length_append, List.length_singleton]; omega⟩, by simp [intOf]; omega⟩
        · obtain rfl : k = L.length := by omega
          rw [List.take_length] at hts
          have hfs := hv.fm s hmemK.out
          have hne : ts ≠ [] := fun e => by
            have h1 : s.f ∈ ts := by
              rw [hts.out]
              exact List.mem_map.2 ⟨s, List.mem_filter.2 ⟨hmemK.out, Tw.has_iff.2 ⟨Int.le_refl _, hfs.fe⟩⟩, rfl⟩
            rw [e] at h1; cases h1
          have hSt := sortI_any ts w3.heap.size _ wr hne hbr.size hRow (by omega)
          have htm : Kp (tmL L s = ts.mergeSort fun x y => decide (x ≤ y)) := ⟨by rw [hts.out]; rfl⟩
          have hml : (ts.mergeSort fun x y => decide (x ≤ y)).length = ts.length := List.length_mergeSort _
          rw [← hml] at hSt
          obtain ⟨tS, hS⟩ := exKx (ts.mergeSort fun x y => decide (x ≤ y))
          rw [hS.out] at hSt hml htm
          have htl2 : tS.length ≤ 40 := by omega
          clear hS hml hts hRow
          have hI6 : I6 s.n := ⟨by have := hfs.n0; omega, by have := hfs.n2; omega⟩
          rw [htm.out] at e3
          clear htm hfs hmemK
          go_wp2_with (go_at_call 59; refine hSt.mono ?_; rintro _ w7 ⟨rfl, hb7, hRow7⟩; obtain ⟨T8, c8, rfl, hT8, hc8, -⟩ := RowZ.at (p := tS) (f := inC) (fun _ => rfl) hRow7; clear hSt)
          have hb37 := hbr.trans hb7
          clear hRow7
          go_loopw [50] (fun s50 wq => ∃ k : Nat, k ≤ tS.length ∧ s50 = .int .i64 k ∧ Below w7.heap.size w7 wq ∧ Kp (Tw.firstL L s.n (tS.take k) = none)) (fun s50 _ => tS.length - (intOf s50).toNat)
          case atStart => exact ⟨0, Nat.zero_le _, rfl, Below.refl _ _, ⟨rfl⟩⟩
          case round =>
            obtain ⟨k, hk, rfl, hbq, hno⟩ := hrel
            have hb3q := hb37.trans (hbq.mono hb37.size)
            by_cases hlt : k < tS.length
            · obtain ⟨b, off, rfl, hbB, hcell⟩ := hT8.run (Nat.le_refl _) hlt
              have hcl0 := hcell _ hbq 0 _ rfl
              simp only [Nat.add_zero, Nat.mul_one] at hcl0
              have hkeep := Kp.mk (first_keep (n := s.n) hlt hno.out)
              have hhit := Kp.mk (fun r => first_hit (r := r) (n := s.n) hlt hno.out)
              clear hcell hno
              generalize hTT : tS[k] = T at *
              clear hTT
              go_wp2_with fail
              have hAq := hAL.callx hb3q
              have BSq := BS.call hb3q
              have hbw := hb.trans (hb3q.mono hb.size)
              clear hcl0 hT8 hbr hb7 hb37 hAL BS
              refine wp_region_rgl [Eqv (.slice A' L.length c'), Eqv (.int .i64 T), (fun v W => ∃ b1 b2, v = .agg #[.slice A' L.length c', .map (some b1), .map (some b2)] ∧ Mom L [] T b1 b2 W), Eqv (.pointer (some ⟨w.heap.size, 0, none⟩)), Eqv (.int .i64 s.n), (fun v W => LoA (rotL L T s.n) v W)] 6 65 (by kernel_rfl) rfl rfl (by kernel_rfl) ?_ ?_ ?_
              · simp only [AllS]
                exact ⟨stab_eqv _, stab_eqv _, fun v w w' ⟨b1, b2, h1, h2⟩ hb => ⟨b1, b2, h1, h2.call hb⟩, stab_eqv _, stab_eqv _, fun v w w' h hb => h.call hb, trivial⟩
              · simp only [Users, List.take, List.length]
                refine ⟨?_, ?_, ?_, ?_, ?_, ?_, trivial⟩
                all_goals (intro vs w0 hb2 hd; simp only [putD, Act.put, List.nil_append, List.cons_append, List.setIfInBounds_toArray, List.set_cons_succ, List.set_cons_zero, Nat.reduceAdd])
                · clear hd hAq BSq
                  go_wp2
                  first | exact ⟨Below.refl _ _, rfl⟩ | exact rfl | exact ⟨rfl, rfl⟩
                · clear hd hAq BSq
                  go_wp2
                  first | exact ⟨Below.refl _ _, rfl⟩ | exact rfl | exact ⟨rfl, rfl⟩
                · have ea : vs 0 = _ := hd 0 rfl
                  have eb : vs 1 = _ := hd 1 rfl
                  have hc := at_any L A' c' [] none 0 T w0 hv Tw.vc_nil (hAq.callx hb2) hcL At.nil (Nat.le_refl _) (by decide)
                  clear hd hAq BSq
                  rw [ea, eb]
                  go_wp2_with fail
                  refine hc.mono ?_
                  rintro _ w4 ⟨b1, b2, rfl, hb4, hM⟩
                  go_wp2
                  first | exact ⟨hb4, b1, b2, rfl, hM⟩ | exact ⟨b1, b2, rfl, hM⟩
                · clear hd hAq BSq
                  go_wp2
                  first | exact ⟨Below.refl _ _, rfl⟩ | exact rfl | exact ⟨rfl, rfl⟩
                · have ea : vs 3 = _ := hd 3 rfl
                  have q0 := (BSq.call hb2).cell 0 rfl
                  clear hd hAq BSq
                  rw [ea]
                  go_wp2
                  first | exact ⟨Below.refl _ _, rfl⟩ | exact rfl | exact ⟨rfl, rfl⟩
                · have eb : vs 4 = _ := hd 4 rfl
                  obtain ⟨b1, b2, ea, hM⟩ : ∃ b1 b2, vs 2 = .agg #[.slice A' L.length c', .map (some b1), .map (some b2)] ∧ Mom L [] T b1 b2 w0 := hd 2 rfl
                  have hc := loop_any L A' c' b1 b2 T s.n w0 hv (hAq.callx hb2) hcL hM hI6
                  clear hd hAq BSq
                  rw [ea, eb]
                  go_wp2_with fail
                  refine hc.mono ?_
                  rintro _ w4 ⟨v, rfl, hb4, hLo⟩
                  go_wp2
                  first | exact ⟨hb4, hLo⟩ | exact hLo
              · intro vs wx hbx hR2
                simp only [AllR, Eqv] at hR2
                obtain ⟨-, -, -, -, -, hLo, -⟩ := hR2
                simp only [List.drop, List.take, List.map, putD, Act.put, List.setIfInBounds_toArray, List.set_cons_succ, List.set_cons_zero, Nat.reduceAdd]
                have hbx1 := hbw.trans (hbx.mono hbw.size)
                have hbx7 := hbq.trans (hbx.mono hbq.size)
                clear hAq BSq hbw hbx hb3q hbq hb
                rcases loA_ne hLo with ⟨h1, h2⟩ | ⟨r, b', off', cap', h1, h2⟩
                · rw [h2]
                  have hkK := Kp.mk (hkeep.out h1)
                  clear hkeep hhit h1 h2 hLo
                  go_wp2_with fail
                  exact ⟨⟨k + 1, by omega, by go_num, hbx7, hkK⟩, by simp [intOf]; omega⟩
                · rw [h2] at hLo ⊢
                  have hRn : Kp (crR l s = some (T, r)) := ⟨by rw [hR.out, e3, hhit.out r h1]; show some (T, (rotL L T s.n).getD []) = _; rw [h1]; rfl⟩
                  rw [h1] at hLo
                  clear hkeep hhit h1 h2
                  go_wp2_with fail
                  refine bodyPost_ret (v := .tuple #[.int .i64 T, .slice (some ⟨b', off', none⟩) r.length cap', .bool true]) (by simp [results, Tryz.results18, go_sem]) rfl ?_
                  exact ⟨_, by rw [hRn.out]; rfl, hbx1, by rw [hRn.out]; exact hLo⟩
            · obtain rfl : k = tS.length := by omega
              rw [List.take_length] at hno
              go_wp2_with fail
              refine bodyPost_ret (v := .tuple #[.int .i64 0, .slice none 0 0, .bool false]) (by simp [results, Tryz.results18, go_sem]) rfl ?_
              have hRn : crR l s = none := by rw [hR.out, e3, hno.out]; rfl
              exact ⟨_, by rw [hRn]; rfl, hb.trans (hb3q.mono hb.size), by rw [hRn]; rfl⟩
end Go.Proofs.YtlldlkjngcgcjaaGreatDoor
namespace Go.Proofs.YtlldlkjngcgcjaaGreatDoor
set_option linter.unusedVariables false
set_option linter.unusedSimpArgs false
open Go.RowKit
/-- a route, whatever it has used -/
structure Rq where
  kind : Int
  path : List Int
  used : List Int
def RoQ (q : Rq) (v : Value) (w : World) : Prop := ∃ P pc U uc, v = .agg #[.int .i64 q.kind, .slice P q.path.length pc, .slice U q.used.length uc] ∧ At 1 inC w w.heap.size P q.path ∧ At 1 inC w w.heap.size U q.used ∧ q.path.length ≤ pc ∧ q.used.length ≤ uc ∧ pc ≤ maxLen ∧ uc ≤ maxLen
theorem RoQ.call {q : Rq} {v : Value} {X Y : World} (h : RoQ q v X) (hb : Below X.heap.size X Y) : RoQ q v Y := by
  obtain ⟨P, pc, U, uc, e, h1, h2, h3⟩ := h
  exact ⟨P, pc, U, uc, e, h1.callx hb, h2.callx hb, h3⟩
def toQ (r : Tw.Ro) : Rq := ⟨r.kind, r.path, r.used.map fun i : Nat => (i : Int)⟩
theorem at_id {w : World} {B : Nat} {A : Option Addr} {l : List Nat} (h : At 1 idC w B A l) : At 1 inC w B A (l.map fun i : Nat => (i : Int)) := fun h0 => by
  obtain ⟨b, off, e, hb, hc⟩ := h (by simpa using h0)
  refine ⟨b, off, e, hb, fun i c hi j u hj => ?_⟩
  rw [List.getElem?_map] at hi
  cases hl : l[i]? with
  | none => rw [hl] at hi; cases hi
  | some k =>
    rw [hl] at hi
    cases hi
    exact hc i k hl j u hj
theorem RoA.q {r : Tw.Ro} {v : Value} {w : World} (h : RoA r v w) : RoQ (toQ r) v w := by
  obtain ⟨P, pc, U, uc, e, h1, h2, h3, h4, h5, h6⟩ := h
  exact ⟨P, pc, U, uc, by rw [e]; simp [toQ], h1, at_id h2, h3, by simpa [toQ] using h4, h5, h6⟩
open Classical in
noncomputable def ckB (l : List Tw.St) (c : List (Int × Int)) (n t : Int) (q : Rq) : Bool := decide (rsB l c n t ∧ q = toQ (Tw.route l c n t))
open Classical in
theorem ckB_t {l : List Tw.St} {c : List (Int × Int)} {n t : Int} {q : Rq} (h : rsB l c n t ∧ q = toQ (Tw.route l c n t)) : ckB l c n t q = true := decide_eq_true h
open Classical in
theorem ckB_f {l : List Tw.St} {c : List (Int × Int)} {n t : Int} {q : Rq} (h : ¬ (rsB l c n t ∧ q = toQ (Tw.route l c n t))) : ckB l c n t q = false := decide_eq_false h
open Classical in
theorem ckB_iff {l : List Tw.St} {c : List (Int × Int)} {n t : Int} {q : Rq} : ckB l c n t q = true ↔ rsB l c n t ∧ q = toQ (Tw.route l c n t) := decide_eq_true_iff
theorem mlen {n : Nat} (h : n ≤ maxLen) : n ≤ 9223372036854775807 := by unfold maxLen at h; omega
set_option maxRecDepth 100000 in
set_option maxHeartbeats 4000000 in
theorem check_any (l : List Tw.St) (A : Option Addr) (cap : Nat) (c : List (Int × Int)) (C : Option Addr) (ccap : Nat) (number t : Int) (q : Rq) (v : Value) (w : World) (hA : At 5 stC w w.heap.size A l) (hn : l.length ≤ cap) (hl : l.length ≤ 9223372036854775807) (hC : At 2 cdC w w.heap.size C c) (hcn : c.length ≤ ccap) (hcl : c.length ≤ 9223372036854775807) (hR : RoQ q v w) :
    Calls Tryz.prog 23 #[.slice A l.length cap, .slice C c.length ccap, .int .i64 number, .int .i64 t, v] w fun e w' => e = .returned (.bool (ckB l c number t q)) ∧ Below w.heap.size w w' := by
  obtain ⟨kind, path, used⟩ := q
  obtain ⟨P, pc, U, uc, rfl, hP, hU, hPc, hUc, hPm, hUm⟩ := hR
  dsimp only at hP hU hPc hUc ⊢
  have hb := bNx w (.cells #[.int .i64 kind, .slice P path.length pc, .slice U used.length uc] 45)
  have B := Bx.mk w 45 #[.int .i64 kind, .slice P path.length pc, .slice U used.length uc]
  have hRs := resolve_any l A cap c C ccap number t _ (hA.callx hb) hn hl (hC.callx hb) hcn hcl
  replace hP := hP.callx hb
  replace hU := hU.callx hb
  clear hA hC
  go_enter Tryz.func23, Tryz.ntmps23
  go_wp2_with fail
  refine hRs.mono ?_
  rintro _ w1 ⟨v1, rfl, hb1, hro⟩
  obtain ⟨P1, pc1, U1, uc1, rfl, h1, h2, h3, h4, h5, h6⟩ := hro.q
  have hck : Kp (ckB l c number t ⟨kind, path, used⟩ = (decide (resE l c number t = 0) && (decide (kind = (toQ (resR l c number t)).kind) && (decide (path = (toQ (resR l c number t)).path) && decide (used = (toQ (resR l c number t)).used))))) := ⟨by
    by_cases hok : rsB l c number t
    · obtain ⟨e1, e2⟩ := res_t hok
      rw [e1, e2, Bool.eq_iff_iff, ckB_iff]
      simp only [Bool.and_eq_true, decide_eq_true_eq]
      constructor
      · rintro ⟨-, h⟩; rw [← h]; exact ⟨trivial, rfl, rfl, rfl⟩
      · rintro ⟨-, h1, h2, h3⟩; exact ⟨hok, by rw [h1, h2, h3]⟩
    · obtain ⟨e1, e2⟩ := res_f hok
      rw [e2, ckB_f (fun h => hok h.1)]; rfl⟩
  generalize toQ (resR l c number t) = q1 at *
  obtain ⟨kind1, path1, used1⟩ := q1
  have he : resE l c number t = 0 ∨ resE l c number t = 220 := by
    by_cases hok : rsB l c number t
    · exact .inl (res_t hok).2
    · exact .inr (res_f hok).2
  generalize resE l c number t = er at *
  dsimp only at h1 h2 h3 h4 hck
  replace hb := bCall hb hb1
  replace B := B.call hb1
  replace hP := hP.callx hb1
  replace hU := hU.callx hb1
  clear hb1 hRs hro
  have B2 := Bx.mk w1 45 #[.int .i64 kind1, .slice P1 path1.length pc1, .slice U1 used1.length uc1]
  have hbn := bNx w1 (.cells #[.int .i64 kind1, .slice P1 path1.length pc1, .slice U1 used1.length uc1] 45)
  replace hb := bCall hb hbn
  replace B := B.call hbn
  have g1 := fun w0 hw => equal_any path path1 P P1 pc pc1 w0 ((hP.callx hbn).callx hw) hPc (Nat.le_trans hPc (mlen hPm)) ((h1.callx hbn).callx hw) h3 (Nat.le_trans h3 (mlen h5))
  have g2 := fun w0 hw => equal_any used used1 U U1 uc uc1 w0 ((hU.callx hbn).callx hw) hUc (Nat.le_trans hUc (mlen hUm)) ((h2.callx hbn).callx hw) h4 (Nat.le_trans h4 (mlen h6))
  clear hP hU h1 h2 h3 h4 h5 h6 hPc hUc hPm hUm
  generalize decide (path = path1) = b3 at *
  generalize decide (used = used1) = b4 at *
  have c0 := B.cell 0 rfl
  have c1 := B.cell 1 rfl
  have c2 := B.cell 2 rfl
  have d0 := B2.cell 0 rfl
  have d1 := B2.cell 1 rfl
  have d2 := B2.cell 2 rfl
  rcases he with rfl | rfl
  · rw [show decide ((0 : Int) = 0) = true from rfl, Bool.true_and] at hck
    by_cases hk : kind = kind1
    · have tk : (kind == kind1) = true := by simpa using hk
      rw [decide_eq_true hk, Bool.true_and] at hck
      clear hk
      have g1' := g1 _ (bStart _)
      go_wp2_with fail
      refine g1'.mono ?_
      rintro _ w2 ⟨rfl, hb2⟩
      clear c0 c1 c2 d0 d1 d2 g1' g1
      replace hb := bCall hb hb2
      have c2 := (B.call hb2).cell 2 rfl
      have d2 := (B2.call hb2).cell 2 rfl
      cases b3
      · clear g2
        go_wp2
        go_ret
        exact ⟨ret_bool (by rw [hck.out] <;> simp), hb⟩
      · have g2' := g2 w2 hb2
        go_wp2_with fail
        refine g2'.mono ?_
        rintro _ w3 ⟨rfl, hb3⟩
        clear g2' g2 c2 d2
        go_wp2
        go_ret
        exact ⟨ret_bool (by rw [hck.out] <;> simp), bCall hb hb3⟩
    · have tk : (kind == kind1) = false := by simpa using hk
      rw [decide_eq_false hk, Bool.false_and] at hck
      clear hk g1 g2
      go_wp2
      go_ret
      exact ⟨ret_bool (by rw [hck.out] <;> simp), hb⟩
  · rw [show decide ((220 : Int) = 0) = false from rfl, Bool.false_and] at hck
    clear g1 g2
    go_wp2
    go_ret
    exact ⟨ret_bool (by rw [hck.out] <;> simp), hb⟩
/-- who pays -/
def payL : List Int → List Int
  | [] => []
  | a :: p => -1 :: (a :: p).take p.length
theorem payL_len : ∀ p : List Int, (payL p).length = p.length
  | [] => rfl
  | a :: p => by simp [payL]
set_option maxRecDepth 100000 in
set_option maxHeartbeats 4000000 in
theorem payers_any (q : Rq) (v : Value) (w : World) (hR : RoQ q v w) (hq : q.path.length ≤ 1000000) :
    Calls Tryz.prog 21 #[v] w fun e w' => ∃ A cap, e = .returned (.slice A (payL q.path).length cap) ∧ Below w.heap.size w w' ∧ At 1 inC w' w'.heap.size A (payL q.path) ∧ (payL q.path).length ≤ cap ∧ cap ≤ maxLen := by
  obtain ⟨kind, path, used⟩ := q
  obtain ⟨P, pc, U, uc, rfl, hP, hU, hPc, hUc, hPm, hUm⟩ := hR
  dsimp only at hP hU hPc hUc hq ⊢
  have hb := bNx w (.cells #[.int .i64 kind, .slice P path.length pc, .slice U used.length uc] 45)
  have B := Bx.mk w 45 #[.int .i64 kind, .slice P path.length pc, .slice U used.length uc]
  replace hP := hP.callx hb
  cases path with
  | nil =>
    have c1 := B.cell 1 rfl
    clear hP hU
    simp only [List.length_nil] at c1 ⊢
    go_enter Tryz.func21, Tryz.ntmps21
    go_wp2
    go_ret
    exact ⟨none, 0, rfl, hb, At.nil, Nat.le_refl _, Nat.zero_le _⟩
  | cons a p =>
    have hb2 := bNx (w.alloc (.cells #[.int .i64 kind, .slice P (a :: p).length pc, .slice U used.length uc] 45)) (.cells #[.int .i64 (-1)] 3)
    have B1 := B.call hb2
    have BS := Bx.mk (w.alloc (.cells #[.int .i64 kind, .slice P (a :: p).length pc, .slice U used.length uc] 45)) 3 #[.int .i64 (-1)]
    have c1 := B.cell 1 rfl
    have d1 := B1.cell 1 rfl
    have hP2 := (hP.callx hb2).take p.length
    have hb' := bCall hb hb2
    obtain ⟨ti, tz, hti, hzz, hs1, hz1, hby⟩ := intI
    have hsrc := At.src (P := Tryz.prog) (e := 3) (t := 43) (f := inC) (fun _ => rfl) (fun c u hu => by simp only [inC, List.mem_singleton] at hu; rw [hu]; rfl) Tryz.underlying43 hP2 pc
    have hpl : ((a :: p).take p.length).length = p.length := by simp
    rw [hpl] at hsrc
    have hrow : RowC 3 1 w.heap.size 1 1 [.int .i64 (-1)] (.slice (some ⟨(w.alloc (.cells #[.int .i64 kind, .slice P (a :: p).length pc, .slice U used.length uc] 45)).heap.size, 0, none⟩) 1 1) ((w.alloc (.cells #[.int .i64 kind, .slice P (a :: p).length pc, .slice U used.length uc] 45)).alloc (.cells #[.int .i64 (-1)] 3)) := ⟨_, _, rfl, by simp, Nat.le_refl _, BS, rfl, rfl⟩
    simp only [List.length_cons] at c1 d1 hPc hq hb2 hb' hrow hsrc ⊢
    clear hP hU hP2 B B1 BS hb2
    have hsz : w.heap.size ≤ ((w.alloc (.cells #[.int .i64 kind, .slice P (p.length + 1) pc, .slice U used.length uc] 45)).alloc (.cells #[.int .i64 (-1)] 3)).heap.size := by simp only [World.size_alloc]; omega
    rw [World.size_alloc] at hrow
    have tz0 : (((p.length : Int) + 1) == 0) = false := beq_eq_false_iff_ne.2 (by omega)
    go_enter Tryz.func21, Tryz.ntmps21
    go_wp2_with (at_builtin; refine wpList_append_row rfl (.tmp 7) (.tmp 14) 43 3 rfl ti tz 1 w.heap.size 1 1 p.length [.int .i64 (-1)] _ _ _ Tryz.underlying43 hti hzz hs1 hz1 rfl rfl hrow hsz hsrc (by unfold maxLen; omega) (by unfold maxLen; omega) (by rw [hby]; omega) ?_; intro v' w' cap' e1 e2 e3 e4)
    go_ret
    have hfl : [Value.int .i64 (-1)] ++ ((a :: p).take p.length).flatMap inC = (payL (a :: p)).flatMap inC := by simp [payL, inC]
    rw [hfl, show 1 + p.length = (payL (a :: p)).length by rw [payL_len]; simp; omega] at e3
    obtain ⟨A, rfl, k1, k2⟩ := e3.at (f := inC) (fun _ => rfl)
    exact ⟨A, cap', by (rw [payL_len]; rfl), hb'.trans (e1.mono (Nat.le_refl _)), k1, by simpa [payL_len] using k2, e4⟩
end Go.Proofs.YtlldlkjngcgcjaaGreatDoor
namespace Go.Proofs.YtlldlkjngcgcjaaGreatDoor
set_option linter.unusedVariables false
set_option linter.unusedSimpArgs false
open Go.RowKit Go.Shelf
attribute [local go_sem] Oper.semAt_some
set_option maxRecDepth 100000 in
set_option maxHeartbeats 4000000 in
theorem ints_any (a b : List Int) (A B : Option Addr) (ca cb : Nat) (w : World) (hA : At 1 inC w w.heap.size A a) (hn : a.length ≤ ca) (hl : a.length ≤ 9223372036854775807) (hB : At 1 inC w w.heap.size B b) (hn2 : b.length ≤ cb) (hl2 : b.length ≤ 9223372036854775807) :
    Calls Tryz.prog 14 #[.slice A a.length ca, .slice B b.length cb] w fun e w' => e = .returned (.bool (decide (a = b))) ∧ Below w.heap.size w w' := by
  by_cases hlen : a.length = b.length
  · go_enter Tryz.func14, Tryz.ntmps14
    have hneq : ((a.length : Int) != (b.length : Int)) = false := by simp [hlen]
    have hlK := Kp.mk hlen
    clear hlen
    go_wp2
    clear hneq
    go_loopw [5] (fun s5 wr => ∃ k : Nat, k ≤ a.length ∧ s5 = .int .i64 k ∧ Kp (∀ (j : Nat) (h1 : j < a.length) (h2 : j < b.length), j < k → a[j] = b[j]) ∧ Below w.heap.size w wr) (fun s5 _ => a.length - (intOf s5).toNat)
    case atStart => exact ⟨0, Nat.zero_le _, rfl, ⟨fun j hj _ h => by omega⟩, bStart _⟩
    case round =>
      obtain ⟨k, hk, rfl, hno, hb⟩ := hrel
      by_cases hlt : k < a.length
      · have hlt2 : k < b.length := by have := hlK.out; omega
        obtain ⟨p, off, rfl, hbB, hcell⟩ := hA.run (Nat.le_refl _) hlt
        obtain ⟨p2, off2, rfl, hbB2, hcell2⟩ := hB.run (Nat.le_refl _) hlt2
        have c0 := fun d os => hcell (Sort.grow (redrawn wr d) os) (bAgain hb d os) 0 _ rfl
        have c1 := fun d os => hcell2 (Sort.grow (redrawn wr d) os) (bAgain hb d os) 0 _ rfl
        simp only [Nat.add_zero, Nat.mul_one] at c0 c1
        have hnx : Kp (a[k] = b[k] → ∀ (j : Nat) (h1 : j < a.length) (h2 : j < b.length), j < k + 1 → a[j] = b[j]) := ⟨fun h j h1 h2 hjk => by
          rcases Nat.lt_or_ge j k with h3 | h3
          · exact hno.out j h1 h2 h3
          · obtain rfl : j = k := by omega
            exact h⟩
        have hfin : Kp (a[k] ≠ b[k] → decide (a = b) = false) := ⟨fun h => decide_eq_false fun e => h ((eq_take hlK.out).1 e k hlt hlt2)⟩
        clear hcell hcell2 hA hB hno
        generalize a[k] = x at *
        generalize b[k] = y at *
        go_wp2_with fail
        refine wp_region_quiet_below (by kernel_rfl) (by kernel_rfl) ?_
        repeat (go_big_quiet_step (fail))
        refine wpQuiet_nil ?_
        rintro _ ⟨q, rfl⟩
        replace hb := bAgain hb q.d q.os
        clear c0 c1
        generalize Sort.grow (redrawn wr q.d) q.os = w2 at *
        by_cases e : x = y
        · have ht : (x != y) = false := by simp [e]
          have hnx' := Kp.mk (hnx.out e)
          clear hnx hfin e
          go_wp2
          exact ⟨⟨k + 1, by omega, by go_num, hnx', hb⟩, by simp [intOf]; omega⟩
        · have ht : (x != y) = true := bne_iff_ne.2 e
          have hfin' := Kp.mk (hfin.out e)
          clear hnx hfin e
          go_wp2
          go_ret
          exact ⟨ret_bool (by rw [hfin'.out]), hb⟩
      · have hfin : Kp (decide (a = b) = true) := ⟨decide_eq_true ((eq_take hlK.out).2 fun j h1 h2 => hno.out j h1 h2 (by omega))⟩
        clear hno hA hB
        go_wp2
        go_ret
        exact ⟨ret_bool (by rw [hfin.out]), hb⟩
  · go_enter Tryz.func14, Tryz.ntmps14
    have hneq : ((a.length : Int) != (b.length : Int)) = true := bne_iff_ne.2 (by omega)
    have hfin : Kp (decide (a = b) = false) := ⟨decide_eq_false fun e => hlen (by rw [e])⟩
    clear hlen
    go_wp2
    go_ret
    exact ⟨ret_bool (by rw [hfin.out]), bStart _⟩
theorem map_take {a b : List (Value × List Int)} (hl : a.length = b.length) : a.map (fun e : Value × List Int => e.2) = b.map (fun e : Value × List Int => e.2) ↔ ∀ (j : Nat) (h1 : j < a.length) (h2 : j < b.length), a[j].2 = b[j].2 := by
  constructor
  · intro e j h1 h2
    have h3 : (a.map (fun e : Value × List Int => e.2))[j]? = (b.map (fun e : Value × List Int => e.2))[j]? := by rw [e]
    rw [List.getElem?_map, List.getElem?_map, List.getElem?_eq_getElem h1, List.getElem?_eq_getElem h2] at h3
    simpa using h3
  · intro h
    exact List.ext_getElem (by simpa using hl) fun j h1 h2 => by simpa using h j (by simpa using h1) (by simpa using h2)
set_option maxRecDepth 100000 in
set_option maxHeartbeats 4000000 in
theorem sameLoops_any (x y : List (List Int)) (vx vy : Value) (w : World) (hX : RrA x vx w) (hY : RrA y vy w) :
    Calls Tryz.prog 20 #[vx, vy] w fun e w' => e = .returned (.bool (decide (x = y))) ∧ Below w.heap.size w w' := by
  obtain ⟨a, rfl, hla, A, ca, rfl, hA, hn, hca⟩ := hX
  obtain ⟨b, rfl, hlb, B, cb, rfl, hB, hn2, hcb⟩ := hY
  have hma := mlen hca
  have hmb := mlen hcb
  by_cases hlen : a.length = b.length
  · go_enter Tryz.func20, Tryz.ntmps20
    have hneq : ((a.length : Int) != (b.length : Int)) = false := by simp [hlen]
    have hlK := Kp.mk hlen
    clear hlen
    go_wp2
    clear hneq
    go_loopw [5] (fun s5 wr => ∃ k : Nat, k ≤ a.length ∧ s5 = .int .i64 k ∧ Kp (∀ (j : Nat) (h1 : j < a.length) (h2 : j < b.length), j < k → a[j].2 = b[j].2) ∧ Below w.heap.size w wr) (fun s5 _ => a.length - (intOf s5).toNat)
    case atStart => exact ⟨0, Nat.zero_le _, rfl, ⟨fun j hj _ h => by omega⟩, bStart _⟩
    case round =>
      obtain ⟨k, hk, rfl, hno, hb⟩ := hrel
      by_cases hlt : k < a.length
      · have hlt2 : k < b.length := by have := hlK.out; omega
        obtain ⟨p, off, rfl, hbB, hcell⟩ := hA.run (Nat.le_refl _) hlt
        obtain ⟨p2, off2, rfl, hbB2, hcell2⟩ := hB.run (Nat.le_refl _) hlt2
        have c0 := fun d os => hcell (Sort.grow (redrawn wr d) os) (bAgain hb d os) 0 _ rfl
        have c1 := fun d os => hcell2 (Sort.grow (redrawn wr d) os) (bAgain hb d os) 0 _ rfl
        simp only [Nat.add_zero, Nat.mul_one] at c0 c1
        have l1 := hla a[k] (List.getElem_mem hlt)
        have l2 := hlb b[k] (List.getElem_mem hlt2)
        have hnx : Kp (a[k].2 = b[k].2 → ∀ (j : Nat) (h1 : j < a.length) (h2 : j < b.length), j < k + 1 → a[j].2 = b[j].2) := ⟨fun h j h1 h2 hjk => by
          rcases Nat.lt_or_ge j k with h3 | h3
          · exact hno.out j h1 h2 h3
          · obtain rfl : j = k := by omega
            exact h⟩
        have hfin : Kp (a[k].2 ≠ b[k].2 → decide (a.map (fun e : Value × List Int => e.2) = b.map (fun e : Value × List Int => e.2)) = false) := ⟨fun h => decide_eq_false fun e => h ((map_take hlK.out).1 e k hlt hlt2)⟩
        clear hcell hcell2 hA hB hno
        generalize a[k] = x at *
        generalize b[k] = y at *
        obtain ⟨v1, x1⟩ := x
        obtain ⟨v2, x2⟩ := y
        dsimp only at l1 l2 hnx hfin
        obtain ⟨-, q1, o1, d1, rfl, i1, j1, m1⟩ := l1
        obtain ⟨-, q2, o2, d2, rfl, i2, j2, m2⟩ := l2
        have kI := fun d os => ints_any x1 x2 (some ⟨q1, o1, none⟩) (some ⟨q2, o2, none⟩) d1 d2 (Sort.grow (redrawn wr d) os) (i1.callx (bAgain hb d os)) j1 (by have := mlen m1; omega) (i2.callx (bAgain hb d os)) j2 (by have := mlen m2; omega)
        clear i1 i2
        generalize hdd : decide (x1 = x2) = dd at *
        go_wp2_with fail
        refine wp_region_quiet_below (by kernel_rfl) (by kernel_rfl) ?_
        repeat (go_big_quiet_step (first | (go_at_call 14; with_reducible exact Calls.regrown_of (kI _ _))))
        refine wpQuiet_nil ?_
        rintro _ ⟨q, rfl⟩
        replace hb := bAgain hb q.d q.os
        clear c0 c1 kI
        generalize Sort.grow (redrawn wr q.d) q.os = w2 at *
        cases dd
        · have hfin' := Kp.mk (hfin.out (of_decide_eq_false hdd))
          clear hnx hfin hdd
          go_wp2
          go_ret
          exact ⟨ret_bool (by rw [hfin'.out]), hb⟩
        · have hnx' := Kp.mk (hnx.out (of_decide_eq_true hdd))
          clear hnx hfin hdd
          go_wp2
          exact ⟨⟨k + 1, by omega, by go_num, hnx', hb⟩, by simp [intOf]; omega⟩
      · have hfin : Kp (decide (a.map (fun e : Value × List Int => e.2) = b.map (fun e : Value × List Int => e.2)) = true) := ⟨decide_eq_true ((map_take hlK.out).2 fun j h1 h2 => hno.out j h1 h2 (by omega))⟩
        clear hno hA hB
        go_wp2
        go_ret
        exact ⟨ret_bool (by rw [hfin.out]), hb⟩
  · go_enter Tryz.func20, Tryz.ntmps20
    have hneq : ((a.length : Int) != (b.length : Int)) = true := bne_iff_ne.2 (by omega)
    have hfin : Kp (decide (a.map (fun e : Value × List Int => e.2) = b.map (fun e : Value × List Int => e.2)) = false) := ⟨decide_eq_false fun e => hlen (by have := congrArg List.length e; simpa using this)⟩
    clear hlen
    go_wp2
    go_ret
    exact ⟨ret_bool (by rw [hfin.out]), bStart _⟩
end Go.Proofs.YtlldlkjngcgcjaaGreatDoor
namespace Go.Proofs.YtlldlkjngcgcjaaGreatDoor
set_option linter.unusedVariables false
set_option linter.unusedSimpArgs false
open Go.RowKit Go.Shelf
attribute [local go_sem] Oper.semAt_some
set_option maxRecDepth 100000 in
set_option maxHeartbeats 4000000 in
theorem same_any (q q' : Rq) (v v' : Value) (w : World) (hR : RoQ q v w) (hR' : RoQ q' v' w) :
    Calls Tryz.prog 60 #[v, v'] w fun e w' => e = .returned (.bool (decide (q.kind = q'.kind) && (decide (q.path = q'.path) && decide (q.used = q'.used)))) ∧ Below w.heap.size w w' := by
  obtain ⟨kind, path, used⟩ := q
  obtain ⟨kind1, path1, used1⟩ := q'
  obtain ⟨P, pc, U, uc, rfl, hP, hU, hPc, hUc, hPm, hUm⟩ := hR
  obtain ⟨P1, pc1, U1, uc1, rfl, h1, h2, h3, h4, h5, h6⟩ := hR'
  dsimp only at hP hU hPc hUc h1 h2 h3 h4 ⊢
  have hbn := bNew (bNx w (.cells #[.int .i64 kind, .slice P path.length pc, .slice U used.length uc] 45)) (.cells #[.int .i64 kind1, .slice P1 path1.length pc1, .slice U1 used1.length uc1] 45)
  have B := (Bx.mk w 45 #[.int .i64 kind, .slice P path.length pc, .slice U used.length uc]).new (.cells #[.int .i64 kind1, .slice P1 path1.length pc1, .slice U1 used1.length uc1] 45)
  have B2 := Bx.mk (w.alloc (.cells #[.int .i64 kind, .slice P path.length pc, .slice U used.length uc] 45)) 45 #[.int .i64 kind1, .slice P1 path1.length pc1, .slice U1 used1.length uc1]
  simp only [World.size_alloc] at B2
  have g1 := fun w0 hw => ints_any path path1 P P1 pc pc1 w0 ((hP.callx hbn).callx hw) hPc (Nat.le_trans hPc (mlen hPm)) ((h1.callx hbn).callx hw) h3 (Nat.le_trans h3 (mlen h5))
  have g2 := fun w0 hw => ints_any used used1 U U1 uc uc1 w0 ((hU.callx hbn).callx hw) hUc (Nat.le_trans hUc (mlen hUm)) ((h2.callx hbn).callx hw) h4 (Nat.le_trans h4 (mlen h6))
  clear hP hU h1 h2 h3 h4 h5 h6 hPc hUc hPm hUm
  generalize decide (path = path1) = b3 at *
  generalize decide (used = used1) = b4 at *
  have c0 := B.cell 0 rfl
  have c1 := B.cell 1 rfl
  have c2 := B.cell 2 rfl
  have d0 := B2.cell 0 rfl
  have d1 := B2.cell 1 rfl
  have d2 := B2.cell 2 rfl
  by_cases hk : kind = kind1
  · have tk : (kind == kind1) = true := by simpa using hk
    rw [decide_eq_true hk, Bool.true_and]
    clear hk
    have g1' := g1 _ (bStart _)
    go_enter Tryz.func60, Tryz.ntmps60
    go_wp2_with fail
    refine g1'.mono ?_
    rintro _ w2 ⟨rfl, hb2⟩
    clear c0 c1 c2 d0 d1 d2 g1' g1
    have hb := bCall hbn hb2
    have c2 := (B.call hb2).cell 2 rfl
    have d2 := (B2.call hb2).cell 2 rfl
    cases b3
    · clear g2
      go_wp2
      go_ret
      exact ⟨ret_bool (by simp), hb⟩
    · have g2' := g2 w2 hb2
      go_wp2_with fail
      refine g2'.mono ?_
      rintro _ w3 ⟨rfl, hb3⟩
      clear g2' g2 c2 d2
      go_wp2
      go_ret
      exact ⟨ret_bool (by simp), bCall hb hb3⟩
  · have tk : (kind == kind1) = false := by simpa using hk
    rw [decide_eq_false hk, Bool.false_and]
    clear hk g1 g2
    go_enter Tryz.func60, Tryz.ntmps60
    go_wp2
    go_ret
    exact ⟨ret_bool (by simp), hbn⟩
/-- the law's settings -/
def seL : List Tw.St := [⟨10, 1, 20, 0, 1000⟩, ⟨20, 2, 30, 0, 1000⟩, ⟨30, 1, 10, 500, 1000⟩]
theorem settings_any (w : World) : Calls Tryz.prog 17 #[] w fun e w' => ∃ A, e = .returned (.slice A seL.length 3) ∧ Below w.heap.size w w' ∧ At 5 stC w' w'.heap.size A seL ∧ RowC 33 5 w.heap.size 3 3 (seL.flatMap stC) (.slice A seL.length 3) w' := by
  have hrow : RowC 33 5 w.heap.size 3 seL.length (seL.flatMap stC) (.slice (some ⟨w.heap.size, 0, none⟩) 3 3) (w.alloc (.cells (seL.flatMap stC).toArray 33)) := ⟨w.heap.size, _, rfl, Nat.le_refl _, Nat.le_refl _, Bx.mk _ _ _, rfl, rfl⟩
  obtain ⟨A, e2, k1, k2⟩ := RowC.at (p := seL) (f := stC) (fun _ => rfl) hrow
  simp only [Value.slice.injEq] at e2
  obtain ⟨rfl, -⟩ := e2
  go_enter Tryz.func17, Tryz.ntmps17
  go_wp2
  go_ret
  exact ⟨_, rfl, bNx w _, k1, hrow⟩
def pickI (x n : Int) : Int := (if x < 0 then -(x + 1) else x) % n
end Go.Proofs.YtlldlkjngcgcjaaGreatDoor
namespace Go.Proofs.YtlldlkjngcgcjaaGreatDoor
set_option linter.unusedVariables false
set_option linter.unusedSimpArgs false
open Go.RowKit Go.Shelf
attribute [local go_sem] Oper.semAt_some
set_option maxRecDepth 100000 in
set_option maxHeartbeats 4000000 in
theorem ends_true (c : List (Int × Int)) (C : Option Addr) (ccap : Nat) (t : Int) (q : Rq) (P U : Option Addr) (pc uc : Nat) (w : World) (hC : At 2 cdC w w.heap.size C c) (hcn : c.length ≤ ccap) (hcl : c.length ≤ 9223372036854775807)
    (hP : At 1 inC w w.heap.size P q.path) (hU : At 1 inC w w.heap.size U q.used) (hPc : q.path.length ≤ pc) (hUc : q.used.length ≤ uc) (hPm : pc ≤ maxLen) (hUm : uc ≤ maxLen) (hok : rsB seL c 10 t) (hq : toQ (Tw.route seL c 10 t) = q) :
    Calls Tryz.prog 19 #[.slice C c.length ccap, .int .i64 t, .int .i64 q.kind, .slice P q.path.length pc, .slice U q.used.length uc] w fun e w' => e = .returned (.bool true) ∧ Below w.heap.size w w' := by
  have hbn := bNx w (.cells #[.int .i64 q.kind, .slice P q.path.length pc, .slice U q.used.length uc] 45)
  have B := Bx.mk w 45 #[.int .i64 q.kind, .slice P q.path.length pc, .slice U q.used.length uc]
  go_enter Tryz.func19, Tryz.ntmps19
  go_wp2_with fail
  refine (settings_any _).mono ?_
  rintro _ w2 ⟨A, rfl, hb2, hA, -⟩
  replace hbn := bCall hbn hb2
  replace B := B.call hb2
  clear hb2
  go_wp2_with fail
  refine (resolve_any seL A 3 c C ccap 10 t w2 hA (Nat.le_refl _) (by decide) (hC.callx hbn) hcn hcl).mono ?_
  rintro _ w3 ⟨v3, rfl, hb3, hro⟩
  obtain ⟨e1, e2⟩ := res_t hok
  rw [e1] at hro
  rw [e2]
  have hroq := hro.q
  rw [hq] at hroq
  obtain ⟨P1, pc1, U1, uc1, rfl, k1, k2, k3, k4, k5, k6⟩ := hroq
  replace hbn := bCall hbn hb3
  replace B := B.call hb3
  clear hb3 hA hro e1 e2
  have hb4 := bNx w3 (.cells #[.int .i64 q.kind, .slice P1 q.path.length pc1, .slice U1 q.used.length uc1] 45)
  have D := Bx.mk w3 45 #[.int .i64 q.kind, .slice P1 q.path.length pc1, .slice U1 q.used.length uc1]
  have c0 := (B.call hb4).cell 0 rfl
  have c1 := (B.call hb4).cell 1 rfl
  have c2 := (B.call hb4).cell 2 rfl
  have d0 := D.cell 0 rfl
  have d1 := D.cell 1 rfl
  have d2 := D.cell 2 rfl
  replace hP := hP.callx (bCall hbn hb4)
  replace hU := hU.callx (bCall hbn hb4)
  have hCC := hC.callx (bCall hbn hb4)
  replace k1 := k1.callx hb4
  replace k2 := k2.callx hb4
  replace B := B.call hb4
  clear hC c0 c1 c2 d0 d1 d2
  go_wp2_with fail
  refine wp_region_rglG [Eqv (.int .i64 0), Eqv (.bool true), Eqv (.bool true), Eqv (.agg #[.int .i64 q.kind, .slice P1 q.path.length pc1, .slice U1 q.used.length uc1]), Eqv (.agg #[.int .i64 q.kind, .slice P q.path.length pc, .slice U q.used.length uc]), Eqv (.bool true), Eqv (.bool true), Eqv (.bool true), (fun v W => ∃ A, v = .slice A seL.length 3 ∧ At 5 stC W W.heap.size A seL), Eqv (.slice C c.length ccap), Eqv (.int .i64 t), Eqv (.agg #[.int .i64 q.kind, .slice P q.path.length pc, .slice U q.used.length uc]), Eqv (.bool true), Eqv (.bool true), Eqv (.bool true)] 15 39 (by kernel_rfl) rfl rfl (by kernel_rfl) ?_ ?_ ?_
  · simp only [AllS]
    exact ⟨stab_eqv _, stab_eqv _, stab_eqv _, stab_eqv _, stab_eqv _, stab_eqv _, stab_eqv _, stab_eqv _, (fun v w w' ⟨A, h1, h2⟩ hb => ⟨A, h1, h2.callx hb⟩), stab_eqv _, stab_eqv _, stab_eqv _, stab_eqv _, stab_eqv _, stab_eqv _, trivial⟩
  · simp only [UsersG, List.take, List.length]
    refine ⟨?_, ?_, ?_, ?_, ?_, ?_, ?_, ?_, ?_, ?_, ?_, ?_, ?_, ?_, ?_, trivial⟩
    all_goals (intro vs w2 hb2 hd; simp only [putD, Act.put, List.nil_append, List.cons_append, List.setIfInBounds_toArray, List.set_cons_succ, List.set_cons_zero, Nat.reduceAdd])
    · clear hd hP hU k1 k2 hCC B D; go_wp2; first | exact ⟨Below.refl _ _, rfl⟩ | exact ⟨Below.refl _ _, by simp [Eqv]⟩ | (simp [Eqv])
    · have e0 := hd 0 rfl; change vs 0 = _ at e0; clear hd hP hU k1 k2 hCC B D; rw [e0]; go_wp2; first | exact ⟨Below.refl _ _, rfl⟩ | exact ⟨Below.refl _ _, by simp [Eqv]⟩ | (simp [Eqv])
    · have e0 := hd 1 rfl; change vs 1 = _ at e0; clear hd hP hU k1 k2 hCC B D; rw [e0]; go_wp2; first | exact ⟨Below.refl _ _, rfl⟩ | exact ⟨Below.refl _ _, by simp [Eqv]⟩ | (simp [Eqv])
    · have e0 := hd 2 rfl; change vs 2 = _ at e0; have x0 := (D.call hb2).cell 0 rfl; have x1 := (D.call hb2).cell 1 rfl; have x2 := (D.call hb2).cell 2 rfl; clear hd hP hU k1 k2 hCC B D; rw [e0]; go_wp2; first | exact ⟨Below.refl _ _, rfl⟩ | exact ⟨Below.refl _ _, by simp [Eqv]⟩ | (simp [Eqv])
    · have e0 := hd 2 rfl; change vs 2 = _ at e0; have x0 := (B.call hb2).cell 0 rfl; have x1 := (B.call hb2).cell 1 rfl; have x2 := (B.call hb2).cell 2 rfl; clear hd hP hU k1 k2 hCC B D; rw [e0]; go_wp2; first | exact ⟨Below.refl _ _, rfl⟩ | exact ⟨Below.refl _ _, by simp [Eqv]⟩ | (simp [Eqv])
    · have e0 : vs 2 = _ := hd 2 rfl
      have e1 : vs 3 = _ := hd 3 rfl
      have e2 : vs 4 = _ := hd 4 rfl
      have hC := same_any q q _ _ w2 ⟨P1, pc1, U1, uc1, rfl, k1.callx hb2, k2.callx hb2, k3, k4, k5, k6⟩ ⟨P, pc, U, uc, rfl, hP.callx hb2, hU.callx hb2, hPc, hUc, hPm, hUm⟩
      clear hd hP hU k1 k2 hCC B D
      rw [e0, e1, e2]
      go_wp2_with fail
      refine hC.mono ?_
      rintro _ w9 ⟨rfl, hb9⟩
      simp only [decide_true, Bool.and_self]
      clear hC
      go_wp2
      first | exact ⟨hb9, rfl⟩ | exact rfl
    · have e0 := hd 2 rfl; change vs 2 = _ at e0; have e1 := hd 5 rfl; change vs 5 = _ at e1; clear hd hP hU k1 k2 hCC B D; rw [e0, e1]; go_wp2; first | exact ⟨Below.refl _ _, rfl⟩ | exact ⟨Below.refl _ _, by simp [Eqv]⟩ | (simp [Eqv])
    · have e0 := hd 6 rfl; change vs 6 = _ at e0; clear hd hP hU k1 k2 hCC B D; rw [e0]; go_wp2; first | exact ⟨Below.refl _ _, rfl⟩ | exact ⟨Below.refl _ _, by simp [Eqv]⟩ | (simp [Eqv])
    · have e0 : vs 7 = _ := hd 7 rfl
      clear hd hP hU k1 k2 hCC B D
      rw [e0]
      go_wp2_with fail
      refine (settings_any _).mono ?_
      rintro _ w9 ⟨A, rfl, hb9, hA, -⟩
      go_wp2
      first | exact ⟨hb9, A, rfl, hA⟩ | exact ⟨A, rfl, hA⟩
    · have e0 := hd 7 rfl; change vs 7 = _ at e0; clear hd hP hU k1 k2 hCC B D; rw [e0]; go_wp2; first | exact ⟨Below.refl _ _, rfl⟩ | exact ⟨Below.refl _ _, by simp [Eqv]⟩ | (simp [Eqv])
    · have e0 := hd 7 rfl; change vs 7 = _ at e0; clear hd hP hU k1 k2 hCC B D; rw [e0]; go_wp2; first | exact ⟨Below.refl _ _, rfl⟩ | exact ⟨Below.refl _ _, by simp [Eqv]⟩ | (simp [Eqv])
    · have e0 := hd 7 rfl; change vs 7 = _ at e0; have x0 := (B.call hb2).cell 0 rfl; have x1 := (B.call hb2).cell 1 rfl; have x2 := (B.call hb2).cell 2 rfl; clear hd hP hU k1 k2 hCC B D; rw [e0]; go_wp2; first | exact ⟨Below.refl _ _, rfl⟩ | exact ⟨Below.refl _ _, by simp [Eqv]⟩ | (simp [Eqv])
    · have e0 : vs 7 = _ := hd 7 rfl
      obtain ⟨A, e1, hA⟩ : ∃ A, vs 8 = .slice A seL.length 3 ∧ At 5 stC w2 w2.heap.size A seL := hd 8 rfl
      have e2 : vs 9 = _ := hd 9 rfl
      have e3 : vs 10 = _ := hd 10 rfl
      have e4 : vs 11 = _ := hd 11 rfl
      have hC := check_any seL A 3 c C ccap 10 t q _ w2 hA (Nat.le_refl _) (by decide) (hCC.callx hb2) hcn hcl ⟨P, pc, U, uc, rfl, hP.callx hb2, hU.callx hb2, hPc, hUc, hPm, hUm⟩
      rw [ckB_t ⟨hok, hq.symm⟩] at hC
      clear hd hP hU k1 k2 hCC B D
      rw [e0, e1, e2, e3, e4]
      go_wp2_with fail
      refine hC.mono ?_
      rintro _ w9 ⟨rfl, hb9⟩
      clear hC
      go_wp2
      first | exact ⟨hb9, rfl⟩ | exact rfl
    · have e0 := hd 7 rfl; change vs 7 = _ at e0; have e1 := hd 12 rfl; change vs 12 = _ at e1; clear hd hP hU k1 k2 hCC B D; rw [e0, e1]; go_wp2; first | exact ⟨Below.refl _ _, rfl⟩ | exact ⟨Below.refl _ _, by simp [Eqv]⟩ | (simp [Eqv])
    · have e0 := hd 13 rfl; change vs 13 = _ at e0; clear hd hP hU k1 k2 hCC B D; rw [e0]; go_wp2; first | exact ⟨Below.refl _ _, rfl⟩ | exact ⟨Below.refl _ _, by simp [Eqv]⟩ | (simp [Eqv])
  · intro vs wa hba hR2
    simp only [AllR, Eqv] at hR2
    obtain ⟨-, -, -, -, -, -, -, -, -, -, -, -, -, -, e14, -⟩ := hR2
    simp only [List.drop, List.take, List.map, putD, Act.put, List.setIfInBounds_toArray, List.set_cons_succ, List.set_cons_zero, Nat.reduceAdd]
    rw [e14]
    have hb9 := bCall (bCall hbn hb4) hba
    clear hP hU k1 k2 hCC B D
    go_wp2
    go_ret
    exact ⟨rfl, hb9⟩
end Go.Proofs.YtlldlkjngcgcjaaGreatDoor
namespace Pl
abbrev S := List UInt8
def dig (c : UInt8) : Bool := decide (48 ≤ c.toNat) && decide (c.toNat ≤ 57)
def digits (s : S) : Bool := s.all dig
def apart (a b : S) : Bool := !(a.isPrefixOf b) && !(b.isPrefixOf a)
structure Cd where
  old : S
  new : S
  len : Int
def within (n lo hi : Int) : Bool := decide (lo ≤ n) && decide (n ≤ hi)
def room (c : Cd) : Int := c.len - c.old.length
def isCode (c : Cd) : Bool :=
  digits (c.old ++ c.new) && within c.old.length 1 4 && within c.new.length 1 5 && within c.len (c.old.length + 1) 7 && decide (room c ≤ 8 - c.new.length) && apart c.old c.new
def differ (a b : Cd) : Bool := apart a.old b.old && apart a.new b.new && apart a.old b.new && apart a.new b.old
/-- every pair (later, earlier) is accepted -/
def allPairs (p : List Cd) : Bool := (List.range p.length).all fun i => (p.take i).all fun b => match p[i]? with | some a => differ a b | none => true
def valid (p : List Cd) : Bool := p.all isCode && decide (p.length ≤ 20) && allPairs p
def isPhase (n : Int) : Bool := within n 1 3
def zeros (n : Nat) : S := List.replicate n 48
structure Ent where
  code : Int
  length : Int
  stands : S
def ents (p : List Cd) (ph : Int) : List (S × Ent) :=
  p.zipIdx.flatMap fun (c, i) =>
    (if ph ≠ 3 then [(c.old, ⟨(i : Int), c.len, c.new ++ zeros (8 - c.new.length - room c).toNat⟩)] else []) ++
    (if ph ≠ 1 then [(c.new, ⟨(i : Int), 8, c.new⟩)] else [])
def val (s : S) : Nat := s.foldl (fun n c => 10 * n + (c.toNat - 48)) 0
structure Dialled where
  kind : Int
  number : Int
  code : Int
  used : Int
deriving DecidableEq
def begun (es : List (S × Ent)) (s : S) : Option (Nat × Ent) :=
  (List.range (s.length + 1)).findSome? fun k => (es.lookup (s.take k)).map fun x => (k, x)
def read (p : List Cd) (s : S) (ph : Int) : Dialled × Int :=
  if !valid p || !digits s || !decide (s.length ≤ 16) || !isPhase ph then (⟨0, 0, 0, 0⟩, 120) else
  match begun (ents p ph) s with
  | some (k, x) => if (s.length : Int) < x.length then (⟨1, 0, 0, 0⟩, 0) else (⟨2, val (x.stands ++ (s.take x.length.toNat).drop k), x.code, x.length⟩, 0)
  | none => if (ents p ph).any fun e => s.isPrefixOf e.1 then (⟨1, 0, 0, 0⟩, 0) else (⟨0, 0, 0, 0⟩, 0)
def digitAt (n k : Nat) : UInt8 := 48 + UInt8.ofNat (n / 10 ^ (7 - k) % 10)
def eight (n : Nat) : S := (List.range 8).map (digitAt n)
def write (p : List Cd) (n : Int) (ph : Int) : S × Int :=
  if !valid p || !isPhase ph || !within n 0 99999999 then ([], 120) else
  match p.find? (fun c => c.new.isPrefixOf (eight n.toNat)) with
  | none => ([], 120)
  | some c => if ph ≠ 1 then (eight n.toNat, 0) else
    let cut := (8 - room c).toNat
    if ((eight n.toNat).take cut).drop c.new.length = zeros (cut - c.new.length) then (c.old ++ (eight n.toNat).drop cut, 0) else ([], 120)
def range (p : List Cd) (i : Int) (ph : Int) : Int × Int × Int :=
  if !valid p || !within i 0 ((p.length : Int) - 1) || !isPhase ph then (0, 0, 120) else
  match p[i.toNat]? with
  | none => (0, 0, 120)
  | some c =>
    let from_ := (val c.new : Int) * 10 ^ (8 - c.new.length)
    let size : Int := if ph = 1 then 10 ^ (room c).toNat else 10 ^ (8 - c.new.length)
    (from_, from_ + size, 0)
def reads (p : List Cd) (s : S) : Int × Bool :=
  let r := read p s 2
  (r.1.number, r.2 == 0 && r.1.kind == 2 && r.1.used == s.length)
def same (p : List Cd) (a b : S) : Bool := (reads p a).2 && (reads p b).2 && (reads p a).1 == (reads p b).1
def pick (c n : Int) : Int := (if c < 0 then -(c + 1) else c) % n
def pref (c : Nat) : Nat → S
  | 0 => []
  | k + 1 => (48 + UInt8.ofNat (c % 10)) :: pref (c / 10) k
structure T3 where
  a : Int
  b : Int
  c : Int
def one (x : T3) : Cd :=
  let o := pref (pick (x.a.tdiv 3) 1000).toNat (1 + pick x.a 3).toNat
  let n := pref (pick (x.b.tdiv 3) 1000).toNat (1 + pick x.b 3).toNat
  ⟨o, n, o.length + 1 + pick x.c (min (7 - (o.length : Int)) (8 - (n.length : Int)))⟩
def madeStep (p : List Cd) (x : T3) : List Cd :=
  if p.length < 8 then (if valid (p ++ [one x]) then p ++ [one x] else p) else p
def made (x : List T3) : List Cd := (x.take 16).foldl madeStep []
def number (p : List Cd) (which n : Int) : Int :=
  if p.length = 0 ∨ pick which 16 = 15 then pick n 100000000 else
  let r := range p (pick (which.tdiv 16) p.length) (1 + pick which 3)
  r.1 + pick n (r.2.1 - r.1)
def text (x : List Int) : S := (x.take 17).map fun c => 48 + UInt8.ofNat (pick c 10).toNat

/-- the pairs whose later element is among the first k -/
def pairsTo (p : List Cd) (k : Nat) : Bool := (List.range k).all fun i => (p.take i).all fun b => match p[i]? with | some a => differ a b | none => true
theorem allPairs_eq (p : List Cd) : allPairs p = pairsTo p p.length := rfl
theorem pairsTo_zero (p : List Cd) : pairsTo p 0 = true := rfl
theorem pairsTo_succ (p : List Cd) (k : Nat) (h : k < p.length) : pairsTo p (k + 1) = (pairsTo p k && (p.take k).all fun b => differ p[k] b) := by
  simp [pairsTo, List.range_succ, List.getElem?_eq_getElem h]
theorem allPairs_bad (p : List Cd) (k m : Nat) (h : k < p.length) (hm : m < k) (hd : differ p[k] p[m] = false) : allPairs p = false := by
  rw [allPairs_eq]
  simp only [pairsTo, List.all_eq_false]
  refine ⟨k, by simpa using h, ?_⟩
  simp only [Bool.not_eq_true, List.all_eq_false]
  exact ⟨p[m], List.mem_take_iff_getElem.2 ⟨m, by omega, rfl⟩, by simp [List.getElem?_eq_getElem h, hd]⟩
/-- what a valid plan says of a code of it -/
structure Fine (c : Cd) : Prop where
  dold : digits c.old = true
  dnew : digits c.new = true
  o1 : 1 ≤ c.old.length
  o4 : c.old.length ≤ 4
  n1 : 1 ≤ c.new.length
  n5 : c.new.length ≤ 5
  l1 : (c.old.length : Int) + 1 ≤ c.len
  l7 : c.len ≤ 7
  fit : room c ≤ 8 - c.new.length
  ap : apart c.old c.new = true
theorem fine_of {c : Cd} (h : isCode c = true) : Fine c := by
  simp only [isCode, within, Bool.and_eq_true, decide_eq_true_eq, digits, List.all_append] at h
  obtain ⟨⟨⟨⟨⟨⟨h1, h2⟩, h3, h4⟩, h5, h6⟩, h7, h8⟩, h9⟩, h10⟩ := h
  exact ⟨h1, h2, by omega, by omega, by omega, by omega, h7, h8, h9, h10⟩
theorem valid_fine {p : List Cd} (h : valid p = true) {c : Cd} (hc : c ∈ p) : Fine c := by
  simp only [valid, Bool.and_eq_true, List.all_eq_true] at h
  exact fine_of (h.1.1 c hc)
theorem valid_len {p : List Cd} (h : valid p = true) : p.length ≤ 20 := by
  simp only [valid, Bool.and_eq_true, decide_eq_true_eq] at h
  exact h.1.2
theorem digits_mem {s : S} (h : digits s = true) : ∀ c ∈ s, 48 ≤ c.toNat ∧ c.toNat ≤ 57 := by
  intro c hc
  have := List.all_eq_true.1 h c hc
  simpa [dig] using this
/-! ### small laws -/
theorem eight_len (n : Nat) : (eight n).length = 8 := by simp [eight]
theorem eight_drop (n k : Nat) (hk : k < 8) (c : Nat) (hc : c = n / 10 ^ k) : [48 + UInt8.ofNat (c % 10)] ++ (eight n).drop (8 - k) = (eight n).drop (8 - (k + 1)) := by
  have h : 8 - (k + 1) < (eight n).length := by rw [eight_len]; omega
  rw [List.drop_eq_getElem_cons h, show 8 - (k + 1) + 1 = 8 - k by omega]
  have : (eight n)[8 - (k + 1)] = 48 + UInt8.ofNat (c % 10) := by
    simp only [eight, List.getElem_map, List.getElem_range, digitAt]
    rw [show 7 - (8 - (k + 1)) = k by omega, hc]
  rw [this]; rfl
theorem take_snoc {α : Type} (s : List α) (k : Nat) (hk : k < s.length) : s.take (k + 1) = s.take k ++ [s[k]] := by
  rw [List.take_succ_eq_append_getElem hk]
theorem digits_good (s : S) (k : Nat) (hk : k < s.length) (h : 48 ≤ s[k].toNat ∧ s[k].toNat ≤ 57) (hd : digits (s.take k) = true) : digits (s.take (k + 1)) = true := by
  rw [take_snoc s k hk]
  simp only [digits, List.all_append, Bool.and_eq_true] at *
  exact ⟨hd, by simp [dig, h]⟩
theorem digits_bad (s : S) (k : Nat) (hk : k < s.length) (h : s[k].toNat < 48 ∨ 57 < s[k].toNat) : digits s = false := by
  simp only [digits, List.all_eq_false]
  exact ⟨s[k], List.getElem_mem hk, by simp [dig]; omega⟩
end Pl
namespace Go.Proofs.YtlldlkjngcgcjaaGreatDoor
set_option linter.unusedVariables false
namespace Tw
def fmC (s : St) : Bool := decide (0 ≤ s.n) && decide (s.n ≤ 99999999) && decide (0 ≤ s.to) && decide (s.to ≤ 99999999) && !decide (s.n = s.to) && decide (1 ≤ s.k) && decide (s.k ≤ 4) && decide (0 ≤ s.f) && decide (s.f < s.e) && decide (s.e ≤ 10000001)
theorem fm_of {s : St} (h : fmC s = true) : Fm s := by
  unfold fmC at h
  simp only [Bool.and_eq_true, decide_eq_true_eq, Bool.not_eq_true', decide_eq_false_iff_not] at h
  obtain ⟨⟨⟨⟨⟨⟨⟨⟨⟨h1, h2⟩, h3⟩, h4⟩, h5⟩, h6⟩, h7⟩, h8⟩, h9⟩, h10⟩ := h
  exact ⟨h1, h2, h3, h4, h5, h6, h7, h8, h9, h10⟩
def clC (a b : St) : Bool := decide (a.n = b.n) && decide (a.k = b.k) && (a.has b.f || b.has a.f)
theorem cl_of' {a b : St} (h : clC a b = false) : ¬ Cl a b := fun ⟨h1, h2, h3⟩ => by
  have : clC a b = true := by
    unfold clC
    rw [decide_eq_true h1, decide_eq_true h2]
    rcases h3 with h3 | h3 <;> rw [h3] <;> simp
  rw [this] at h; cases h
def ncC : List St → Bool
  | [] => true
  | a :: l => (l.all fun b => !clC a b) && ncC l
theorem nc_of : ∀ {l : List St}, ncC l = true → l.Pairwise fun a b => ¬ Cl a b
  | [], _ => List.Pairwise.nil
  | a :: l, h => by
    unfold ncC at h
    rw [Bool.and_eq_true, List.all_eq_true] at h
    exact List.pairwise_cons.2 ⟨fun b hb => cl_of' (by simpa using h.1 b hb), nc_of h.2⟩
def vaC (l : List St) : Bool := decide (l.length ≤ 40) && l.all fmC && ncC l
theorem va_of {l : List St} (h : vaC l = true) : Va l := by
  unfold vaC at h
  rw [Bool.and_eq_true, Bool.and_eq_true, decide_eq_true_eq, List.all_eq_true] at h
  exact ⟨h.1.1, fun s hs => fm_of (h.1.2 s hs), nc_of h.2⟩
end Tw
def seP : List Tw.St := [⟨10, 1, 20, 0, 1000⟩, ⟨20, 2, 30, 0, 1000⟩, ⟨30, 1, 10, 500, 1000⟩]
def adP : Tw.St := ⟨20, 1, 30, 100, 2000⟩
def adQ : Tw.St := ⟨20, 1, 30, 100, 500⟩
theorem va_seP : Tw.Va seP := Tw.va_of (by decide)
theorem va_adP : Tw.Va (seP ++ [adP]) := Tw.va_of (by decide)
theorem va_adQ : Tw.Va (seP ++ [adQ]) := Tw.va_of (by decide)
theorem not_va2 : ¬ Tw.Va (seP ++ [⟨10, 1, 20, 0, 1000⟩]) := fun h => by
  have := h.nc
  simp only [seP, List.cons_append, List.nil_append, List.pairwise_cons] at this
  exact this.1 _ (by simp) ⟨rfl, rfl, .inl (by decide)⟩
theorem loops_se : Tw.loopsL seP 600 = [] := by decide
theorem loops_ad : Tw.loopsL (seP ++ [adP]) 600 = [[10, 20, 30]] := by decide
theorem route_1 : Tw.route seP [] 10 100 = ⟨1, [10, 20], [0]⟩ := by rfl
theorem route_2 : Tw.route seP [(20, 2)] 10 100 = ⟨1, [10, 20, 30], [0, 1]⟩ := by rfl
theorem route_3 : Tw.route seP [(20, 2), (30, 2)] 10 100 = ⟨2, [10, 20, 30], [0, 1]⟩ := by rfl
theorem route_4 : Tw.route seP [(20, 2)] 10 600 = ⟨5, [10, 20, 30, 10], [0, 1, 2]⟩ := by rfl
theorem route_5 : Tw.route seP [] 10 1000 = ⟨1, [10], []⟩ := by rfl
/-- what the law writes down as the plan's line -/
def plP : List Pl.Cd := [⟨[49, 50], [51, 52], 5⟩]
theorem pl_va : Pl.valid plP = true := by decide
theorem read_1 : Pl.read plP [49, 50, 53, 54, 55] 2 = (⟨2, 34000567, 0, 5⟩, 0) := by decide
theorem read_2 : Pl.read plP [51, 52, 48, 48, 48, 53, 54, 55] 2 = (⟨2, 34000567, 0, 8⟩, 0) := by decide
theorem read_3 : Pl.read plP [49, 50, 53, 54, 55, 56] 2 = (⟨2, 34000567, 0, 5⟩, 0) := by decide
theorem times_ad : Tw.timesL (seP ++ [adP]) adP = [500, 100] := by decide
theorem times_aq : Tw.timesL (seP ++ [adQ]) adQ = [100] := by decide
theorem first_aq : Tw.firstL (seP ++ [adQ]) 20 [100] = none := by decide
theorem first_ad : Tw.firstL (seP ++ [adP]) 20 [100, 500] = some 500 := by decide
end Go.Proofs.YtlldlkjngcgcjaaGreatDoor
namespace Go.Proofs.YtlldlkjngcgcjaaGreatDoor
set_option linter.unusedVariables false
set_option linter.unusedSimpArgs false
open Go.RowKit Go.Shelf
theorem at_new1 {α : Type} {f : α → List Value} (hf : ∀ c, (f c).length = 1) (l : List α) (w : World) (t : TypeId) (hl : l.length ≤ maxLen) : At 1 f (w.alloc (.cells (l.flatMap f).toArray t)) (w.alloc (.cells (l.flatMap f).toArray t)).heap.size (some ⟨w.heap.size, 0, none⟩) l := by
  have hlen : (l.flatMap f).length = l.length := by
    induction l with
    | nil => rfl
    | cons a l ih => rw [List.flatMap_cons, List.length_append, hf, ih (by simp at hl; omega), List.length_cons]; omega
  obtain ⟨A, e, h, -⟩ := RowC.at (p := l) (f := f) hf (show RowC t 1 0 l.length l.length (l.flatMap f) (.slice (some ⟨w.heap.size, 0, none⟩) l.length l.length) (w.alloc (.cells (l.flatMap f).toArray t)) from ⟨w.heap.size, _, rfl, Nat.zero_le _, Nat.le_refl _, Bx.mk _ _ _, by simp [hlen], by rw [Nat.mul_one, ← hlen]; show ((l.flatMap f).take (l.flatMap f).length) = _; exact List.take_length⟩)
  simp only [Value.slice.injEq] at e
  obtain ⟨rfl, -⟩ := e
  exact h
theorem ends_at (c : List (Int × Int)) (C : Option Addr) (ccap : Nat) (t : Int) (r : Tw.Ro) (w : World) (hC : At 2 cdC w w.heap.size C c) (hcn : c.length ≤ ccap) (hcl : c.length ≤ 9223372036854775807) (hok : rsB seL c 10 t) (hr : Tw.route seL c 10 t = r) (hp : r.path.length ≤ maxLen) (hu : r.used.length ≤ maxLen) :
    Calls Tryz.prog 19 #[.slice C c.length ccap, .int .i64 t, .int .i64 r.kind, .slice (some ⟨w.heap.size, 0, none⟩) r.path.length r.path.length, .slice (some ⟨w.heap.size + 1, 0, none⟩) r.used.length r.used.length] ((w.alloc (.cells (r.path.flatMap inC).toArray 3)).alloc (.cells (r.used.flatMap idC).toArray 3)) fun e w' => e = .returned (.bool true) ∧ Below w.heap.size w w' := by
  have hb1 := bNx w (.cells (r.path.flatMap inC).toArray 3)
  have hb2 := bNx (w.alloc (.cells (r.path.flatMap inC).toArray 3)) (.cells (r.used.flatMap idC).toArray 3)
  have hb := bCall hb1 hb2
  have hP := (at_new1 (f := inC) (fun _ => rfl) r.path w 3 hp).callx hb2
  have hU0 := at_new1 (f := idC) (fun _ => rfl) r.used (w.alloc (.cells (r.path.flatMap inC).toArray 3)) 3 hu
  have hs1 : (w.alloc (.cells (r.path.flatMap inC).toArray 3)).heap.size = w.heap.size + 1 := World.size_alloc _ _
  have hU : At 1 idC ((w.alloc (.cells (r.path.flatMap inC).toArray 3)).alloc (.cells (r.used.flatMap idC).toArray 3)) ((w.alloc (.cells (r.path.flatMap inC).toArray 3)).alloc (.cells (r.used.flatMap idC).toArray 3)).heap.size (some ⟨w.heap.size + 1, 0, none⟩) r.used := by
    rw [← hs1]; exact hU0
  have h := ends_true c C ccap t (toQ r) (some ⟨w.heap.size, 0, none⟩) (some ⟨w.heap.size + 1, 0, none⟩) r.path.length r.used.length _ (hC.callx hb) hcn hcl hP (at_id hU) (Nat.le_refl _) (by simp [toQ]) hp hu hok (by rw [hr])
  simp only [toQ, List.length_map] at h
  exact h.mono fun e w' ⟨h1, h2⟩ => ⟨h1, bCall hb h2⟩
theorem ends_at0 (c : List (Int × Int)) (C : Option Addr) (ccap : Nat) (t : Int) (r : Tw.Ro) (w : World) (hC : At 2 cdC w w.heap.size C c) (hcn : c.length ≤ ccap) (hcl : c.length ≤ 9223372036854775807) (hok : rsB seL c 10 t) (hr : Tw.route seL c 10 t = r) (hp : r.path.length ≤ maxLen) (hu : r.used = []) :
    Calls Tryz.prog 19 #[.slice C c.length ccap, .int .i64 t, .int .i64 r.kind, .slice (some ⟨w.heap.size, 0, none⟩) r.path.length r.path.length, .slice none 0 0] (w.alloc (.cells (r.path.flatMap inC).toArray 3)) fun e w' => e = .returned (.bool true) ∧ Below w.heap.size w w' := by
  have hb1 := bNx w (.cells (r.path.flatMap inC).toArray 3)
  have hP := at_new1 (f := inC) (fun _ => rfl) r.path w 3 hp
  have h := ends_true c C ccap t (toQ r) (some ⟨w.heap.size, 0, none⟩) none r.path.length 0 _ (hC.callx hb1) hcn hcl hP (by simp only [toQ, hu]; exact At.nil) (Nat.le_refl _) (by simp [toQ, hu]) hp (Nat.zero_le _) hok (by rw [hr])
  simp only [toQ, hu, List.map_nil, List.length_nil] at h
  exact h.mono fun e w' ⟨h1, h2⟩ => ⟨h1, bCall hb1 h2⟩
theorem rr_new (l : List Int) (hne : l ≠ []) (w : World) (hl : l.length ≤ maxLen) : RrA [l] (.slice (some ⟨w.heap.size + 1, 0, none⟩) 1 1) ((w.alloc (.cells (l.flatMap inC).toArray 3)).alloc (.cells #[.slice (some ⟨w.heap.size, 0, none⟩) l.length l.length] 43)) := by
  have hs1 : (w.alloc (.cells (l.flatMap inC).toArray 3)).heap.size = w.heap.size + 1 := World.size_alloc _ _
  have h1 := (at_new1 (f := inC) (fun _ => rfl) l w 3 hl).callx (bNx (w.alloc (.cells (l.flatMap inC).toArray 3)) (.cells #[.slice (some ⟨w.heap.size, 0, none⟩) l.length l.length] 43))
  have h2 := at_new1 (f := elC) (fun _ => rfl) [((.slice (some ⟨w.heap.size, 0, none⟩) l.length l.length : Value), l)] (w.alloc (.cells (l.flatMap inC).toArray 3)) 43 (by show 1 ≤ maxLen; decide)
  rw [hs1] at h2
  refine ⟨[((.slice (some ⟨w.heap.size, 0, none⟩) l.length l.length : Value), l)], rfl, fun e he => ?_, _, 1, rfl, h2, Nat.le_refl _, by show 1 ≤ maxLen; decide⟩
  rw [List.mem_singleton.1 he]
  exact ⟨hne, w.heap.size, 0, l.length, rfl, h1, Nat.le_refl _, hl⟩
theorem vc_1 : Tw.Vc [(20, 2)] := ⟨fun x hx => by simp only [List.mem_singleton] at hx; subst hx; exact ⟨by decide, by decide, by decide, by decide⟩, List.pairwise_singleton _ _⟩
theorem vc_2 : Tw.Vc [(20, 2), (30, 2)] := ⟨fun x hx => by simp only [List.mem_cons, List.not_mem_nil, or_false] at hx; rcases hx with rfl | rfl <;> exact ⟨by decide, by decide, by decide, by decide⟩, by simp⟩
theorem rs_1 : rsB seL [] 10 100 := ⟨va_seP, by decide, Tw.vc_nil, by decide, by decide⟩
theorem rs_2 : rsB seL [(20, 2)] 10 100 := ⟨va_seP, by decide, vc_1, by decide, by decide⟩
theorem rs_3 : rsB seL [(20, 2), (30, 2)] 10 100 := ⟨va_seP, by decide, vc_2, by decide, by decide⟩
theorem rs_4 : rsB seL [(20, 2)] 10 600 := ⟨va_seP, by decide, vc_1, by decide, by decide⟩
theorem rs_5 : rsB seL [] 10 1000 := ⟨va_seP, by decide, Tw.vc_nil, by decide, by decide⟩
end Go.Proofs.YtlldlkjngcgcjaaGreatDoor
namespace Go.Proofs.YtlldlkjngcgcjaaGreatDoor
set_option linter.unusedVariables false
set_option linter.unusedSimpArgs false
open Go.RowKit
/-- the one table of the library's that is read -/
def Env (w : World) : Prop := Lib.TabIs Tryz.prog w "internal/strconv.uint64pow10" .u64 Lib.pow10Tab
theorem Env.below {w w' : World} (h : Env w) (hb : Below w.heap.size w w') : Env w' := by
  unfold Env Lib.TabIs at *
  unfold World.var? at *
  cases hg : Tryz.prog.globalNamed "internal/strconv.uint64pow10" with
  | none => rw [hg] at h; cases h
  | some g =>
    rw [hg] at h
    simp only [Option.bind_some] at h ⊢
    have hlt : g < w.heap.size := by
      rcases Nat.lt_or_ge g w.heap.size with h1 | h1
      · exact h1
      · rw [Array.getElem?_eq_none h1] at h; cases h
    rw [hb.block g hlt]
    exact h
theorem Env.drewN {w : World} (h : Env w) (n : Nat) : Env (w.drewN n) := h.below (below_drewN (Below.refl _ _) n)
theorem Env.regrown {w : World} (h : Env w) (d : Nat) (os : Array Obj) : Env (Sort.grow (redrawn w d) os) := h.below (below_regrown w d os)
theorem below_grow (w : World) (k : Nat) (os : Array Obj) : Below w.heap.size w (Sort.grow (w.drewN k) os) := below_regrown w _ os
theorem Trim_any (s cs : List UInt8) (w : World) (hs : s.length ≤ 1000000) (hc : cs.length ≤ 1000) (ha : ∀ b ∈ cs, b.toNat < 128) :
    Calls Tryz.prog 40 #[.string ⟨s.toArray⟩, .string ⟨cs.toArray⟩] w fun e w' => e = .returned (.string ⟨(Lib.trimS s cs).toArray⟩) ∧ Below w.heap.size w w' := by
  refine (Any.strings_Trim_laid Tryz.laysTrim (by kernel_rfl) ⟨s.toArray⟩ ⟨cs.toArray⟩ w (show s.length ≤ _ by omega) (show cs.length < _ by omega) (fun j b hb => ha b ?_)).mono fun e w' h => h
  exact List.mem_of_getElem? hb
theorem Repeat_any (s : List UInt8) (c : Int) (w : World) (h0 : 0 ≤ c) (hc : c ≤ 1000000) (hs : s.length ≤ 1000000) :
    Calls Tryz.prog 80 #[.string ⟨s.toArray⟩, .int .i64 c] w fun e w' => e = .returned (.string ⟨(Lib.repeatL s c.toNat).toArray⟩) ∧ Below w.heap.size w w' := by
  obtain ⟨c, rfl⟩ := Int.eq_ofNat_of_zero_le h0
  have : s.length * c ≤ 1000000 * 1000000 := Nat.mul_le_mul hs (by omega)
  exact Tryz.strings_Repeat ⟨s.toArray⟩ c w (by omega) (show s.length * c ≤ _ by omega)
theorem Itoa_any (n : Int) (w : World) (h0 : -9223372036854775808 ≤ n) (h1 : n ≤ 9223372036854775807) (hE : Env w) :
    Calls Tryz.prog 79 #[.int .i64 n] w fun e w' => e = .returned (.string ⟨(Lib.itoa n).toArray⟩) ∧ Below w.heap.size w w' :=
  (Tryz.strconv_Itoa n h0 h1 w hE).mono fun _ _ ⟨he, k, os, hw⟩ => ⟨he, by rw [hw]; exact below_grow w k os⟩
theorem Atoi_any (s : List UInt8) (v : Int) (w : World) (hs : s.length ≤ 1000000) (h : Lib.atoiAll s = .ok v) :
    Calls Tryz.prog 91 #[.string ⟨s.toArray⟩] w fun e w' => e = .returned (.tuple #[.int .i64 v, .nilIface]) ∧ Below w.heap.size w w' :=
  (Tryz.strconv_Atoi_ok ⟨s.toArray⟩ (show s.length ≤ _ by omega) v h w).mono fun _ _ ⟨he, hw⟩ => ⟨he, by
    rcases hw with rfl | ⟨t, rfl⟩
    · exact Below.refl _ _
    · exact Lib.bytesWorld_below _ _ _⟩
/-! ### digits -/
theorem trim_digits (s cs : List UInt8) : Lib.trimS s cs = [] ↔ ∀ b ∈ s, b ∈ cs := by
  have hd : ∀ l : List UInt8, l.dropWhile (cs.contains ·) = [] ↔ ∀ b ∈ l, b ∈ cs := by
    intro l
    induction l with
    | nil => simp
    | cons x l ih =>
      rw [List.dropWhile_cons]
      by_cases hx : x ∈ cs
      · simp [hx]; simpa using ih
      · simp [hx]
  unfold Lib.trimS Lib.trimLeftS
  rw [hd]
  unfold Lib.trimRightS
  constructor
  · intro h b hb
    by_cases hall : ∀ b ∈ s, b ∈ cs
    · exact hall b hb
    · have hne : s.reverse.dropWhile (cs.contains ·) ≠ [] := fun he => hall (fun b hb => ((hd s.reverse).1 he) b (by simpa using hb))
      obtain ⟨x, l, hl⟩ := List.exists_cons_of_ne_nil hne
      have hx := h x (by rw [hl]; simp)
      have : cs.contains x = true := by simpa using hx
      have h2 := List.head?_dropWhile_not (cs.contains ·) s.reverse
      rw [hl] at h2
      simp at h2
      exact absurd hx h2
  · intro h b hb
    exact h b (by
      have := (List.dropWhile_suffix (cs.contains ·) (l := s.reverse)).subset (by simpa using hb)
      simpa using this)
/-- the number that digits say -/
def numOf (s : List UInt8) : Nat := s.foldl (fun n c => 10 * n + (c.toNat - 48)) 0
def numFrom (n : Nat) (s : List UInt8) : Nat := s.foldl (fun n c => 10 * n + (c.toNat - 48)) n
theorem numFrom_lt : ∀ (s : List UInt8) (n : Nat), (∀ c ∈ s, c.toNat ≤ 57) → numFrom n s < (n + 1) * 10 ^ s.length
  | [], n, _ => by simp [numFrom]
  | c :: s, n, h => by
    have h1 := numFrom_lt s (10 * n + (c.toNat - 48)) (fun d hd => h d (by simp [hd]))
    have h2 := h c (by simp)
    have h3 : (10 * n + (c.toNat - 48) + 1) * 10 ^ s.length ≤ ((n + 1) * 10) * 10 ^ s.length := Nat.mul_le_mul_right _ (by omega)
    show numFrom (10 * n + (c.toNat - 48)) s < _
    rw [List.length_cons, Nat.pow_succ, Nat.mul_comm (10 ^ s.length) 10, ← Nat.mul_assoc]
    omega
theorem numOf_lt (s : List UInt8) (h : ∀ c ∈ s, c.toNat ≤ 57) : numOf s < 10 ^ s.length := by
  have := numFrom_lt s 0 h
  show numFrom 0 s < _
  simpa using this
theorem numFrom_ge : ∀ (s : List UInt8) (n : Nat), n ≤ numFrom n s
  | [], n => Nat.le_refl _
  | c :: s, n => Nat.le_trans (by omega) (numFrom_ge s (10 * n + (c.toNat - 48)))
theorem parse_digits : ∀ (s : List UInt8) (n : Nat), (∀ c ∈ s, 48 ≤ c.toNat ∧ c.toNat ≤ 57) → numFrom n s < 1000000000000000000 → Lib.parseUint10 n s = .ok (numFrom n s)
  | [], n, _, _ => rfl
  | c :: s, n, h, hb => by
    have hc := h c (by simp)
    have hge := numFrom_ge s (10 * n + (c.toNat - 48))
    have hb' : numFrom (10 * n + (c.toNat - 48)) s < 1000000000000000000 := hb
    have e : n * 10 + (c.toNat - 48) = 10 * n + (c.toNat - 48) := by omega
    rw [Lib.parseUint10, if_pos hc, if_neg (by omega), if_neg (by omega), e]
    exact parse_digits s _ (fun d hd => h d (by simp [hd])) hb'
theorem atoi_digits (s : List UInt8) (h : ∀ c ∈ s, 48 ≤ c.toNat ∧ c.toNat ≤ 57) (hne : s ≠ []) (hl : s.length ≤ 18) : Lib.atoiAll s = .ok (numOf s : Int) := by
  have hlt := numOf_lt s (fun c hc => (h c hc).2)
  have h18 : 10 ^ s.length ≤ 10 ^ 18 := Nat.pow_le_pow_right (by decide) hl
  have hp := parse_digits s 0 h (by show numOf s < _; omega)
  match s, hne with
  | c :: r, _ =>
    have hc := h c (by simp)
    have hm : Lib.parseMag (c :: r) = .ok (numOf (c :: r)) := by unfold Lib.parseMag; rw [if_neg (by simp)]; exact hp
    have e1 : (if c.toNat = 43 ∨ c.toNat = 45 then r else c :: r) = c :: r := if_neg (by omega)
    have hb : numOf (c :: r) < 1000000000000000000 := by omega
    rw [Lib.atoiAll]
    simp only [e1, hm]
    rw [if_neg (by omega), if_neg (by omega), if_neg (by omega)]
end Go.Proofs.YtlldlkjngcgcjaaGreatDoor
namespace Go.Proofs.YtlldlkjngcgcjaaGreatDoor
set_option linter.unusedVariables false
set_option linter.unusedSimpArgs false
open Go.RowKit
theorem conv_u8 (x : Int) (w : World) :
    (convert 155 9 (.slice (some ⟨w.heap.size, 0, none⟩) 1 1)).run Tryz.prog (w.alloc (.cells #[.int .u8 x] 5)) = .ok (.string ⟨#[UInt8.ofNat x.toNat]⟩) (w.alloc (.cells #[.int .u8 x] 5)) :=
  conv_one 155 9 5 Tryz.underlying155 Tryz.underlying5 Tryz.underlying9 x w
attribute [go_sem] conv_u8
theorem isWithin_any (n lo hi : Int) (w : World) :
    Calls Tryz.prog 36 #[.int .i64 n, .int .i64 lo, .int .i64 hi] w fun e w' => e = .returned (.bool (Pl.within n lo hi)) ∧ w = w' := by
  by_cases h1 : lo ≤ n <;> by_cases h2 : n ≤ hi
  all_goals
    go_enter Tryz.func36, Tryz.ntmps36
    go_wp2
    go_ret
    exact ⟨by simp [Pl.within, *] <;> omega, rfl⟩
theorem isPhase_any (n : Int) (w : World) :
    Calls Tryz.prog 35 #[.int .i64 n] w fun e w' => e = .returned (.bool (Pl.isPhase n)) ∧ w = w' := by
  go_enter Tryz.func35, Tryz.ntmps35
  go_wp2_with (go_at_call 36; refine (isWithin_any _ _ _ _).mono ?_; rintro e w' ⟨rfl, rfl⟩)
  go_ret
  exact ⟨rfl, rfl⟩
theorem phase_any (n : Int) (w : World) :
    Calls Tryz.prog 72 #[.int .i64 n] w fun e w' => e = .returned (.bool (Pl.isPhase n)) ∧ w = w' := by
  by_cases h1 : 1 ≤ n <;> by_cases h2 : n ≤ 3
  all_goals
    go_enter Tryz.func72, Tryz.ntmps72
    go_wp2
    go_ret
    exact ⟨by simp [Pl.isPhase, Pl.within, *] <;> omega, rfl⟩
theorem pick_pos {c n : Int} (hc : 0 ≤ c) : Pl.pick c n = c % n := by unfold Pl.pick; rw [if_neg (by omega)]
theorem pick_neg {c n : Int} (hc : c < 0) : Pl.pick c n = (-(c + 1)) % n := by unfold Pl.pick; rw [if_pos hc]
theorem pickRef_any (c n : Int) (h0 : 0 < n) (h1 : -9223372036854775808 ≤ c) (h2 : c ≤ 9223372036854775807) (w : World) :
    Calls Tryz.prog 32 #[.int .i64 c, .int .i64 n] w fun e w' => e = .returned (.int .i64 (Pl.pick c n)) ∧ w = w' := by
  by_cases hc : c < 0
  · have hm : 0 ≤ -(c+1) := by omega
    go_enter Tryz.func32, Tryz.ntmps32
    go_wp2
    go_ret
    refine ⟨ret_int ?_, rfl⟩
    rw [pick_neg hc, ← Int.neg_tmod]
    exact Int.tmod_eq_emod_of_nonneg hm
  · have hm : 0 ≤ c := by omega
    go_enter Tryz.func32, Tryz.ntmps32
    go_wp2
    go_ret
    exact ⟨ret_int (pick_pos hm).symm, rfl⟩
theorem pre_take (s t : List UInt8) : s.isPrefixOf t = (decide (s.length ≤ t.length) && (t.take s.length == s)) := (Lib.hasPrefix_of_take t s).symm
theorem begins_any (s t : List UInt8) (w : World) :
    Calls Tryz.prog 110 #[.string ⟨s.toArray⟩, .string ⟨t.toArray⟩] w fun e w' => e = .returned (.bool (s.isPrefixOf t)) ∧ w = w' := by
  by_cases h : s.length ≤ t.length
  all_goals
    go_enter Tryz.func110, Tryz.ntmps110
    go_wp2
    go_ret
    exact ⟨ret_bool (by rw [pre_take]; simp [h]), rfl⟩
theorem liteHasPrefix_any (s t : List UInt8) (w : World) :
    Calls Tryz.prog 81 #[.string ⟨t.toArray⟩, .string ⟨s.toArray⟩] w fun e w' => e = .returned (.bool (s.isPrefixOf t)) ∧ w = w' := by
  by_cases h : s.length ≤ t.length
  all_goals
    go_enter Tryz.func81, Tryz.ntmps81
    go_wp2
    go_ret
    exact ⟨ret_bool (by rw [pre_take]; simp [h]), rfl⟩
theorem HasPrefix_any (s t : List UInt8) (w : World) :
    Calls Tryz.prog 38 #[.string ⟨t.toArray⟩, .string ⟨s.toArray⟩] w fun e w' => e = .returned (.bool (s.isPrefixOf t)) ∧ w = w' := by
  go_enter Tryz.func38, Tryz.ntmps38
  go_wp2_with (go_at_call 81; refine (liteHasPrefix_any _ _ _).mono ?_; rintro e w' ⟨rfl, rfl⟩)
  go_ret
  exact ⟨rfl, rfl⟩
theorem areApart_any (s t : List UInt8) (w : World) :
    Calls Tryz.prog 77 #[.string ⟨s.toArray⟩, .string ⟨t.toArray⟩] w fun e w' => e = .returned (.bool (Pl.apart s t)) ∧ w = w' := by
  cases h1 : s.isPrefixOf t <;> cases h2 : t.isPrefixOf s
  all_goals
    go_enter Tryz.func77, Tryz.ntmps77
    go_wp2_with (go_at_call 38; refine (HasPrefix_any _ _ _).mono ?_; rintro e w' ⟨rfl, rfl⟩)
    go_ret
    exact ⟨ret_bool (by simp [Pl.apart, h1, h2]), rfl⟩
theorem apart_any (s t : List UInt8) (w : World) :
    Calls Tryz.prog 66 #[.string ⟨s.toArray⟩, .string ⟨t.toArray⟩] w fun e w' => e = .returned (.bool (Pl.apart s t)) ∧ w = w' := by
  cases h1 : s.isPrefixOf t <;> cases h2 : t.isPrefixOf s
  all_goals
    go_enter Tryz.func66, Tryz.ntmps66
    go_wp2_with (go_at_call 110; refine (begins_any _ _ _).mono ?_; rintro e w' ⟨rfl, rfl⟩)
    go_ret
    exact ⟨ret_bool (by simp [Pl.apart, h1, h2]), rfl⟩
/-- a code as a value -/
def codeV (c : Pl.Cd) : Value := .agg #[.string ⟨c.old.toArray⟩, .string ⟨c.new.toArray⟩, .int .i64 c.len]
def codeC (c : Pl.Cd) : List Value := [.string ⟨c.old.toArray⟩, .string ⟨c.new.toArray⟩, .int .i64 c.len]
theorem room_any (o n : List UInt8) (l : Int) (h1 : -9223372036854775808 ≤ l - o.length) (h2 : l ≤ 9223372036854775807) (w : World) :
    Calls Tryz.prog 39 #[.agg #[.string ⟨o.toArray⟩, .string ⟨n.toArray⟩, .int .i64 l]] w fun e w' => e = .returned (.int .i64 (l - o.length)) ∧ Below w.heap.size w w' := by
  go_enter Tryz.func39, Tryz.ntmps39
  go_wp2
  go_ret
  exact ⟨rfl, (Below.refl _ _).alloc (Nat.le_refl _) _⟩
theorem local_any (o n : List UInt8) (l : Int) (h1 : -9223372036854775808 ≤ l - o.length) (h2 : l ≤ 9223372036854775807) (w : World) :
    Calls Tryz.prog 74 #[.agg #[.string ⟨o.toArray⟩, .string ⟨n.toArray⟩, .int .i64 l]] w fun e w' => e = .returned (.int .i64 (l - o.length)) ∧ Below w.heap.size w w' := by
  go_enter Tryz.func74, Tryz.ntmps74
  go_wp2
  go_ret
  exact ⟨rfl, (Below.refl _ _).alloc (Nat.le_refl _) _⟩
theorem pow_le {k n : Nat} (h : k ≤ n) : (10 : Int) ^ k ≤ 10 ^ n := by
  have := Nat.pow_le_pow_right (n := 10) (by decide) h
  exact_mod_cast this
theorem pow_pos' (k : Nat) : (1 : Int) ≤ 10 ^ k := by have := Int.pow_pos (n := 10) (by decide) (m := k); omega
set_option maxRecDepth 100000 in
theorem prefix_any (c : Int) (m : Int) (hc : 0 ≤ c) (h2 : c ≤ 9223372036854775807) (hm0 : 0 ≤ m) (hm : m ≤ 1000) (w : World) :
    Calls Tryz.prog 64 #[.int .i64 c, .int .i64 m] w fun e w' => e = .returned (.string ⟨(Pl.pref c.toNat m.toNat).toArray⟩) ∧ Below w.heap.size w w' := by
  obtain ⟨c, rfl⟩ := Int.eq_ofNat_of_zero_le hc
  obtain ⟨many, rfl⟩ := Int.eq_ofNat_of_zero_le hm0
  go_enter Tryz.func64, Tryz.ntmps64
  go_wp2
  go_loopw [0, 5, 6] (fun cc out i wr => ∃ k c' : Nat, ∃ l : List UInt8, k ≤ many ∧ c' ≤ 9223372036854775807 ∧ i = .int .i64 k ∧ cc = .int .i64 c' ∧ out = .string ⟨l.toArray⟩ ∧ Hid (l ++ Pl.pref c' (many - k) = Pl.pref c many) ∧ l.length ≤ k ∧ Below w.heap.size w wr) (fun _ _ i _ => many - (intOf i).toNat)
  case atStart => exact ⟨0, c, [], Nat.zero_le _, by omega, rfl, rfl, rfl, Lib.hid rfl, by simp, Below.refl _ _⟩
  case round =>
    obtain ⟨k, c', l, hk, hc', rfl, rfl, rfl, hl, hll, hb⟩ := hrel
    by_cases hlt : k < many
    · go_wp2
      go_roundw
      case rel =>
        have e : l ++ [48 + UInt8.ofNat (c' % 10)] ++ Pl.pref (c' / 10) (many - (k + 1)) = Pl.pref c many := by
          rw [← hl.out, show many - k = (many - (k + 1)) + 1 by omega]
          simp [Pl.pref]
        refine ⟨k + 1, c' / 10, l ++ [48 + UInt8.ofNat (c' % 10)], by omega, by omega, by go_num, by simp, rfl, Lib.hid e, by simp; omega, hb.alloc hb.size _⟩
      case measure => simp [intOf]; omega
    · go_wp2
      go_ret
      obtain rfl : k = many := by omega
      have e := hl.out
      simp [Pl.pref] at e
      exact ⟨ret_str e, hb⟩
theorem digits_any (s : List UInt8) (hs : s.length ≤ 1000000) (w : World) :
    Calls Tryz.prog 109 #[.string ⟨s.toArray⟩] w fun e w' => e = .returned (.bool (Pl.digits s)) ∧ w = w' := by
  go_enter Tryz.func109, Tryz.ntmps109
  go_wp2
  go_loop [3] (fun i => ∃ k : Nat, k ≤ s.length ∧ i = .int .i64 k ∧ Hid (Pl.digits (s.take k) = true)) (fun i => s.length - (intOf i).toNat)
  case atStart => exact ⟨0, Nat.zero_le _, rfl, Lib.hid (by simp [Pl.digits])⟩
  case round =>
    obtain ⟨k, hk, rfl, hd⟩ := hrel
    by_cases hlt : k < s.length
    · by_cases h1 : ((s[k].toNat : Nat) : Int) < 48
      · go_wp2
        go_ret
        exact ⟨ret_bool (Pl.digits_bad s k hlt (by omega)).symm, rfl⟩
      · by_cases h2 : ((s[k].toNat : Nat) : Int) > 57
        · go_wp2
          go_ret
          exact ⟨ret_bool (Pl.digits_bad s k hlt (by omega)).symm, rfl⟩
        · go_wp2
          go_round
          case rel => exact ⟨k + 1, by omega, by go_num, Lib.hid (Pl.digits_good s k hlt (by omega) hd.out)⟩
          case measure => simp [intOf]; omega
    · go_wp2
      go_ret
      have := hd.out
      rw [List.take_of_length_le (by omega)] at this
      exact ⟨ret_bool this.symm, rfl⟩
end Go.Proofs.YtlldlkjngcgcjaaGreatDoor

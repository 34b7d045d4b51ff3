/- Package forward: the rows of rows of Loops, sorted by their heads. Package forward: Loops. -/
import Derived.Test.YtlldlkjngcgcjaaGreatDoorQ05
import Derived.Test.YtlldlkjngcgcjaaGreatDoorShelfS
import Derived.Shelf.SlSortCmp.Whole1
import Derived.Test.YtlldlkjngcgcjaaGreatDoorQ02
namespace Go.Proofs.YtlldlkjngcgcjaaGreatDoor
set_option linter.unusedVariables false
set_option linter.unusedSimpArgs false
open Go.RowKit Go.Shelf
attribute [local go_sem] Oper.semAt_some
/-- Loops$1: the comparison by the heads -/
theorem cmpL_any (b1 o1 n1 c1 b2 o2 n2 c2 : Nat) (x y : Int) (w : World) (h1 : w.cell? ⟨b1, o1, none⟩ = some (.int .i64 x)) (h2 : w.cell? ⟨b2, o2, none⟩ = some (.int .i64 y)) (hl1 : b1 < w.heap.size) (hl2 : b2 < w.heap.size) :
    Calls Tryz.prog 55 #[.slice (some ⟨b1, o1, none⟩) (n1 + 1) c1, .slice (some ⟨b2, o2, none⟩) (n2 + 1) c2] w fun e w' => e = .returned (.int .i64 (cmpW x y)) ∧ ∃ q os', w' = Sort.grow (w.drewN q) os' := by
  have q1 := fun n os => Go.cell_grown (a := ⟨b1, o1, none⟩) hl1 h1 n os
  have q2 := fun n os => Go.cell_grown (a := ⟨b2, o2, none⟩) hl2 h2 n os
  have hC : ∀ (n : Nat) (os : Array Obj), Calls Tryz.prog 56 #[.int .i64 x, .int .i64 y] (Sort.grow (w.drewN n) os) fun e w'' => e = .returned (.int .i64 (cmpW x y)) ∧ ∃ q os', w'' = Sort.grow ((Sort.grow (w.drewN n) os).drewN q) os' := fun n os => (cmpW_any x y _).mono fun e w' ⟨h1, h2⟩ => ⟨h1, 0, #[], by rw [← h2, Sort.grow_empty]; rfl⟩
  clear h1 h2
  generalize cmpW x y = r at *
  have mixed := Tryz.sortLL.mixed
  go_enter Tryz.func55, Tryz.ntmps55
  go_wp2_with fail
  refine Go.wp_region_quiet_grown (by assumption) (by kernel_rfl) ?_
  repeat (quiet_step (fail))
  refine wpQuiet_step (fun K hK => ?_)
  go_simp
  refine ⟨.int .i64 r, fun p => Go.Calls.grown_of (hC p.n p.os), hK _ ?_⟩
  clear hK K
  repeat (quiet_step (fail))
  refine wpQuiet_nil ?_
  rintro _ ⟨p, rfl⟩
  go_wp2_with fail
  go_ret
  exact ⟨rfl, _, _, rfl⟩
theorem holds_g {α : Type} [Inhabited α] {enc : α → Value} {w : World} {g : Nat} {t : TypeId} {cells : Array Value} {d : Array α} (hB : Bx w g t cells) (h : cells.toList.take d.size = d.toList.map enc) : Sort.Holds enc w g 0 d := by
  intro j hj
  refine ⟨?_, hB.frozen _⟩
  rw [Nat.zero_add]
  refine hB.cell j ?_
  have h2 : (cells.toList.take d.size)[j]? = some (enc d[j]) := by
    rw [h, List.getElem?_map, Array.getElem?_toList, Array.getElem?_eq_getElem hj]; rfl
  rw [List.getElem?_take, if_pos hj] at h2
  rw [getElem!_pos d j hj]
  simpa using h2
theorem put_g {α : Type} [Inhabited α] {enc : α → Value} {w : World} {g n : Nat} {t : TypeId} {cells : Array Value} (hB : Bx w g t cells) (d : Array α) (hs : d.size ≤ cells.size) :
    ∃ cells', Bx (Sort.putRow enc (Sort.ahead w n) g 0 d) g t cells' ∧ cells'.size = cells.size ∧ cells'.toList.take d.size = d.toList.map enc := by
  refine ⟨Sort.putCells enc 0 d cells, ?_, ?_, ?_⟩
  · unfold Bx at hB ⊢
    unfold Sort.putRow Sort.mapBlock Sort.ahead
    simp only [Array.getElem?_modify, if_true, hB, Option.map_some, Sort.onCells]
  · simp [Sort.putCells]
  · apply List.ext_getElem?
    intro j
    rw [List.getElem?_take, List.getElem?_map]
    by_cases hj : j < d.size
    · rw [if_pos hj, Array.getElem?_toList]
      have hjc : j < cells.size := by omega
      unfold Sort.putCells
      rw [Array.getElem?_mapIdx, Array.getElem?_eq_getElem hjc, Array.getElem?_toList, Array.getElem?_eq_getElem hj]
      simp [hj]
    · rw [if_neg hj, Array.getElem?_toList, Array.getElem?_eq_none (by omega)]; rfl
theorem cmpW_lt (x y : Int) : decide (cmpW x y < 0) = decide (x < y) := by
  unfold cmpW
  by_cases h : x < y
  · simp [h]
  · by_cases h2 : x > y <;> simp [h, h2]
set_option maxHeartbeats 1000000 in
/-- a row of length 0 -/
theorem sort0_any (S : Option Addr) (cap : Nat) (w : World) :
    Calls Tryz.prog 54 #[.slice S 0 cap, .func (.func 55) #[] #[]] w fun e w' => e = .returned (.tuple #[]) ∧ Below w.heap.size w w' := by
  have hl : ∀ w0, Calls Tryz.prog 105 #[.int .u64 0] w0 fun e w' => e = .returned (.int .i64 0) ∧ w' = w0 := fun w0 => by
    have h := Any.bits_Len (SlLaysF0.n15.bits (P := Tryz.prog) (ρ := Tryz.sortLL_ren) { Tryz.sortLL with }) 0 w0 (by omega) (by omega)
    exact h
  have hi : ∀ w0, Calls Tryz.prog 128 #[.slice S 0 cap, .int .i64 0, .int .i64 0, .func (.func 55) #[] #[]] w0 fun e w' => e = .returned (.tuple #[]) ∧ w' = w0 := fun w0 => by
    go_enter Tryz.func128, Tryz.ntmps128
    go_wp2_with fail
    go_loopw [8] (fun s8 wr => s8 = .int .i64 1 ∧ wr = w0) (fun _ _ => 0)
    case atStart => exact ⟨rfl, rfl⟩
    case round =>
      obtain ⟨rfl, rfl⟩ := hrel
      go_wp2_with fail
      go_end0
      exact ⟨rfl, rfl⟩
  have hp : ∀ w0, Calls Tryz.prog 104 #[.slice S 0 cap, .int .i64 0, .int .i64 0, .int .i64 0, .func (.func 55) #[] #[]] w0 fun e w' => e = .returned (.tuple #[]) ∧ w' = w0 := fun w0 => by
    go_enter Tryz.func104, Tryz.ntmps104
    go_wp2_with fail
    go_loopw [1, 2] (fun s1 s2 wr => s1 = .int .i64 0 ∧ s2 = .int .i64 0 ∧ wr = w0) (fun _ _ _ => 0)
    case atStart => exact ⟨rfl, rfl, rfl⟩
    case round =>
      obtain ⟨rfl, rfl, rfl⟩ := hrel
      go_wp2_with (first | (go_at_call 128; refine (hi _).mono ?_; rintro _ w9 ⟨rfl, rfl⟩))
      refine bodyPost_ret (results_none rfl _ _ _) rfl ?_
      exact ⟨rfl, rfl⟩
  have hsz : Below w.heap.size w w := Below.refl _ _
  go_enter Tryz.func54, Tryz.ntmps54
  go_wp2_with (first | (go_at_call 105; refine (hl _).mono ?_; rintro _ w8 ⟨rfl, rfl⟩) | (go_at_call 104; refine (hp _).mono ?_; rintro _ w9 ⟨rfl, rfl⟩))
  go_end0
  exact ⟨rfl, Below.refl _ _⟩
/-- a row of B, as an element -/
abbrev El (B : Nat) (w : World) := { e : Value × List Int // LoB B e.2 e.1 w }
def elV {B : Nat} {w : World} (e : El B w) : Value := e.1.1
def elF {B : Nat} {w : World} (x y : El B w) : Int := cmpW (x.1.2.headD 0) (y.1.2.headD 0)
theorem elF_lt {B : Nat} {w : World} (x y : El B w) : ltOf elF x y = decide (x.1.2.headD 0 < y.1.2.headD 0) := cmpW_lt _ _
theorem el_swo (B : Nat) (w : World) : Sort.SWO (ltOf (elF (B := B) (w := w))) where
  irrefl x := by rw [elF_lt]; simp
  trans x y z h1 h2 := by rw [elF_lt] at *; simp only [decide_eq_true_eq] at *; omega
  ntrans x y z h1 h2 := by rw [elF_lt] at *; simp only [decide_eq_false_iff_not] at *; omega
set_option maxHeartbeats 1000000 in
theorem sortL_any (es : List (Value × List Int)) (B : Nat) (sv : Value) (w : World) (hes : ∀ e ∈ es, LoB B e.2 e.1 w) (hB : B ≤ w.heap.size) (hrow : RowZ 43 1 B es.length (es.flatMap elC) sv w) (hlen : es.length ≤ 1000) :
    Calls Tryz.prog 54 #[sv, .func (.func 55) #[] #[]] w fun e w' => e = .returned (.tuple #[]) ∧ ∃ es' : List (Value × List Int), es'.Perm es ∧ (es'.Pairwise fun a b => a.2.headD 0 ≤ b.2.headD 0) ∧ Below B w w' ∧ RowZ 43 1 B es'.length (es'.flatMap elC) sv w' ∧ ∀ e ∈ es', LoB B e.2 e.1 w' := by
  have hfm : es.flatMap elC = es.map (·.1) := by
    clear hrow hes hlen
    induction es with
    | nil => rfl
    | cons e es ih => rw [List.flatMap_cons, ih]; rfl
  by_cases h0 : es = []
  · subst h0
    have hn : ∃ S cap, sv = .slice S 0 cap := by
      rcases hrow with ⟨rfl, hn, hf⟩ | ⟨cap, ⟨g, cells, rfl, hg, hc, hBx, hcs, hfl⟩, hcm⟩
      · exact ⟨_, _, rfl⟩
      · exact ⟨_, _, rfl⟩
    obtain ⟨S, cap, rfl⟩ := hn
    refine (sort0_any S cap w).mono ?_
    rintro e w' ⟨rfl, hb⟩
    exact ⟨rfl, [], List.Perm.refl _, List.Pairwise.nil, hb.mono hB, stab_rowZ _ _ _ _ _ _ _ _ hrow hb, fun e he => absurd he List.not_mem_nil⟩
  rcases hrow with ⟨rfl, hn, hf⟩ | ⟨cap, ⟨g, cells, rfl, hg, hc, hBx, hcs, hfl⟩, hcm⟩
  · exact absurd (List.length_eq_zero_iff.1 hn) h0
  obtain ⟨e0, hmem0⟩ := List.exists_mem_of_ne_nil es h0
  have : Inhabited (El B w) := ⟨⟨e0, hes e0 hmem0⟩⟩
  obtain ⟨d, hd⟩ : ∃ d : Array (El B w), d = (es.attach.map fun e => (⟨e.1, hes e.1 e.2⟩ : El B w)).toArray := ⟨_, rfl⟩
  have hds : d.size = es.length := by rw [hd]; simp
  have hdl : d.toList.map (·.1) = es := by
    rw [hd, List.map_map]
    exact List.attach_map_subtype_val es
  have hdv : d.toList.map elV = es.map (·.1) := by rw [← hdl, List.map_map]; rfl
  have hH : Sort.Holds elV w g 0 d := holds_g hBx (by rw [hds, hdv, ← hfm]; simpa using hfl)
  have h1 : OneCell (elV (B := B) (w := w)) := fun x => by
    obtain ⟨b, off, n, cap, e, -⟩ := x.2.head
    show (elV x).oneCell' = true
    unfold elV
    rw [e]; rfl
  have hcmp : CmpLays1 Tryz.prog 55 #[] (elV (B := B) (w := w)) elF g 0 d.size w := fun m os dk hs x y => by
    obtain ⟨b1, o1, n1, c1, e1, hb1, hm1, k1⟩ := x.2.head
    obtain ⟨b2, o2, n2, c2, e2, hb2, hm2, k2⟩ := y.2.head
    have hcell : ∀ b o, b < B → (sortWorld (elV (B := B) (w := w)) w g 0 m dk os).cell? ⟨b, o, none⟩ = w.cell? ⟨b, o, none⟩ := fun b o hb => by
      have hlt : b < (Sort.putRow (elV (B := B) (w := w)) (Sort.ahead w m) g 0 dk).heap.size := by
        rw [Sort.size_putRow]
        show b < w.heap.size
        omega
      unfold sortWorld
      refine (Sort.cell?_grow _ _ _ hlt).trans ?_
      refine (Sort.cell?_putRow_other _ _ _ _ _ _ (.inl (show b ≠ g by omega))).trans ?_
      rfl
    have hsz : w.heap.size ≤ (sortWorld (elV (B := B) (w := w)) w g 0 m dk os).heap.size := by
      unfold sortWorld
      rw [Sort.size_grow, Sort.size_putRow]
      show w.heap.size ≤ w.heap.size + _
      omega
    have := cmpL_any b1 o1 n1 c1 b2 o2 n2 c2 (x.1.2.headD 0) (y.1.2.headD 0) (sortWorld (elV (B := B) (w := w)) w g 0 m dk os) ((hcell _ _ hb1).trans k1) ((hcell _ _ hb2).trans k2) (by omega) (by omega)
    show Calls _ _ #[x.1.1, y.1.1] _ _
    rw [e1, e2]
    exact this
  have hS := Any.slices_SortFunc Tryz.sortLL elV h1 elF (el_swo B w) 55 #[] g 0 cap d w (enters_of Tryz.func55 (by kernel_rfl) rfl) hcmp hH hBx.lt (by omega)
  rw [hds] at hS
  refine (show Calls Tryz.prog 54 _ _ _ from hS).mono ?_
  rintro e w' ⟨rfl, d', n, os, ⟨hp1, -, hp3⟩, hs, rfl⟩
  obtain ⟨cells', k1, k2, k3⟩ := put_g (enc := elV) (n := n) hBx d' (by rw [hp1, hds]; omega)
  have hb1 : Below B w (Sort.putRow (elV (B := B) (w := w)) (Sort.ahead w n) g 0 d') := ⟨rfl, rfl, rfl, by rw [Sort.size_putRow]; exact Nat.le_refl _, fun b hb => by
    unfold Sort.putRow Sort.mapBlock Sort.ahead
    simp only [Array.getElem?_modify]
    rw [if_neg (by omega)]⟩
  have hb2 : Below (Sort.putRow (elV (B := B) (w := w)) (Sort.ahead w n) g 0 d').heap.size (Sort.putRow (elV (B := B) (w := w)) (Sort.ahead w n) g 0 d') (sortWorld (elV (B := B) (w := w)) w g 0 n d' os) := below_regrown _ (Sort.putRow (elV (B := B) (w := w)) (Sort.ahead w n) g 0 d').drawn os
  have hb3 : Below B w (sortWorld (elV (B := B) (w := w)) w g 0 n d' os) := hb1.trans (hb2.mono (by rw [Sort.size_putRow]; show B ≤ w.heap.size; exact hB))
  have hd's : d'.size = es.length := by rw [hp1, hds]
  have hl : (d'.toList.map (·.1)).length = es.length := by rw [List.length_map, Array.length_toList, hd's]
  have hpe : (d'.toList.map (·.1)).Perm es := by
    rw [← hds] at hp3
    rw [show d.extract 0 d.size = d by simp, show d'.extract 0 d.size = d' by rw [← hp1]; simp] at hp3
    rw [← hdl]
    exact hp3.map _
  refine ⟨rfl, d'.toList.map (·.1), hpe, ?_, hb3, ?_, fun e he => (hes e (hpe.mem_iff.1 he)).below hb3⟩
  · rw [List.pairwise_iff_getElem]
    intro i j hi hj hij
    have h := hs i j (Nat.zero_le _) hij (by rw [hl] at hj; exact hj)
    rw [elF_lt] at h
    have hi' : i < d'.size := by simpa using hi
    have hj' : j < d'.size := by simpa using hj
    rw [getElem!_pos d' i hi', getElem!_pos d' j hj'] at h
    simp only [decide_eq_false_iff_not] at h
    simp only [List.getElem_map, Array.getElem_toList]
    omega
  · rw [hl]
    refine .inr ⟨cap, ⟨g, cells', rfl, hg, hc, k1.call hb2, by rw [k2]; exact hcs, ?_⟩, hcm⟩
    rw [hd's] at k3
    rw [Nat.mul_one, k3]
    have : ∀ L : List (Value × List Int), L.flatMap elC = L.map (·.1) := fun L => by
      induction L with
      | nil => rfl
      | cons e es ih => rw [List.flatMap_cons, ih]; rfl
    rw [this, List.map_map]
    rfl
end Go.Proofs.YtlldlkjngcgcjaaGreatDoor
namespace Go.Proofs.YtlldlkjngcgcjaaGreatDoor
set_option linter.unusedVariables false
set_option linter.unusedSimpArgs false
open Go.RowKit Go.Shelf
attribute [local go_sem] Oper.semAt_some
def lsB (l : List Tw.St) (t : Int) : Prop := Tw.Va l ∧ (0 ≤ t ∧ t ≤ 10000000)
open Classical in
noncomputable def lsR (l : List Tw.St) (t : Int) : List (List Int) := if lsB l t then Tw.loopsL l t else []
open Classical in
noncomputable def lsE (l : List Tw.St) (t : Int) : Int := if lsB l t then 0 else 220
theorem ls_t {l : List Tw.St} {t : Int} (h : lsB l t) : lsR l t = Tw.loopsL l t ∧ lsE l t = 0 := ⟨if_pos h, if_pos h⟩
theorem ls_f {l : List Tw.St} {t : Int} (h : ¬ lsB l t) : lsR l t = [] ∧ lsE l t = 220 := ⟨if_neg h, if_neg h⟩
theorem sliI : ∃ i z, Tryz.prog.info? 43 = some i ∧ i.zero = some z ∧ i.size = 1 ∧ z.cells.size = 1 ∧ i.bytes = 24 := by
  have h : (Tryz.prog.info? 43).map (fun i => (i.size, i.bytes, i.zero.map (·.cells.size))) = some (1, 24, some 1) := by kernel_rfl
  cases hi : Tryz.prog.info? 43 with
  | none => rw [hi] at h; cases h
  | some i =>
    rw [hi] at h
    simp only [Option.map_some, Option.some.injEq, Prod.mk.injEq] at h
    obtain ⟨h1, h2, h3⟩ := h
    cases hz : i.zero with
    | none => rw [hz] at h3; cases h3
    | some z =>
      rw [hz] at h3
      simp only [Option.map_some, Option.some.injEq] at h3
      exact ⟨i, z, rfl, hz, h1, h3, h2⟩
/-- a row of one slice, as append takes it -/
theorem sliSrc {W : World} {B : Nat} {b : Option Addr} {n c : Nat} (hB : W.heap.size = B) : Src Tryz.prog 1 56 (.slice (some ⟨B, 0, none⟩) 1 1) 1 [.slice b n c] (W.alloc (.cells #[.slice b n c] 43)) := by
  subst hB
  exact RowC.src (P := Tryz.prog) (B := W.heap.size) (cap := 1) (e := 43) (t := 56) (fun u hu => by simp at hu; subst hu; rfl) Tryz.underlying56 (show RowC 43 1 W.heap.size 1 1 [.slice b n c] (.slice (some ⟨W.heap.size, 0, none⟩) 1 1) (W.alloc (.cells #[.slice b n c] 43)) from ⟨W.heap.size, _, rfl, Nat.le_refl _, Nat.le_refl _, Bx.mk _ _ _, rfl, rfl⟩)
/-- what the map of Loops holds -/
def Lm (G : List (List Int)) (F : Int → Option Value) (w : World) : Prop := ∀ x, (Tw.hdF G x = none ∧ F x = none) ∨ ∃ r v, Tw.hdF G x = some r ∧ F x = some v ∧ LoB w.heap.size r v w
theorem Lm.call {G : List (List Int)} {F : Int → Option Value} {w w' : World} (h : Lm G F w) (hb : Below w.heap.size w w') : Lm G F w' := fun x => (h x).imp id fun ⟨r, v, h1, h2, h3⟩ => ⟨r, v, h1, h2, h3.callx hb⟩
theorem Lm.grown {G : List (List Int)} {F : Int → Option Value} {w w' : World} {b : Nat} {o : Obj} (h : Lm G F w) (hg : w.grownBy w' (some b)) (ho : w.heap[b]? = some o) (hc : o.isCells = false) (hs : w.heap.size ≤ w'.heap.size) : Lm G F w' := fun x => (h x).imp id fun ⟨r, v, h1, h2, h3⟩ => ⟨r, v, h1, h2, (h3.grown hg ho hc (Nat.le_refl _)).more hs⟩
theorem Lm.put {l : List Tw.St} {t : Int} {ns : List Tw.St} {F : Int → Option Value} {w : World} {s : Tw.St} {r : List Int} {v : Value} (h : Lm (Tw.loopsG l t ns) F w) (hl : Tw.loopOf l t s.n = some r) (hv : LoB w.heap.size (Tw.rot r) v w) : Lm (Tw.loopsG l t (ns ++ [s])) (Mg.upd F ((Tw.rot r).headD 0) v) w := fun x => by
  rw [Tw.hdF_snoc ns hl]
  unfold Mg.upd
  by_cases e : x = (Tw.rot r).headD 0
  · rw [if_pos e, if_pos e]; exact .inr ⟨_, _, rfl, rfl, hv⟩
  · rw [if_neg e, if_neg e]; exact h x
theorem Lm.keep {l : List Tw.St} {t : Int} {ns : List Tw.St} {F : Int → Option Value} {w : World} {s : Tw.St} (h : Lm (Tw.loopsG l t ns) F w) (hl : Tw.loopOf l t s.n = none) : Lm (Tw.loopsG l t (ns ++ [s])) F w := fun x => by
  rw [Tw.hdF_snoc0 ns hl]; exact h x
theorem Mg.Mp.obj {κ α : Type} [DecidableEq κ] {P : Program} {k : TypeId} {kl : κ → Lit} {ok : κ → Prop} {enc : α → Value} {F : κ → Option α} {b n : Nat} {w : World} (h : Mg.Mp P k kl ok enc F b n w) : ∃ o, w.heap[b]? = some o ∧ o.isCells = false := by
  obtain ⟨D, ⟨ent, clock, h1, h2, h3, h4⟩, hm, hs⟩ := h
  exact ⟨_, h1, rfl⟩
/-- the rows that the range has met -/
structure Met (G : List (List Int)) (lf : Lit → Bool) (es : List (Value × List Int)) (B : Nat) (w : World) : Prop where
  lo : ∀ e ∈ es, LoB B e.2 e.1 w
  inn : ∀ e ∈ es, e.2 ∈ G
  nd : (es.map (·.2)).Nodup
  out : ∀ e ∈ es, lf (.int .i64 (e.2.headD 0)) = false
  all : ∀ x r, Mg.okI x → Tw.hdF G x = some r → lf (.int .i64 x) = true ∨ r ∈ es.map (·.2)
theorem Met.snoc {G : List (List Int)} {lf : Lit → Bool} {es : List (Value × List Int)} {B : Nat} {w w' : World} {x : Int} {r : List Int} {v : Value} (h : Met G lf es B w) (hlo : ∀ e ∈ es, LoB B e.2 e.1 w') (hv : LoB B r v w') (hx : Tw.hdF G x = some r) (hl : lf (.int .i64 x) = true) :
    Met G (fun z => lf z && !z.sameKey (.int .i64 x)) (es ++ [(v, r)]) B w' := by
  have h1 : r ∈ G := List.mem_of_find?_eq_some hx
  have h2 : r.headD 0 = x := by simpa using List.find?_some hx
  refine ⟨fun e he => ?_, fun e he => ?_, ?_, fun e he => ?_, fun y q hy hq => ?_⟩
  · rcases List.mem_append.1 he with he | he
    · exact hlo e he
    · rw [List.mem_singleton.1 he]; exact hv
  · rcases List.mem_append.1 he with he | he
    · exact h.inn e he
    · rw [List.mem_singleton.1 he]; exact h1
  · rw [List.map_append, List.nodup_append]
    refine ⟨h.nd, by simp, fun a ha b hb e => ?_⟩
    simp only [List.map_cons, List.map_nil, List.mem_singleton] at hb
    obtain ⟨e2, he2, rfl⟩ := List.mem_map.1 ha
    have := h.out e2 he2
    rw [e, hb, h2] at this
    rw [this] at hl; cases hl
  · rcases List.mem_append.1 he with he | he
    · rw [h.out e he]; rfl
    · rw [List.mem_singleton.1 he]
      show (lf (.int .i64 (r.headD 0)) && !(Lit.int .i64 (r.headD 0)).sameKey (.int .i64 x)) = false
      rw [h2]
      simp [Lit.sameKey]
  · rcases h.all y q hy hq with h3 | h3
    · by_cases e : y = x
      · subst e
        rw [hx] at hq
        right
        simp only [List.map_append, List.mem_append]
        right
        simpa using (Option.some.inj hq).symm
      · left; simp [h3, Lit.sameKey, e]
    · right; simp only [List.map_append, List.mem_append]; exact .inl h3
theorem nodup_lenG {α : Type} [DecidableEq α] : ∀ (r L : List α), r.Nodup → (∀ x ∈ r, x ∈ L) → r.length ≤ L.length
  | [], L, _, _ => Nat.zero_le _
  | x :: r, L, hn, hs => by
    obtain ⟨h1, h2⟩ := List.nodup_cons.1 hn
    have h3 := nodup_lenG r (L.erase x) h2 fun y hy => by
      have hne : y ≠ x := fun e => h1 (e ▸ hy)
      exact (List.mem_erase_of_ne hne).2 (hs y (List.mem_cons_of_mem _ hy))
    have h4 : x ∈ L := hs x (List.mem_cons_self ..)
    rw [List.length_erase_of_mem h4] at h3
    have := List.length_pos_of_mem h4
    simp only [List.length_cons]
    omega
theorem Met.len {G : List (List Int)} {lf : Lit → Bool} {es : List (Value × List Int)} {B : Nat} {w : World} (h : Met G lf es B w) : es.length ≤ G.length := by
  have := nodup_lenG (es.map (·.2)) G h.nd fun x hx => by
    obtain ⟨e, he, rfl⟩ := List.mem_map.1 hx
    exact h.inn e he
  rwa [List.length_map] at this
/-- what the map holds, below a block -/
def LmB (B : Nat) (G : List (List Int)) (F : Int → Option Value) (w : World) : Prop := ∀ x, (Tw.hdF G x = none ∧ F x = none) ∨ ∃ r v, Tw.hdF G x = some r ∧ F x = some v ∧ LoB B r v w
theorem LmB.below {B : Nat} {G : List (List Int)} {F : Int → Option Value} {w w' : World} (h : LmB B G F w) (hb : Below B w w') : LmB B G F w' := fun x => (h x).imp id fun ⟨r, v, h1, h2, h3⟩ => ⟨r, v, h1, h2, h3.below hb⟩
theorem LmB.get {B : Nat} {G : List (List Int)} {F : Int → Option Value} {w : World} (h : LmB B G F w) {x : Int} {y : Value} (hx : F x = some y) : ∃ r, Tw.hdF G x = some r ∧ LoB B r y w := by
  rcases h x with ⟨-, h2⟩ | ⟨r, v, h1, h2, h3⟩
  · rw [h2] at hx; cases hx
  · rw [h2] at hx; cases hx; exact ⟨r, h1, h3⟩
theorem rn_obj {κ α : Type} [DecidableEq κ] {P : Program} {k : TypeId} {kl : κ → Lit} {ok : κ → Prop} {enc : α → Value} {F : κ → Option α} {b r n : Nat} {w : World} {lf : Lit → Bool} {ct : Nat} (h : Mg.Rn P k kl ok enc F b r n w lf ct) : (∃ o, w.heap[r]? = some o ∧ o.isCells = false) ∧ ∃ o, w.heap[b]? = some o ∧ o.isCells = false := by
  obtain ⟨D, ⟨es, clock, since, seen, c0, hb, F, hs, hD, hr, rest⟩, -⟩ := h
  exact ⟨⟨_, hr, rfl⟩, _, hb, rfl⟩
theorem rn_frn {κ α : Type} [DecidableEq κ] {P : Program} {k : TypeId} {kl : κ → Lit} {ok : κ → Prop} {enc : α → Value} {F : κ → Option α} {b r n : Nat} {w w' : World} {lf : Lit → Bool} {ct : Nat} (h : Mg.Rn P k kl ok enc F b r n w lf ct) (hf : FrN 0 w w') : Mg.Rn P k kl ok enc F b r n w' lf ct := by
  obtain ⟨D, ⟨es, clock, since, seen, c0, hb, F, hs, hD, hr, rest⟩, h2⟩ := h
  exact ⟨D, ⟨es, clock, since, seen, c0, hf.keep _ _ (Nat.zero_le _) hb rfl, F, hs, hD, hf.keep _ _ (Nat.zero_le _) hr rfl, rest⟩, h2⟩
theorem bx_grown {w w' : World} {r : Nat} {o : Obj} (hg : w.grownBy w' (some r)) (ho : w.heap[r]? = some o) (hc : o.isCells = false) : ∀ g t cs, Bx w g t cs → Bx w' g t cs := fun g t cs h => by
  have hne : g ≠ r := by
    rintro rfl
    rw [show w.heap[g]? = _ from h] at ho
    cases ho; cases hc
  exact (hg.block g h.lt (by intro h2; injection h2 with h2; exact hne h2)).trans h
theorem loA_ne {o : Option (List Int)} {v : Value} {w : World} (h : LoA o v w) : (o = none ∧ v = .slice none 0 0) ∨ ∃ r b off cap, o = some r ∧ v = .slice (some ⟨b, off, none⟩) r.length cap := by
  cases o with
  | none => exact .inl ⟨rfl, h⟩
  | some r => obtain ⟨b, off, cap, e, -⟩ := h; exact .inr ⟨r, b, off, cap, rfl, e⟩
set_option maxRecDepth 100000 in
set_option maxHeartbeats 8000000 in
theorem loops_any (l : List Tw.St) (A : Option Addr) (cap : Nat) (t : Int) (w : World) (hA : At 5 stC w w.heap.size A l) (hn : l.length ≤ cap) (hl : l.length ≤ 9223372036854775807) :
    Calls Tryz.prog 16 #[.slice A l.length cap, .int .i64 t] w fun e w' => ∃ v, e = .returned (.tuple #[v, .int .i64 (lsE l t)]) ∧ Below w.heap.size w w' ∧ RrA (lsR l t) v w' := by
  have hV := wSet_any l A cap w hA hn hl
  have hT := fun w0 => wIn_any t 0 10000000 w0
  have hmk := fun w0 => run_makeMap (P := Tryz.prog) 106 w0
  have hmapI : Tryz.prog.underlying 106 = some (.map 3 43) := Tryz.underlying106
  have hways : (vaB l = false ∧ lsR l t = [] ∧ lsE l t = 220) ∨ (vaB l = true ∧ inB t 0 10000000 = false ∧ lsR l t = [] ∧ lsE l t = 220) ∨ (vaB l = true ∧ inB t 0 10000000 = true ∧ lsR l t = Tw.loopsL l t ∧ lsE l t = 0 ∧ Tw.Va l ∧ 0 ≤ t ∧ t ≤ 10000000) := by
    cases h2 : vaB l
    · have hno : ¬ lsB l t := fun h => by rw [vaB_t h.1] at h2; cases h2
      exact .inl ⟨rfl, ls_f hno⟩
    · cases h4 : inB t 0 10000000
      · have hno : ¬ lsB l t := fun h => by
          unfold inB at h4
          have := h.2
          simp only [Bool.and_eq_false_iff, decide_eq_false_iff_not] at h4
          omega
        exact .inr (.inl ⟨rfl, rfl, ls_f hno⟩)
      · have hyes : lsB l t := ⟨vaB_iff.1 h2, by unfold inB at h4; simpa using h4⟩
        exact .inr (.inr ⟨rfl, rfl, (ls_t hyes).1, (ls_t hyes).2, hyes.1, hyes.2.1, hyes.2.2⟩)
  rcases hways with ⟨e1, e9, e10⟩ | ⟨e1, e2, e9, e10⟩ | ⟨e1, e2, e9, e10, hv, ht0, ht1⟩
  · rw [e1] at hV
    rw [e9, e10]
    clear e1 e9 e10 hT hmk hA
    go_enter Tryz.func16, Tryz.ntmps16
    go_wp2_with (first | (go_at_call 52; refine hV.mono ?_; rintro _ w1 ⟨rfl, hb1⟩))
    refine bodyPost_ret (v := .tuple #[.slice none 0 0, .int .i64 220]) (by simp [results, Tryz.results16, go_sem]) rfl ?_
    exact ⟨_, rfl, hb1, RrA.nil _⟩
  · rw [e1] at hV
    rw [e2] at hT
    rw [e9, e10]
    clear e1 e9 e10 hmk hA e2
    go_enter Tryz.func16, Tryz.ntmps16
    go_wp2_with (first | (go_at_call 52; refine hV.mono ?_; rintro _ w1 ⟨rfl, hb1⟩) | (go_at_call 45; refine (hT _).mono ?_; rintro _ w2 ⟨rfl, rfl⟩))
    refine bodyPost_ret (v := .tuple #[.slice none 0 0, .int .i64 220]) (by simp [results, Tryz.results16, go_sem]) rfl ?_
    exact ⟨_, rfl, hb1, RrA.nil _⟩
  rw [e1] at hV
  rw [e2] at hT
  rw [e9, e10]
  clear e1 e2 e9 e10
  have hl40 := hv.len
  go_enter Tryz.func16, Tryz.ntmps16
  go_wp2_with (first | (go_at_call 52; refine hV.mono ?_; rintro _ w1 ⟨rfl, hb1⟩) | (go_at_call 45; refine (hT _).mono ?_; rintro _ w2 ⟨rfl, rfl⟩))
  have hA1 := hA.callx hb1
  refine (at_any l A cap [] none 0 t w1 hv Tw.vc_nil hA1 hn At.nil (Nat.le_refl _) (by decide)).mono ?_
  rintro _ w2 ⟨b1, b2, rfl, hb2, hM⟩
  have hA2 := hA1.callx hb2
  have hb := bCall hb1 hb2
  have hs2 := hb.size
  have hb12 := hM.lt
  clear hb1 hb2 hA1 hV hT
  have BM := (Bx.mk w2 95 #[.slice A l.length cap, .map (some b1), .map (some b2)]).new (.map #[] 0)
  have hbn := bNew (bNx w2 (.cells #[.slice A l.length cap, .map (some b1), .map (some b2)] 95)) (.map #[] 0)
  have M0 := Mg.Mp.made (P := Tryz.prog) (k := 3) (kl := fun x : Int => Lit.int .i64 x) (ok := Mg.okI) (enc := (id : Value → Value)) (w2.alloc (.cells #[.slice A l.length cap, .map (some b1), .map (some b2)] 95))
  simp only [World.size_alloc] at M0
  go_wp2_with fail
  replace hb := bCall hb hbn
  replace hM := hM.call hbn
  replace hA2 := hA2.callx hbn
  have hs4 : ((w2.alloc (.cells #[.slice A l.length cap, .map (some b1), .map (some b2)] 95)).alloc (.map #[] 0)).heap.size = w2.heap.size + 2 := by simp only [World.size_alloc]
  clear hbn hmk
  obtain ⟨g, hg⟩ := exKx w2.heap.size
  have hwg : w.heap.size ≤ g := by have := hs2; have := hg.out; omega
  clear hs2
  rw [hg.out] at hs4 BM M0 hb12
  simp only [hg.out] at ⊢
  generalize (w2.alloc (.cells #[.slice A l.length cap, .map (some b1), .map (some b2)] 95)).alloc (.map #[] 0) = w4 at *
  clear hg
  go_loopw [28] (fun s28 wr => ∃ (k : Nat) (F : Int → Option Value), k ≤ l.length ∧ s28 = .int .i64 k ∧ Below w.heap.size w wr ∧ Mom l [] t b1 b2 wr ∧ At 5 stC wr wr.heap.size A l ∧ Bx wr g 95 #[.slice A l.length cap, .map (some b1), .map (some b2)] ∧
    Mg.Mp Tryz.prog 3 (fun x : Int => Lit.int .i64 x) Mg.okI (id : Value → Value) F (g + 1) k wr ∧ Lm (Tw.loopsG l t (l.take k)) F wr) (fun s28 _ => l.length - (intOf s28).toNat)
  case atStart => exact ⟨0, fun _ => none, Nat.zero_le _, rfl, hb, hM, hA2, BM, M0, fun x => .inl ⟨rfl, rfl⟩⟩
  case round =>
    clear hb hM hA2 BM M0 hs4
    obtain ⟨k, F, hk, rfl, hb, hM, hA2, BM, M1, hL⟩ := hrel
    by_cases hlt : k < l.length
    · obtain ⟨b, off, rfl, hbB, hcell⟩ := hA.run (Nat.le_refl _) hlt
      have hcl0 := hcell wr hb 0 _ rfl
      have hcl1 := hcell wr hb 1 _ rfl
      have hcl2 := hcell wr hb 2 _ rfl
      have hcl3 := hcell wr hb 3 _ rfl
      have hcl4 := hcell wr hb 4 _ rfl
      simp only [Nat.add_zero] at hcl0
      have hfm := hv.fm l[k] (List.getElem_mem hlt)
      obtain ⟨n0, n2, t0', t2', ne, k1, k4, f0, fe, e2⟩ := hfm
      have htk : Kp (l.take (k + 1) = l.take k ++ [l[k]]) := ⟨by rw [List.take_succ_eq_append_getElem hlt]⟩
      have hyes : Kp (∀ r v (W : World), Tw.loopOf l t l[k].n = some r → Lm (Tw.loopsG l t (l.take k)) F W → LoB W.heap.size (Tw.rot r) v W → Lm (Tw.loopsG l t (l.take (k + 1))) (Mg.upd F ((Tw.rot r).headD 0) v) W) := ⟨fun r v W h1 h2 h3 => by rw [htk.out]; exact h2.put h1 h3⟩
      have hno : Kp (∀ (W : World), Tw.loopOf l t l[k].n = none → Lm (Tw.loopsG l t (l.take k)) F W → Lm (Tw.loopsG l t (l.take (k + 1))) F W) := ⟨fun W h1 h2 => by rw [htk.out]; exact h2.keep h1⟩
      have hlp := fun w0 hA0 hM0 => loop_any l (some ⟨b, off, none⟩) cap b1 b2 t l[k].n w0 hv hA0 hn hM0 ⟨by omega, by omega⟩
      have hnm : Kp (∀ r, Tw.loopOf l t l[k].n = some r → Tw.rot r ≠ [] ∧ 0 ≤ (Tw.rot r).headD 0 ∧ (Tw.rot r).headD 0 ≤ 99999999) := ⟨fun r h => by
        obtain ⟨h1, h2, h3⟩ := Tw.rot_ok (Tw.loopOf_some h)
        refine ⟨List.ne_nil_of_mem h1.ne, ?_⟩
        rw [h1.head]
        exact Tw.loop_num hv h1 _ h1.ne⟩
      clear hcell ne htk
      generalize l[k] = s at *
      obtain ⟨n, kk, tt, f, e⟩ := s
      dsimp only at hcl0 hcl1 hcl2 hcl3 hcl4 hyes hno hlp hnm n0 n2 k1 k4
      have hbn := bNx wr (.cells #[.int .i64 n, .int .i64 kk, .int .i64 tt, .int .i64 f, .int .i64 e] 33)
      have B := Bx.mk wr 33 #[.int .i64 n, .int .i64 kk, .int .i64 tt, .int .i64 f, .int .i64 e]
      replace BM := BM.call hbn
      replace M1 := M1.below hbn M1.lt
      replace hM := hM.call hbn
      replace hA2 := hA2.callx hbn
      replace hL := hL.call hbn
      replace hb := hb.trans (hbn.mono hb.size)
      have c0 := B.cell 0 rfl
      have m0 := BM.cell 0 rfl
      have m1 := BM.cell 1 rfl
      have m2 := BM.cell 2 rfl
      go_wp2_with fail
      refine (hlp _ hA2 hM).mono ?_
      rintro _ w6 ⟨v, rfl, hb6, hLo⟩
      replace BM := BM.call hb6
      replace M1 := M1.below hb6 M1.lt
      replace hM := hM.call hb6
      replace hA2 := hA2.callx hb6
      replace hL := hL.call hb6
      replace hb := hb.trans (hb6.mono hb.size)
      clear c0 m0 m1 m2 hcl0 hcl1 hcl2 hcl3 hcl4 hlp hbn B hb6
      unfold rotL at hLo
      cases hlo : Tw.loopOf l t n with
      | none =>
        rw [hlo] at hLo
        have hLn := Kp.mk (hno.out w6 hlo hL)
        obtain rfl : v = .slice none 0 0 := hLo
        clear hyes hno hnm hlo hL
        go_wp2_with fail
        exact ⟨⟨k + 1, F, by omega, by go_num, hb, hM, hA2, BM, M1.mono (by omega), hLn.out⟩, by simp [intOf]; omega⟩
      | some r0 =>
        rw [hlo] at hLo
        obtain ⟨hne, hh0, hh1⟩ := hnm.out r0 hlo
        have hLB : LoB w6.heap.size (Tw.rot r0) v w6 := LoB.of hLo hne
        have hLn := Kp.mk (fun W h1 h2 => hyes.out r0 v W hlo h1 h2)
        have hLBK := Kp.mk hLB
        obtain ⟨bv, ov, nv, cv, rfl, hbv, hnv, hcv⟩ := hLB.head
        obtain ⟨om, hom, hoc⟩ := M1.obj
        clear hyes hno hnm hlo hLo hne
        generalize (Tw.rot r0).headD 0 = hd at *
        generalize Tw.rot r0 = rr at *
        go_wp2_with (at_mapUpdate; refine Mg.wpList_put rfl (.tmp 38) (.tmp 41) (.tmp 42) rfl (Mg.ky_int (P := Tryz.prog) Tryz.underlying3) hmapI rfl M1 (by unfold maxLen; omega) hd (.slice (some ⟨bv, ov, none⟩) (nv + 1) cv) rfl rfl (wf64 ⟨by omega, by omega⟩) ?_; intro w5 hM5 hg5)
        have hs5 : w6.heap.size ≤ w5.heap.size := hg5.size
        have hb5 : Below w.heap.size w w5 := below_grownBy hg5 (fun b h => by injection h with h; omega) hb.size hb
        have BM5 := (hg5.block g BM.lt (by intro h; injection h with h; omega)).trans BM
        have hMo5 : Mom l [] t b1 b2 w5 := ⟨hM.st.kept hg5 (by intro h; injection h with h; omega), hM.cd.kept hg5 (by intro h; injection h with h; omega)⟩
        exact ⟨⟨k + 1, _, by omega, by go_num, hb5, hMo5, hA.callx hb5, BM5, hM5, (hLn.out w6 hL hLBK.out).grown hg5 hom hoc hs5⟩, by simp [intOf]; omega⟩
    · obtain rfl : k = l.length := by omega
      rw [List.take_length] at hL
      have hGl : (Tw.loopsG l t l).length ≤ 40 := Nat.le_trans (Tw.loopsG_len l) hl40
      have hlim : Mg.Mp Tryz.prog 3 (fun x : Int => Lit.int .i64 x) Mg.okI (id : Value → Value) F (g + 1) l.length wr := M1
      clear M1 hM hA2 BM hA
      go_wp2_with (refine Mg.wpList_range_g rfl (.tmp 44) rfl (Mg.ky_int (P := Tryz.prog) Tryz.underlying3) hmapI rfl hlim ?_; intro w5 left cnt hR hleft hg5 hs5; replace hs5 := Kp.mk hs5)
      have hgr : Below wr.heap.size wr w5 := below_grownBy hg5 (fun b hb => by cases hb) (Nat.le_refl _) (Below.refl _ _)
      have hb5 := hb.trans (hgr.mono hb.size)
      obtain ⟨G, hG⟩ := exKx (Tw.loopsL l t)
      have hL0 : Lm G F wr := by rw [← hG.out]; exact hL
      have hGl2 : G.length ≤ 40 := by rw [← hG.out]; exact hGl
      have hLB : LmB wr.heap.size G F w5 := (show LmB wr.heap.size G F wr from hL0).below hgr
      have hgr1 : g + 1 < wr.heap.size := hlim.lt
      have hwr : w.heap.size ≤ wr.heap.size := hb.size
      have hrl5 : wr.heap.size < w5.heap.size := by have := hs5.out; omega
      have hMet : Met G left [] wr.heap.size w5 := ⟨fun e he => absurd he List.not_mem_nil, fun e he => absurd he List.not_mem_nil, List.Pairwise.nil, fun e he => absurd he List.not_mem_nil, fun x r hx h => .inl (by
        rw [hleft x hx]
        rcases hL0 x with ⟨h1, h2⟩ | ⟨r', v, h1, h2, h3⟩
        · rw [h1] at h; cases h
        · rw [h2]; rfl)⟩
      clear hg5 hs5 hgr hL hL0 hGl hlim hleft hb
      generalize wr.heap.size = r at *
      simp only [Act.put, List.setIfInBounds_toArray, List.set_cons_succ, List.set_cons_zero]
      go_loopw [11] (fun s11 wq => ∃ es lf ct sv, s11 = sv ∧ Mg.Rn Tryz.prog 3 (fun x : Int => Lit.int .i64 x) Mg.okI (id : Value → Value) F (g + 1) r l.length wq lf ct ∧ Met G lf es r wq ∧ RowZ 43 1 r es.length (es.flatMap elC) sv wq ∧ Below w.heap.size w wq ∧ LmB r G F wq ∧ r < wq.heap.size) (fun _ wq => wq.rangeLeft (g + 1) r)
      case atStart => exact ⟨[], left, cnt, _, rfl, hR, hMet, .inl ⟨rfl, rfl, rfl⟩, hb5, hLB, hrl5⟩
      case round =>
        clear hb5 hLB hrl5 hMet hR
        obtain ⟨es, lf, ct, sv, rfl, hR, hMet, hRow, hb, hLB, hrl⟩ := hrel
        obtain ⟨⟨oi, hoi, hci⟩, om, hom, hcm⟩ := rn_obj hR
        have hel : es.length ≤ 40 := Nat.le_trans hMet.len hGl2
        obtain ⟨ti, tz, hti, hzz, hs1, hz1, hby⟩ := sliI
        go_wp2_with (first
          | ((refine Mg.wpList_next_g rfl (.tmp 45) rfl (Mg.ky_int (P := Tryz.prog) Tryz.underlying3) (Mg.inv_int Tryz.underlying3) r lf ct rfl hR (fun h0 => ?_) (fun x y w6 ct6 hx6 hl6 hF6 hR6 hlt6 hg6 hs6 hen6 => ?_)) <;> try (
              replace hs6 := Kp.mk hs6
              obtain ⟨rr, hx1, hx3⟩ := hLB.get hF6
              obtain ⟨bv, ov, nv, cv, rfl, hbv, hnv, hcv⟩ := hx3.head
              have hbr : Below r wr w6 := below_grownBy hg6 (fun b hb => by cases hb; exact Nat.le_refl _) (Nat.le_of_lt hrl) (Below.refl _ _)
              have hRow6 := hRow.bxs (bx_grown hg6 hoi hci)
              have hbA : Below w6.heap.size w6 (w6.alloc (.cells #[.slice (some ⟨bv, ov, none⟩) (nv + 1) cv] 43)) := bNew (Below.refl _ _) _
              have hRowA := stab_rowZ _ _ _ _ _ _ _ _ hRow6 hbA
              have hsrc := sliSrc (W := w6) (b := some ⟨bv, ov, none⟩) (n := nv + 1) (c := cv) rfl
              have hlenA : r ≤ (w6.alloc (.cells #[.slice (some ⟨bv, ov, none⟩) (nv + 1) cv] 43)).heap.size := by have := hs6.out; simp only [World.size_alloc]; omega))
          | (at_builtin; refine wpList_append_rowF rfl (.tmp 50) (.tmp 52) 56 43 rfl ti tz 1 r es.length 1 (es.flatMap elC) [.slice (some ⟨bv, ov, none⟩) (nv + 1) cv] _ (.slice (some ⟨w6.heap.size, 0, none⟩) 1 1) Tryz.underlying56 hti hzz hs1 hz1 rfl rfl hRowA hlenA hsrc (by decide) (by unfold maxLen; omega) (by rw [hby]; omega) ?_; intro v9 w9 e1 e0 e3; replace e1 := Kp.mk e1; replace e0 := Kp.mk e0; replace e3 := Kp.mk e3))
        · refine (sortL_any es r _ wr hMet.lo (Nat.le_of_lt hrl) hRow (by omega)).mono ?_
          rintro _ w7 ⟨rfl, es', hp, hs, hb7, hrow7, hlo7⟩
          obtain ⟨S, cS, hSv, hSA, hSc, hSm⟩ := RowZ.at (p := es') (f := elC) (fun _ => rfl) hrow7
          have hr7 : r ≤ w7.heap.size := Nat.le_trans (Nat.le_of_lt hrl) hb7.size
          have hb9 : Below w.heap.size w w7 := hb.trans (hb7.mono (by omega))
          have hpm := hp.map (fun e : Value × List Int => e.2)
          have hls : Kp (es'.map (fun e : Value × List Int => e.2) = Tw.loopsL l t) := ⟨by
            refine Tw.loops_sorted (fun q => (hpm.mem_iff).trans ⟨fun hq => ?_, fun hq => ?_⟩) (hpm.nodup_iff.2 hMet.nd) (List.pairwise_map.2 hs)
            · obtain ⟨e, he, rfl⟩ := List.mem_map.1 hq
              rw [hG.out]; exact hMet.inn e he
            · have hup := (Tw.loopsL_ok l t).up
              have h1 := (Tw.hdF_iff hup).2 ⟨hq, rfl⟩
              rw [hG.out] at h1
              have h2 : Mg.okI (q.headD 0) := by
                obtain ⟨m, h3, -⟩ := ((Tw.loopsL_ok l t).is q).1 hq
                have h4 := Tw.loop_num hv h3 _ h3.ne
                rw [h3.head]
                exact wf64 ⟨by omega, by omega⟩
              rcases hMet.all _ q h2 h1 with h5 | h5
              · rw [h0] at h5; cases h5
              · exact h5⟩
          clear hp hs hb7 hrow7 hpm hMet hR hRow hLB hb
          go_wp2_with fail
          refine bodyPost_ret (v := .tuple #[_, .int .i64 0]) (by simp [results, Tryz.results16, go_sem]; rfl) rfl ?_
          exact ⟨_, rfl, hb9, es', hls.out, fun e he => (hlo7 e he).more hr7, S, cS, rfl, hSA, hSc, hSm⟩
        · have hk := e0.out
          have hR9 := rn_frn hR6 ((FrN.below (B := 0) hbA).trans (FrN.kpv hk hRowA))
          have hb9 : Below r wr w9 := (hbr.trans (hbA.mono (by have := hs6.out; omega))).trans e1.out
          obtain ⟨D1, hD1, _⟩ := id hR
          obtain ⟨D2, hD2, _⟩ := id hR9
          refine ⟨⟨es ++ [(_, rr)], _, ct6, _, rfl, hR9, hMet.snoc (fun e he => (hMet.lo e he).below hb9) (hx3.below hb9) hx1 hl6, ?_, hb.trans (hb9.mono (by omega)), hLB.below hb9, Nat.lt_of_lt_of_le hrl hb9.size⟩, by rw [hD1.left_eq, hD2.left_eq]; exact hlt6⟩
          rw [List.length_append, List.length_singleton, List.flatMap_append]
          exact e3.out
end Go.Proofs.YtlldlkjngcgcjaaGreatDoor

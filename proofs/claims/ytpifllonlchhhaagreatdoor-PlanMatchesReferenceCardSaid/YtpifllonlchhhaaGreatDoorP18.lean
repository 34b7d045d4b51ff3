/- Arguments that are slices of plain data, opened into lists; arguments read behind the call as before. What the card of PlanMatchesReference needs: the tables laid, arguments opened. -/
import Derived.Test.YtpifllonlchhhaaGreatDoorP00
import Derived.Deep.Slices
import Derived.ProofKit
import Derived.OpenShut
import Derived.Test.YtpifllonlchhhaaGreatDoorP10
import Derived.Deep.Strs
import Derived.ChangeSame
import Derived.ChangeArms
import Derived.Test.YtpifllonlchhhaaGreatDoorCards
import Derived.Test.YtpifllonlchhhaaGreatDoorTie
import Derived.LaidMore
import Derived.Lay
import Derived.SevenTiedAt
import Derived.Stop.Joined
import Derived.Stop.LaidErr
import Derived.Lib.LaidTab
namespace Go.Proofs.YtpifllonlchhhaaGreatDoor
set_option linter.unusedVariables false
open Go.ChangeShapes Go.WideShapes Go.ChangeAt Go.RowKit
section
variable {H : Type} {enc : TypeId × Value → H} {P : Program} {W : World} {sp : Nat → Bool} {held : Bool}
theorem choose_list {α : Type} {Q : Nat → α → Prop} : ∀ n, (∀ i, i < n → ∃ c, Q i c) → ∃ x : List α, x.length = n ∧ ∀ i c, x[i]? = some c → Q i c
  | 0, _ => ⟨[], rfl, fun i c h => by simp at h⟩
  | n + 1, h => by
    obtain ⟨x, hl, hx⟩ := choose_list n fun i hi => h i (by omega)
    obtain ⟨c, hc⟩ := h n (by omega)
    refine ⟨x ++ [c], by simp [hl], fun i d hi => ?_⟩
    rcases Nat.lt_or_ge i x.length with h1 | h1
    · rw [List.getElem?_append_left h1] at hi
      exact hx i d hi
    · rw [List.getElem?_append_right h1] at hi
      have h2 : i - x.length = 0 := by
        rcases Nat.eq_zero_or_pos (i - x.length) with h3 | h3
        · exact h3
        · rw [List.getElem?_eq_none (by simp; omega)] at hi; cases hi
      rw [h2] at hi
      simp only [List.getElem?_cons_zero, Option.some.injEq] at hi
      subst hi
      rw [show i = n by omega]
      exact hc
/-- an array of ints that is read -/
theorem open_arr {n : Nat} {t e : TypeId} (ht : P.underlying t = some (.array n e)) (he : P.underlying e = some (.int .i64)) (ce : P.cellsOf e = 1) (ct : P.cellsOf t = n) {fuel : Nat} {cs : List Value} {y : DataW H × List MemPlace}
    (h : DataW.trod enc P W 0 sp held fuel t cs = some y) : ∃ zs : List Int, cs = zs.map (Value.int .i64) ∧ zs.length = n ∧ ∀ z ∈ zs, (Lit.int .i64 z).wf = true := by
  obtain ⟨xs, m, _, _, hl, hxl, hel⟩ := DataW.trod_array ht h
  rw [ct] at hl
  obtain ⟨zs, hz, hzz⟩ := choose_list (Q := fun i z => cs[i]? = some (Value.int .i64 z) ∧ (Lit.int .i64 z).wf = true) n fun i hi => by
    have h1 := hel i hi
    rw [ce, Nat.mul_one, List.getElem?_eq_getElem (by omega)] at h1
    obtain ⟨z, e1, _, e3⟩ := DataW.trod_int he h1
    refine ⟨z, ?_, e3⟩
    have h0 : ((cs.drop i).take 1)[0]? = some (Value.int .i64 z) := by rw [e1]; rfl
    simpa using h0
  refine ⟨zs, ?_, hz, fun z hm => ?_⟩
  · apply List.ext_getElem?
    intro i
    rw [List.getElem?_map]
    cases hi : zs[i]? with
    | none =>
      rw [List.getElem?_eq_none_iff] at hi
      rw [List.getElem?_eq_none (by omega)]; rfl
    | some z => exact (hzz i z hi).1
  · obtain ⟨i, hi⟩ := List.mem_iff_getElem?.1 hm
    exact (hzz i z hi).2
/-- a slice that is read, of elements of plain data -/
theorem open_at {α : Type} {t e : TypeId} (size : Nat) (f : α → List Value) (Q : α → Prop) (ht : P.underlying t = some (.slice e)) (hce : P.cellsOf e = size) (hpos : 0 < size) (hsz : ∀ c, (f c).length = size)
    (hel : ∀ n cs y, DataW.trod enc P W 0 sp held n e cs = some y → ∃ c, cs = f c ∧ Q c) {r : Reach} {b0 : Nat} {v : Value} {d : DataW H} {ps : List MemPlace} (hval : Value.okWide P W r b0 t v) (hd : DataW.Trod enc P W 0 sp held t v d ps) :
    ∃ (A : Option Addr) (x : List α) (cap : Nat), v = .slice A x.length cap ∧ At size f W W.heap.size A x ∧ x.length ≤ cap ∧ cap ≤ maxLen ∧ ∀ c ∈ x, Q c := by
  obtain ⟨a0, len, cap, rfl⟩ := okWide_slice ht hval
  obtain ⟨fuel, hf⟩ := hd
  rcases Go.Deep.open_slice ht hf with ⟨hcs, _⟩ | ⟨a, len', cap', m, n, D, Pl, hcs, hb, hl, hm, hmm, hx, hel2⟩
  · simp [Value.cells] at hcs
    obtain ⟨rfl, rfl, rfl⟩ := hcs
    exact ⟨none, [], 0, rfl, At.nil, Nat.le_refl _, Nat.zero_le _, fun c h => by cases h⟩
  · simp [Value.cells] at hcs
    obtain ⟨rfl, rfl, rfl⟩ := hcs
    have hlm : len ≤ m := by rw [hmm]; split <;> omega
    obtain ⟨x, hxl, hxx⟩ := choose_list (Q := fun i c => W.cells? 0 (a.add (i * size)) size = some (f c) ∧ Q c) len fun i hi => by
      obtain ⟨cs', h1, h2⟩ := hel2 i (by omega)
      obtain ⟨c, rfl, hq⟩ := hel _ _ _ h2
      rw [hce] at h1
      exact ⟨c, h1, hq⟩
    refine ⟨some a, x, cap, by rw [hxl], fun h0 => ?_, by omega, hm, fun c hc => ?_⟩
    · have hcell : ∀ i c, x[i]? = some c → ∀ j u, (f c)[j]? = some u → W.cell? ((a.add (i * size)).add j) = some u := fun i c hi j u hj => by
        obtain ⟨_, _, hc⟩ := World.cells?_some (hxx i c hi).1
        have hjl : j < size := by rw [← hsz c]; exact (List.getElem?_eq_some_iff.1 hj).1
        rw [hc j hjl]; exact hj
      have h00 : 0 < (f x[0]).length := by rw [hsz]; exact hpos
      have h1 := hcell 0 x[0] (List.getElem?_eq_getElem h0) 0 _ (List.getElem?_eq_getElem h00)
      have hs : a.spot = none := by
        cases hsp : a.spot with
        | none => rfl
        | some k =>
          unfold World.cell? at h1
          split at h1
          · simp [Addr.add, hsp] at h1
          · cases h1
      obtain ⟨b, off, spt⟩ := a
      simp only at hs
      subst hs
      have ha : ∀ o n : Nat, (⟨b, o, none⟩ : Addr).add n = ⟨b, o + n, none⟩ := by
        intro o n
        unfold Addr.add
        split
        · next h => subst h; rfl
        · rfl
      refine ⟨b, off, rfl, ?_, fun i c hi j u hj => ?_⟩
      · have h2 := World.block_lt_of_cell? _ _ h1
        rwa [ha, ha] at h2
      · have := hcell i c hi j u hj
        rwa [ha, ha] at this
    · obtain ⟨i, hi⟩ := List.mem_iff_getElem?.1 hc
      exact (hxx i c hi).2
/-- an array of ints, given -/
theorem open_agg {n : Nat} {t e : TypeId} (ht : P.underlying t = some (.array n e)) (he : P.underlying e = some (.int .i64)) (ce : P.cellsOf e = 1) (ct : P.cellsOf t = n) {r : Reach} {b0 : Nat} {v : Value} {d : DataW H} {ps : List MemPlace}
    (hval : Value.okWide P W r b0 t v) (hd : DataW.Trod enc P W 0 sp held t v d ps) : ∃ zs : List Int, v = .agg (zs.map (Value.int .i64)).toArray ∧ zs.length = n ∧ ∀ z ∈ zs, (Lit.int .i64 z).wf = true := by
  unfold Value.okWide at hval
  rw [ht] at hval
  obtain ⟨cs, rfl, _, _⟩ := hval
  obtain ⟨fuel, hf⟩ := hd
  obtain ⟨zs, h1, h2, h3⟩ := open_arr ht he ce ct hf
  refine ⟨zs, ?_, h2, h3⟩
  have : cs.toList = zs.map (Value.int .i64) := h1
  rw [← this]
theorem len_two {zs : List Int} (h : zs.length = 2) : ∃ a b, zs = [a, b] := by
  match zs, h with
  | [a, b], _ => exact ⟨a, b, rfl⟩
theorem len_three {zs : List Int} (h : zs.length = 3) : ∃ a b c, zs = [a, b, c] := by
  match zs, h with
  | [a, b, c], _ => exact ⟨a, b, c, rfl⟩
/-- arguments read behind the call as they did before -/
theorem trodAll_stay (hl : laidOutB P = true) {W' : World} (hb : Below W.heap.size W W') : ∀ {ts : List TypeId} {vs : List Value} {ds : List (DataW H)} {ps : List MemPlace}, (∀ t ∈ ts, P.readableRec t = true ∧ t < P.types.size) →
    DataW.TrodAll enc P W 0 (fun _ => true) true ts vs ds ps → (∀ x ∈ ps, x.block < W.heap.size) → DataW.TrodAll enc P W' 0 (fun b => decide (b < W.heap.size)) true ts vs ds ps
  | [], _, _, _, _, h, _ => by
    obtain ⟨rfl, rfl, rfl⟩ := trodAll_nil h
    rfl
  | t :: ts, vs, ds, ps, ht, h, hlt => by
    obtain ⟨v, vs', d, ds', p, q, rfl, rfl, rfl, hd, hrest⟩ := trodAll_cons h
    have h1 := ht t (by simp)
    exact ⟨p, q, Below.trod hl h1.1 h1.2 hd hb (fun x hx => hlt x (List.mem_append_left _ hx)), trodAll_stay hl hb (fun u hu => ht u (by simp [hu])) hrest (fun x hx => hlt x (List.mem_append_right _ hx)), rfl⟩
end
end Go.Proofs.YtpifllonlchhhaaGreatDoor
namespace Go.Proofs.YtpifllonlchhhaaGreatDoor
set_option linter.unusedVariables false
set_option linter.constructorNameAsVariable false
set_option maxRecDepth 100000
open Go.ChangeShapes Go.WideShapes Go.ChangeAt Go.RowKit
theorem own : ownKnob Tryz.prog.godebug = none := by kernel_rfl
theorem laidOut : laidOutB Tryz.prog = true := by kernel_rfl
theorem i64_of {z : Int} (h : (Lit.int .i64 z).wf = true) : I64 z := bounds_i64 h
theorem env_of {W : World} (h : laidMetH Tryz.prog Rows.planMatchesReferenceRow.laid W) : Env W := by
  rw [MakeChecks.laidMetH_plain _ _ _ (by kernel_rfl)] at h
  have h3 := h.tail.tail
  have e1 : (Rows.laid_internal_strconv_uint64pow10 : DataW Unit) = Lib.tabData .u64 Lib.pow10Tab := by kernel_rfl
  simp only [e1] at h3
  exact Lib.tabIs_of_head (g := 4) (t := 146) (e := 115) (n := 20) (by kernel_rfl) (by kernel_rfl) (by kernel_rfl) (by kernel_rfl) (by kernel_rfl) (by kernel_rfl) h3
theorem laid_witness (os : Os) (args : Array Value) : laidMetH Tryz.prog Rows.planMatchesReferenceRow.laid ((World.laidAll Tryz.prog os Rows.planMatchesReferenceRow.laid).forCall (fun _ _ => 0) ⟨#[], args, []⟩).memory := by
  rw [MakeChecks.laidMetH_plain _ _ _ (by kernel_rfl)]
  exact laidMet_laidAll _ (by kernel_rfl) (by kernel_rfl)
theorem open_t3s {H : Type} {enc : TypeId × Value → H} {W : World} {r : Reach} {b0 : Nat} {v : Value} {d : DataW H} {ps : List MemPlace} (hval : Value.okWide Tryz.prog W r b0 22 v) (hd : DataW.Trod enc Tryz.prog W 0 (fun _ => true) true 22 v d ps) :
    ∃ (A : Option Addr) (x : List Pl.T3) (cap : Nat), v = .slice A x.length cap ∧ At 3 t3C W W.heap.size A x ∧ x.length ≤ cap ∧ cap ≤ maxLen ∧ ∀ c ∈ x, I64 c.a ∧ I64 c.b ∧ I64 c.c :=
  open_at (P := Tryz.prog) (e := 23) 3 t3C (fun c => I64 c.a ∧ I64 c.b ∧ I64 c.c) Tryz.underlying22 (by kernel_rfl) (by decide) (fun _ => rfl) (fun n cs y h => by
    obtain ⟨zs, rfl, hl, hw⟩ := open_arr (P := Tryz.prog) Tryz.underlying23 Tryz.underlying3 (by kernel_rfl) (by kernel_rfl) h
    obtain ⟨a, b, c, rfl⟩ := len_three hl
    exact ⟨⟨a, b, c⟩, rfl, i64_of (hw a (by simp)), i64_of (hw b (by simp)), i64_of (hw c (by simp))⟩) hval hd
theorem stay_of {H : Type} {enc : TypeId × Value → H} {W : World} {ts : List TypeId} {vs : List Value} {ds : List (DataW H)} {ps : List MemPlace} (h9 : (ts.all fun t => Tryz.prog.readableRec t && decide (t < Tryz.prog.types.size)) = true) (hA : DataW.TrodAll enc Tryz.prog W 0 (fun _ => true) true ts vs ds ps)
    (hlt : ∀ x ∈ ps, x.block < W.heap.size) (W' : World) (hb : Below W.heap.size W W') : DataW.TrodAll enc Tryz.prog W' 0 (fun b => decide (b < W.heap.size)) true ts vs ds ps :=
  trodAll_stay laidOut hb (fun t ht => by simpa using List.all_eq_true.1 h9 t ht) hA hlt
theorem open_ints {H : Type} {enc : TypeId × Value → H} {W : World} {r : Reach} {b0 : Nat} {v : Value} {d : DataW H} {ps : List MemPlace} (hval : Value.okWide Tryz.prog W r b0 25 v) (hd : DataW.Trod enc Tryz.prog W 0 (fun _ => true) true 25 v d ps) :
    ∃ (A : Option Addr) (x : List Int) (cap : Nat), v = .slice A x.length cap ∧ At 1 intC W W.heap.size A x ∧ x.length ≤ cap ∧ cap ≤ maxLen ∧ ∀ c ∈ x, I64 c :=
  open_at (P := Tryz.prog) (e := 3) 1 intC (fun c => I64 c) Tryz.underlying25 (by kernel_rfl) (by decide) (fun _ => rfl) (fun n cs y h => by
    obtain ⟨z, rfl, _, hw⟩ := DataW.trod_int Tryz.underlying3 h
    exact ⟨z, rfl, i64_of hw⟩) hval hd
theorem open_three {H : Type} {enc : TypeId × Value → H} {W : World} {r : Reach} {b0 : Nat} {v : Value} {d : DataW H} {ps : List MemPlace} (hval : Value.okWide Tryz.prog W r b0 23 v) (hd : DataW.Trod enc Tryz.prog W 0 (fun _ => true) true 23 v d ps) :
    ∃ a b c, v = .agg #[.int .i64 a, .int .i64 b, .int .i64 c] ∧ I64 a ∧ I64 b ∧ I64 c := by
  obtain ⟨zs, rfl, hl, hw⟩ := open_agg (P := Tryz.prog) Tryz.underlying23 Tryz.underlying3 (by kernel_rfl) (by kernel_rfl) hval hd
  obtain ⟨a, b, c, rfl⟩ := len_three hl
  exact ⟨a, b, c, rfl, i64_of (hw a (by simp)), i64_of (hw b (by simp)), i64_of (hw c (by simp))⟩
theorem open_str {H : Type} {enc : TypeId × Value → H} {W : World} {r : Reach} {b0 : Nat} {v : Value} {d : DataW H} {ps : List MemPlace} (hval : Value.okWide Tryz.prog W r b0 9 v) (hd : DataW.Trod enc Tryz.prog W 0 (fun _ => true) true 9 v d ps) :
    ∃ s : List UInt8, v = .string ⟨s.toArray⟩ ∧ s.length ≤ 9223372036854775807 := by
  obtain ⟨b, rfl, -, -, hs⟩ := Go.ChangeMaps.open_string Tryz.underlying9 hval hd
  obtain ⟨l, rfl⟩ := ba_of b
  exact ⟨l, rfl, Nat.le_trans hs (by decide)⟩
theorem open_codes {H : Type} {enc : TypeId × Value → H} {W : World} {r : Reach} {b0 : Nat} {v : Value} {d : DataW H} {ps : List MemPlace} (hval : Value.okWide Tryz.prog W r b0 24 v) (hd : DataW.Trod enc Tryz.prog W 0 (fun _ => true) true 24 v d ps) :
    ∃ (A : Option Addr) (x : List Pl.Cd) (cap : Nat), v = .slice A x.length cap ∧ At 3 codeC W W.heap.size A x ∧ x.length ≤ cap ∧ cap ≤ maxLen ∧ ∀ c ∈ x, c.old.length ≤ 9223372036854775807 ∧ c.new.length ≤ 9223372036854775807 ∧ I64 c.len :=
  open_at (P := Tryz.prog) (e := 29) 3 codeC (fun c => c.old.length ≤ 9223372036854775807 ∧ c.new.length ≤ 9223372036854775807 ∧ I64 c.len) Tryz.underlying24 (by kernel_rfl) (by decide) (fun _ => rfl) (fun n cs y h => by
    obtain ⟨y0, y1, y2, m, -, hl, h0, h1, h2⟩ := Go.Deep.trod_struct3 (P := Tryz.prog) Tryz.underlying29 h
    have hl2 : cs.length = 3 := hl
    match cs, hl2 with
    | [c0, c1, c2], _ =>
      obtain ⟨s0, e0, _, k0⟩ := DataW.trod_string Tryz.underlying9 (show DataW.trod enc Tryz.prog W 0 (fun _ => true) true m 9 [c0] = some y0 from h0)
      obtain ⟨s1, e1, _, k1⟩ := DataW.trod_string Tryz.underlying9 (show DataW.trod enc Tryz.prog W 0 (fun _ => true) true m 9 [c1] = some y1 from h1)
      obtain ⟨z2, e2, _, k2⟩ := DataW.trod_int Tryz.underlying3 (show DataW.trod enc Tryz.prog W 0 (fun _ => true) true m 3 [c2] = some y2 from h2)
      simp only [List.cons.injEq, and_true] at e0 e1 e2
      subst e0 e1 e2
      obtain ⟨l0, rfl⟩ := ba_of s0
      obtain ⟨l1, rfl⟩ := ba_of s1
      exact ⟨⟨l0, l1, z2⟩, rfl, Nat.le_trans k0 (by decide), Nat.le_trans k1 (by decide), i64_of k2⟩) hval hd
end Go.Proofs.YtpifllonlchhhaaGreatDoor

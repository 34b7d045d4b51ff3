/- A region that draws its order, each operation by a relation of its own, guarded operations included. -/
import Derived.Test.YtdjnkaeggnkgeaaGreatDoorRg
namespace Go.Proofs.YtdjnkaeggnkgeaaGreatDoor
set_option linter.unusedVariables false
open Go.RowKit
def looksG (ops : Array Oper) (n : Nat) : Bool :=
  (List.range n).all fun i => match ops[i]? with
    | none => true
    | some o => (match o.op with | .select .. => false | _ => true) &&
      (o.looksAt ops).all fun t => (List.range ops.size).all fun j => match ops[j]? with | some oj => oj.dst != some t || decide (j < i) || decide (n ≤ j) | none => true
theorem wanted_same {ops : Array Oper} {o : Oper} {a b : Act} (hsz : a.tmps.size = b.tmps.size) (h : ∀ t ∈ o.looksAt ops, a.tmps.getD t undef = b.tmps.getD t undef) : Region.wanted o (yielded ops a.tmps) = Region.wanted o (yielded ops b.tmps) := by
  unfold Region.wanted
  cases hg : o.guard with
  | none => rfl
  | some g =>
    obtain ⟨j, want⟩ := g
    simp only
    congr 1
    unfold yielded
    cases hd : (ops[j]?).bind (·.dst) with
    | none => rfl
    | some t =>
      have ht : t ∈ o.looksAt ops := by
        unfold Oper.looksAt
        rw [hg]
        simp [hd]
      have h1 := h t ht
      simp only [Option.bind_some]
      by_cases hlt : t < a.tmps.size
      · have hlt' : t < b.tmps.size := hsz ▸ hlt
        simp only [Array.getD_eq_getD_getElem?, Array.getElem?_eq_getElem hlt, Array.getElem?_eq_getElem hlt', Option.getD_some] at h1
        rw [Array.getElem?_eq_getElem hlt, Array.getElem?_eq_getElem hlt', h1]
      · rw [Array.getElem?_eq_none (Nat.le_of_not_lt hlt), Array.getElem?_eq_none (Nat.le_of_not_lt (hsz ▸ hlt))]
section
variable {P : Program} {ops : Array Oper} {R : Nat → Value → World → Prop} {w0 : World} {a0 : Act} {Q : Exit → Act → World → Prop}
theorem step_of_userG {n i : Nat} {o : Oper} (hok : okRG ops a0.tmps.size = true) (hlk : looksG ops n = true) (hi : i < n) (hin : n ≤ ops.size) (ho : ops[i]? = some o) (h : UserRG P ops R w0 a0 i o) : StepRG P ops n R w0 a0 Q i o := by
  intro a w hb hsame hdeps
  have h1 := List.all_eq_true.1 hlk i (List.mem_range.2 hi)
  simp only [ho, Bool.and_eq_true] at h1
  obtain ⟨hsel, hl⟩ := h1
  have hu := h (slotV ops a) w hb (AllE_of _ fun e he hbd => hdeps e (by simpa using he) hbd)
  have hslots : ∀ t ∈ o.looksAt ops, (seen ops (slotV ops a) i a0).tmps.getD t undef = a.tmps.getD t undef := fun t ht => by
    have h2 := List.all_eq_true.1 hl t ht
    refine seen_slot (Nat.le_of_lt hi) hok hsame fun j oj hj hd => ?_
    have h3 := List.all_eq_true.1 h2 j (List.mem_range.2 (Array.getElem?_eq_some_iff.1 hj).1)
    simpa [hj, hd] using h3
  have hsz := putAll_size (slotV ops a) (ops.toList.take i) 0 a0
  have hsz' : (seen ops (slotV ops a) i a0).tmps.size = a.tmps.size := by rw [seen, hsz.1, hsame.2.1]
  have hput : ∀ v, dstV o ((seen ops (slotV ops a) i a0).put o.dst v) = if o.dst.isSome then v else undef := by
    intro v
    unfold dstV
    cases hd : o.dst with
    | none => rfl
    | some d =>
      simp only [Option.isSome_some, if_true]
      rw [getD_put, if_pos ⟨rfl, by rw [seen, hsz.1]; exact (okRG_spec hok ho).2.1 d hd⟩]
  simp only [wpList] at hu
  rw [wanted_same hsz' hslots] at hu
  by_cases hw : Region.wanted o (yielded ops a.tmps) = true
  · rw [if_pos hw] at hu ⊢
    have hexec : execOp a.eval o = execOp (seen ops (slotV ops a) i a0).eval o := by
      refine execOp_congr o (fun cs b e => by rw [e] at hsel; simp at hsel) fun x hx => ?_
      cases x with
      | tmp t => exact (hslots t (List.mem_append_left _ (List.mem_filterMap.2 ⟨.tmp t, by simpa using hx, rfl⟩))).symm
      | _ => rfl
    rcases hu with hu | hu
    · unfold Oper.wp at hu ⊢
      rw [hexec]
      generalize (execOp (seen ops (slotV ops a) i a0).eval o).run P w = r at hu
      cases r with
      | halt x w' => cases x <;> simp only [Oper.upon] at hu ⊢ <;> first | exact absurd hu.1 (by simp) | exact hu
      | ok nx w' =>
        cases nx <;> simp only [Oper.upon] at hu ⊢
        case value v => exact ⟨v, rfl, hu.2.2.1, by rw [← hput]; exact hu.2.2.2⟩
        case skip => exact ⟨undef, rfl, hu.2.2.1, by rw [← hput]; exact hu.2.2.2⟩
        case defer d =>
          exfalso
          have := hu.2.1
          have h9 := congrArg List.length this
          cases hd : o.dst <;> simp [hd, Act.put, seen, hsz.2] at h9
        case enter f args =>
          refine Calls.mono hu fun e w'' he => ?_
          cases e with
          | returned v => exact ⟨v, rfl, he.2.2.1, by rw [← hput]; exact he.2.2.2⟩
          | panicked c => exact absurd he.1 (by simp)
          | outgrown => exact (not_letsOut (R := R i) he).elim
        case row s args => exact Rows.mono hu fun v w'' he => ⟨v, rfl, he.2.2.1, by rw [← hput]; exact he.2.2.2⟩
        all_goals exact hu.elim
    · exact (not_letsOut (R := R i) hu.2).elim
  · rw [if_neg hw] at hu ⊢
    have h9 := hu.2.2.2
    rw [hput] at h9
    split at h9 <;> exact h9
theorem any_region_rgG {l : List Oper} {Q : Exit → Act → World → Prop} {a0 : Act} {w0 : World} (n : Nat) (R : Nat → Value → World → Prop)
    (hB : (okRG l.toArray a0.tmps.size && looksG l.toArray n && (decide (l.length ≤ n) || (Region.sinkB .any l.toArray n && Region.chainB .any l.toArray n)) && decide (n ≤ l.length) && Region.seqB .any l.toArray (l.length - n) n ((List.range l.length).map fun i => decide (i < n)).toArray) = true)
    (hst : ∀ i v w w', R i v w → Below w.heap.size w w' → R i v w') (hsteps : UsersRG P l.toArray R w0 a0 0 (l.take n))
    (hfin : ∀ vs w', Below w0.heap.size w0 w' → (∀ i, i < n → R i (vs i) w') → wpList P l.toArray Q (l.drop n) (putAll vs 0 (l.take n) a0) w') : wpAny P .any l.toArray Q l.toArray.size (Array.replicate l.toArray.size false) a0 { w0 with drawn := w0.drawn + 1 } := by
  simp only [Bool.and_eq_true, decide_eq_true_eq] at hB
  obtain ⟨⟨⟨⟨hok, hlk⟩, hsc⟩, hn⟩, hseq⟩ := hB
  have hsc' : l.toArray.size ≤ n ∨ (Region.sinkB .any l.toArray n = true ∧ Region.chainB .any l.toArray n = true) := by
    rw [Bool.or_eq_true, Bool.and_eq_true, decide_eq_true_eq] at hsc
    simpa using hsc
  have hn' : n ≤ l.toArray.size := by simpa using hn
  have hb0 : Below w0.heap.size w0 { w0 with drawn := w0.drawn + 1 } := by
    have := below_regrown w0 (w0.drawn + 1) #[]
    rwa [Sort.grow_empty] at this
  have inv0 : HeadInv .any l.toArray n (Array.replicate l.toArray.size false) :=
    ⟨by simp, fun j oj _ hl => (by rw [getD_replicate_false] at hl; cases hl), fun t _ ht => getD_in (by simpa using ht) (getD_replicate_false _ _)⟩
  have H := any_rg (P := P) (ops := l.toArray) (R := R) (w0 := w0) (a0 := a0) (Q := Q) (n := n) (g := l.length - n) hok hsc' hn' hst (fun i o hi ho => step_of_userG hok hlk hi hn' ho (by
      have := UsersRG.get (l.take n) 0 i o hsteps (by rw [List.getElem?_take, if_pos hi]; simpa using ho)
      rwa [Nat.zero_add] at this)) (fun listed a w inv hall hb hsame hR => by
    have hlst : listed = ((List.range l.length).map fun i => decide (i < n)).toArray := by
      apply Array.ext
      · simp [inv.size]
      · intro i h1 h2
        have hi : i < l.length := by simpa using h2
        simp only [List.getElem_toArray, List.getElem_map, List.getElem_range]
        rcases Nat.lt_or_ge i n with h | h
        · have := hall i h
          simp [Array.getD_eq_getD_getElem?, h1] at this
          simp [h, this]
        · have := inv.tail i h (by simpa using hi)
          simp [Array.getD_eq_getD_getElem?, h1] at this
          simp [this]; omega
    have hfr : a = putAll (slotV l.toArray a) 0 (l.take n) a0 := by
      have hsz := putAll_size (slotV l.toArray a) (l.take n) 0 a0
      have key : a.tmps = (putAll (slotV l.toArray a) 0 (l.take n) a0).tmps := by
        apply Array.ext
        · rw [hsz.1, hsame.2.1]
        · intro t h1 h2
          have e1 : a.tmps[t] = a.tmps.getD t undef := by simp [Array.getD_eq_getD_getElem?, h1]
          have e2 : (putAll (slotV l.toArray a) 0 (l.take n) a0).tmps[t] = (putAll (slotV l.toArray a) 0 (l.take n) a0).tmps.getD t undef := by simp [Array.getD_eq_getD_getElem?, h2]
          rw [e1, e2]
          by_cases hw : ∃ (j : Nat) (oj : Oper), j < n ∧ l.toArray[j]? = some oj ∧ oj.dst = some t
          · obtain ⟨j, oj, hjn, hj, hd⟩ := hw
            have hsp := okRG_spec hok hj
            rw [putAll_eq (slotV l.toArray a) t (l.take n) 0 j oj a0 (by rw [List.getElem?_take, if_pos hjn]; simpa using hj) hd (fun k o' hjk hk hd' => hsp.2.2 k o' t t (by omega) (by simpa using (take_get' hk).2) hd' hd rfl) (hsp.2.1 t hd)]
            have hj' : l[j]? = some oj := by simpa using hj
            simp [slotV, hj', hd]
          · have hno : ∀ (j : Nat) (oj : Oper), j < n → l.toArray[j]? = some oj → oj.dst ≠ some t := fun j oj hjn hj hd => hw ⟨j, oj, hjn, hj, hd⟩
            rw [hsame.2.2 t hno]
            refine (putAll_ne _ _ _ _ _ fun o ho => ?_).symm
            obtain ⟨j, hj⟩ := List.mem_iff_getElem?.1 ho
            exact hno j o (take_get' hj).1 (by simpa using (take_get' hj).2)
      have kd : a.defers = (putAll (slotV l.toArray a) 0 (l.take n) a0).defers := by rw [hsz.2, hsame.1]
      exact act_ext key kd
    have h2 := hfin (slotV l.toArray a) w hb hR
    rw [← hfr] at h2
    have h3 := wpAny_of_seq (P := P) (ops := l.toArray) (md := .any) (Q' := Q) (l.drop n) n listed a w (fun j => by simp [List.getElem?_drop]) (by rw [hlst]; simpa using hseq) h2
    simpa using h3) n (Array.replicate l.toArray.size false) a0 { w0 with drawn := w0.drawn + 1 } inv0 (by
      have : (List.range n).countP (fun i => !(Array.replicate l.toArray.size false).getD i true) = (List.range n).length := List.countP_eq_length.2 fun i hi => by
        have := List.mem_range.1 hi
        simp [Array.getD_eq_getD_getElem?, show i < l.length by omega]
      simpa using this) hb0 ⟨rfl, rfl, fun _ _ => rfl⟩ (fun i _ h => by rw [getD_replicate_false] at h; cases h)
  rw [show n + (l.length - n) = l.toArray.size by simp; omega] at H
  exact H
end
/-- what is shown of each operation of the head -/
def UsersG (P : Program) (ops : Array Oper) (ps : List (Value → World → Prop)) (w0 : World) (a0 : Act) : List (Option Tmp) → List Oper → List (Value → World → Prop) → Prop
  | pre, o :: l, q :: qs => (∀ (vs : Nat → Value) (w : World), Below w0.heap.size w0 w → (∀ j, depB o j = true → rel ps j (vs j) w) →
      wpList P ops (fun e a' w' => e = .normal ∧ a'.defers = a0.defers ∧ Below w.heap.size w w' ∧ q (dstV o a') w') [o] (putD vs 0 pre a0) w) ∧ UsersG P ops ps w0 a0 (pre ++ [o.dst]) l qs
  | _, _, _ => True
theorem UsersG.rg {P : Program} {ps : List (Value → World → Prop)} {w0 : World} {a0 : Act} {L : List Oper} {n : Nat} (hnp : n ≤ ps.length) : ∀ (l : List Oper) (k : Nat), (∀ j, l[j]? = (L.take n)[k + j]?) → UsersG P L.toArray ps w0 a0 ((L.take k).map (·.dst)) l (ps.drop k) → UsersRG P L.toArray (rel ps) w0 a0 k l
  | [], _, _, _ => trivial
  | o :: l, k, hl, h => by
    have h0 : (L.take n)[k]? = some o := by simpa using (hl 0).symm
    obtain ⟨hkn, hLo⟩ := take_get' h0
    have hkp : k < ps.length := by omega
    rw [List.drop_eq_getElem_cons hkp] at h
    refine ⟨fun vs w hb hE => ?_, UsersG.rg hnp l (k + 1) (fun j => by have := hl (j + 1); simpa [Nat.add_assoc, Nat.add_comm 1 j] using this) ?_⟩
    · have hu := h.1 vs w hb fun j hj => by
        obtain ⟨e, he, hej⟩ := List.any_eq_true.1 hj
        simp only [Bool.and_eq_true, beq_iff_eq] at hej
        have := AllE_get _ hE e he hej.1
        rwa [hej.2] at this
      have hfr : seen L.toArray vs k a0 = putD vs 0 ((L.take k).map (·.dst)) a0 := putAll_D vs _ 0 a0
      rw [hfr]
      have hq : ps[k] = ps.getD k Anyv := by simp [List.getD_eq_getElem?_getD, hkp]
      rw [hq] at hu
      exact hu
    · have h2 := h.2
      have e1 : (L.take k).map (·.dst) ++ [o.dst] = (L.take (k + 1)).map (·.dst) := by
        rw [List.take_add_one, hLo]; simp
      rw [e1] at h2
      exact h2
theorem any_region_rglG {P : Program} {l : List Oper} {Q : Exit → Act → World → Prop} {a0 : Act} {w0 : World} (ps : List (Value → World → Prop)) (n sz : Nat) (hnp : ps.length = n) (hsz : a0.tmps.size = sz)
    (hB : (okRG l.toArray sz && looksG l.toArray n && (decide (l.length ≤ n) || (Region.sinkB .any l.toArray n && Region.chainB .any l.toArray n)) && decide (n ≤ l.length) && Region.seqB .any l.toArray (l.length - n) n ((List.range l.length).map fun i => decide (i < n)).toArray) = true)
    (hst : AllS ps) (hsteps : UsersG P l.toArray ps w0 a0 [] (l.take n) ps)
    (hfin : ∀ vs w', Below w0.heap.size w0 w' → AllR vs w' 0 ps → wpList P l.toArray Q (l.drop n) (putD vs 0 ((l.take n).map (·.dst)) a0) w') : wpAny P .any l.toArray Q l.toArray.size (Array.replicate l.toArray.size false) a0 { w0 with drawn := w0.drawn + 1 } := by
  subst hnp hsz
  refine any_region_rgG ps.length (rel ps) hB (fun i v w w' h hb => AllS.get ps i hst v w w' h hb) (UsersG.rg (Nat.le_refl _) (l.take ps.length) 0 (fun j => by simp) hsteps) fun vs w' hb hR => by rw [putAll_D]; exact hfin vs w' hb (AllR_of ps 0 fun i hi => by rw [Nat.zero_add]; exact hR i hi)
theorem wp_region_rglG {P : Program} {id : Nat} {l : List Oper} {Q : Exit → Act → World → Prop} {a0 : Act} {w0 : World} (ps : List (Value → World → Prop)) (n sz : Nat) (hm : P.follows .mixedOrders = true) (hnp : ps.length = n) (hsz : a0.tmps.size = sz)
    (hB : (okRG l.toArray sz && looksG l.toArray n && (decide (l.length ≤ n) || (Region.sinkB .any l.toArray n && Region.chainB .any l.toArray n)) && decide (n ≤ l.length) && Region.seqB .any l.toArray (l.length - n) n ((List.range l.length).map fun i => decide (i < n)).toArray) = true)
    (hst : AllS ps) (hsteps : UsersG P l.toArray ps w0 a0 [] (l.take n) ps)
    (hfin : ∀ vs w', Below w0.heap.size w0 w' → AllR vs w' 0 ps → wpList P l.toArray Q (l.drop n) (putD vs 0 ((l.take n).map (·.dst)) a0) w') : (Code.region id l.toArray true).wp P Q a0 w0 :=
  wp_region_any hm (any_region_rglG ps n sz hnp hsz hB hst hsteps hfin)
end Go.Proofs.YtdjnkaeggnkgeaaGreatDoor

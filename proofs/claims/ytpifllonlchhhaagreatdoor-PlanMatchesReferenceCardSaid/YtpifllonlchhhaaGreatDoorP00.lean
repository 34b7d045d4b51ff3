/- Small lemmas for walks, of no program: strings as lists of bytes, results, cells behind a call, slices that are read, regions that draw and make memory. Go's library at this dump: strings.Trim, strings.Repeat, strconv.Itoa, strconv.Atoi, said of lists of bytes. Plain mathematics of numbering plans: no Go in sight. The small functions of packages plan, dialtoneref12 and dialtonelaw12: what each returns. -/
import Derived.WalkKit
import Derived.Lib.Hide
import Derived.Lib.Strings
import Derived.WalkSpells
import Derived.WalkLawsBesides
import Derived.Handy
import Derived.Outline
import Derived.Laws.BytesString
import Derived.Lib.QuietBelow
import Derived.BigQuiet
import Derived.StillTail
import Derived.Deep.DeepFit
import Derived.OwnWalk
import Derived.Laws.OwnMore
import Derived.Test.YtpifllonlchhhaaGreatDoorShelf
import Derived.Test.YtpifllonlchhhaaGreatDoorProg
namespace Go.Proofs.YtpifllonlchhhaaGreatDoor
set_option linter.unusedVariables false
set_option linter.unusedSimpArgs false
open Go.RowKit

/-- a string's bytes as a list -/
def str (l : List UInt8) : Value := .string ⟨l.toArray⟩

theorem ba_app (a b : List UInt8) : ((⟨a.toArray⟩ : ByteArray) ++ ⟨b.toArray⟩) = ⟨(a ++ b).toArray⟩ := by
  apply ByteArray.ext
  simp
theorem ba_ext (l : List UInt8) (a b : Nat) : (⟨l.toArray⟩ : ByteArray).extract a b = ⟨((l.drop a).take (b - a)).toArray⟩ := by
  rw [Lib.extract_eq]
theorem ba_of (s : ByteArray) : ∃ l : List UInt8, s = ⟨l.toArray⟩ := ⟨s.data.toList, (Lib.mk_data s).symm⟩
theorem ret_int {k : IntKind} {a b : Int} (h : a = b) : Ending.returned (.int k a) = .returned (.int k b) := by rw [h]
theorem ret_bool {a b : Bool} (h : a = b) : Ending.returned (.bool a) = .returned (.bool b) := by rw [h]
theorem ret_str {a b : List UInt8} (h : a = b) : Ending.returned (.string ⟨a.toArray⟩) = .returned (.string ⟨b.toArray⟩) := by rw [h]
theorem val_int {k : IntKind} {a b : Int} (h : a = b) : Value.int k a = .int k b := by rw [h]
theorem val_str {a b : List UInt8} (h : a = b) : Value.string ⟨a.toArray⟩ = .string ⟨b.toArray⟩ := by rw [h]
/-- behind a call: the cells and marks that were there -/
theorem bcell {W w1 : World} (hb : Below W.heap.size W w1) : (∀ b o, b < W.heap.size → w1.cell? ⟨b, o, none⟩ = W.cell? ⟨b, o, none⟩) ∧ (∀ b o, b < W.heap.size → w1.frozen? ⟨b, o, none⟩ = W.frozen? ⟨b, o, none⟩) :=
  ⟨fun b o h => hb.cell (p := ⟨b, o, none⟩) h, fun b o h => hb.frozen (p := ⟨b, o, none⟩) h⟩
/-! 'Below' from the call's beginning on -/
theorem bStart (a : World) : Below a.heap.size a a := Below.refl _ _
theorem bCall {a W w1 : World} (h : Below a.heap.size a W) (hb : Below W.heap.size W w1) : Below a.heap.size a w1 := h.trans (hb.mono h.size)
theorem bNew {a W : World} (h : Below a.heap.size a W) (o : Obj) : Below a.heap.size a (W.alloc o) := h.alloc h.size o
theorem bAgain {a W : World} (h : Below a.heap.size a W) (d : Nat) (os : Array Obj) : Below a.heap.size a (Sort.grow (redrawn W d) os) := bCall h (below_regrown W d os)
theorem bSet {a W : World} (h : Below a.heap.size a W) {p : Addr} (hp : a.heap.size ≤ p.block) (u : Value) : Below a.heap.size a (W.setCell p u) := h.setCell hp u
theorem calls_below {P : Program} {f : FuncId} {args : Array Value} {w : World} {v : Value} (h : Calls P f args w fun e w' => e = .returned v ∧ w = w') : Calls P f args w fun e w' => e = .returned v ∧ Below w.heap.size w w' :=
  h.mono fun _ _ h => ⟨h.1, h.2 ▸ Below.refl _ _⟩
/-- one byte, made a string -/
theorem conv_one {P : Program} (src dst e : TypeId) (hs : P.underlying src = some (.slice e)) (he : P.underlying e = some (.int .u8)) (hd : P.underlying dst = some .string) (x : Int) (w : World) :
    (convert src dst (.slice (some ⟨w.heap.size, 0, none⟩) 1 1)).run P (w.alloc (.cells #[.int .u8 x] e)) = .ok (.string ⟨#[UInt8.ofNat x.toNat]⟩) (w.alloc (.cells #[.int .u8 x] e)) := by
  rw [run_convert_bytes_string _ src dst e _ 1 1 hs he hd, run_bytesToString _ _ _ _ [x] (by simp [loadCells, go_sem])]
  rfl
theorem below_drewN {B : Nat} {a w : World} (h : Below B a w) (n : Nat) : Below B a (w.drewN n) := ⟨h.os, h.tape, h.output, h.size, h.block⟩
theorem ba_get (l : List UInt8) (k : Nat) (h : k < (⟨l.toArray⟩ : ByteArray).size) : (⟨l.toArray⟩ : ByteArray)[k]'h = l[k]'(show k < l.length from h) := rfl
attribute [go_sem] ba_app ba_ext ba_get

/-! ### a slice that is read: the elements as Lean data -/
/-- 'A' is the address of a slice of the elements 'p', each of 'f p' cells ('size' of them), all below block B. -/
def At {α : Type} (size : Nat) (f : α → List Value) (w : World) (B : Nat) (A : Option Addr) (p : List α) : Prop :=
  0 < p.length → ∃ b off, A = some ⟨b, off, none⟩ ∧ b < B ∧ ∀ i c, p[i]? = some c → ∀ j u, (f c)[j]? = some u → w.cell? ⟨b, off + i * size + j, none⟩ = some u
section
variable {α : Type} {size : Nat} {f : α → List Value} {w w' : World} {B B' : Nat} {A : Option Addr} {p : List α}
theorem At.keep (h : At size f w B A p) (hk : ∀ b o, b < B → w'.cell? ⟨b, o, none⟩ = w.cell? ⟨b, o, none⟩) : At size f w' B A p := fun h0 => by
  obtain ⟨b, off, e, hb, hc⟩ := h h0
  exact ⟨b, off, e, hb, fun i c hi j u hj => (hk b _ hb).trans (hc i c hi j u hj)⟩
theorem At.below (h : At size f w B A p) (hb : Below B w w') : At size f w' B A p := h.keep fun b o hlt => hb.cell (p := ⟨b, o, none⟩) hlt
theorem At.more (h : At size f w B A p) (hB : B ≤ B') : At size f w B' A p := fun h0 => by
  obtain ⟨b, off, e, hb, hc⟩ := h h0
  exact ⟨b, off, e, by omega, hc⟩
theorem At.take (h : At size f w B A p) (n : Nat) : At size f w B A (p.take n) := fun h0 => by
  obtain ⟨b, off, e, hb, hc⟩ := h (by simp at h0; omega)
  refine ⟨b, off, e, hb, fun i c hi => hc i c ?_⟩
  rw [List.getElem?_take] at hi
  split at hi
  · exact hi
  · cases hi
theorem At.nil : At size f w B A ([] : List α) := fun h => by simp at h
end
/-! ### a region that draws its order: its first 'n' operations read, or call what makes memory; the rest stands in one forced order -/
section
variable {P : Program} {ops : Array Oper} {md : Region.Mode} {C : World → Prop}
/-- whatever order the first operations take: each of them is quiet in the class; 'L' holds when they are done -/
def headQ (P : Program) (md : Region.Mode) (ops : Array Oper) (C : World → Prop) (n : Nat) (L : Array Bool → Act → Prop) : Nat → Array Bool → Act → Prop
  | 0, listed, a => L listed a
  | f + 1, listed, a => Region.ready md ops listed ≠ [] ∧ ∀ i ∈ Region.ready md ops listed, i < n ∧ qOp P ops C i (headQ P md ops C n L f (listed.setIfInBounds i true)) a
theorem any_of_headQ {n g : Nat} {L : Array Bool → Act → Prop} {Q' : Exit → Act → World → Prop} (hL : ∀ listed a w, C w → L listed a → wpAny P md ops Q' g listed a w) :
    ∀ (f : Nat) (listed : Array Bool) (a : Act) (w : World), C w → headQ P md ops C n L f listed a → wpAny P md ops Q' (f + g) listed a w
  | 0, listed, a, w, hC, h => by rw [Nat.zero_add]; exact hL _ _ _ hC h
  | f + 1, listed, a, w, hC, h => by
    rw [show f + 1 + g = (f + g) + 1 by omega]
    exact ⟨fun h0 => absurd h0 h.1, fun i hi => wpOp_of_qOp hC (fun a' w' hw' h' => any_of_headQ hL f _ a' w' hw' h') (h.2 i hi).2⟩
theorem headQ_first {n i : Nat} {oi : Oper} {v : Value} {L : Array Bool → Act → Prop} (hi : ops[i]? = some oi) (hsel : ∀ (j : Nat) (o : Oper) cs b, ops[j]? = some o → o.op ≠ .select cs b)
    (hs : Region.sinkB md ops n = true) (hc : Region.chainB md ops n = true) (hn : n < ops.size) (hin : i < n) (hdone : ∀ listed a, L listed a → ∀ j ∈ Region.ready md ops listed, n ≤ j) :
    ∀ (f : Nat) (listed : Array Bool) (a : Act), HeadInv md ops n listed →
      (∀ j oj, ops[j]? = some oj → j ≠ i → listed.getD j true = false → (∀ e ∈ oj.after, Region.binds md e = true → e.on ≠ i) → oi.apart ops oj = true) →
      i ∈ Region.ready md ops listed → YieldsIn P ops C oi v a →
      headQ P md ops C n L f (listed.setIfInBounds i true) (a.put oi.dst v) → headQ P md ops C n L (f + 1) listed a := by
  intro f
  induction f with
  | zero =>
    intro listed a inv _ hr hy H
    have hun := (mem_ready.1 hr).1
    refine ⟨List.ne_nil_of_mem hr, fun j hj => ?_⟩
    have hjn : j < n := by
      rcases Nat.lt_or_ge j n with h | h
      · exact h
      · exact absurd hj (tail_waits hs hc hn inv _ i rfl hin hun j h)
    refine ⟨hjn, ?_⟩
    by_cases hji : j = i
    · subst hji; exact hy.qOp hi H
    · have := hdone _ _ H j (ready_mono hj hji)
      omega
  | succ f ih =>
    intro listed a inv hfree hr hy H
    have hun := (mem_ready.1 hr).1
    refine ⟨List.ne_nil_of_mem hr, fun j hj => ?_⟩
    have hjn : j < n := by
      rcases Nat.lt_or_ge j n with h | h
      · exact h
      · exact absurd hj (tail_waits hs hc hn inv _ i rfl hin hun j h)
    refine ⟨hjn, ?_⟩
    by_cases hji : j = i
    · subst hji; exact hy.qOp hi H
    · have h1 := (H.2 j (ready_mono hj hji)).2
      obtain ⟨hjun, oj, hoj, hall⟩ := mem_ready.1 hj
      have hnot : ∀ e ∈ oj.after, Region.binds md e = true → e.on ≠ i := fun e he hb heq => by
        have h1 := hall e he hb
        rw [heq, getD_both hun] at h1
        cases h1
      have h2 := qOp_put hoj (hfree j oj hoj hji hjun hnot) (fun cs b => hsel i oi cs b hi) (fun cs b => hsel j oj cs b hoj) hy h1
      have hfree' : ∀ k ok, ops[k]? = some ok → k ≠ i → (listed.setIfInBounds j true).getD k true = false →
          (∀ e ∈ ok.after, Region.binds md e = true → e.on ≠ i) → oi.apart ops ok = true := fun k ok hk hki hun' hno => by
        refine hfree k ok hk hki ?_ hno
        by_cases hjk : j = k
        · subst hjk; exact hjun
        · rw [getD_set_ne true hjk] at hun'; exact hun'
      refine qOp_mono (fun a' h3 => ih (listed.setIfInBounds j true) a' (inv.set hj hjn) hfree' (ready_mono hr (Ne.symm hji)) h3.1 ?_) h2
      rw [Array.setIfInBounds_comm _ _ hji]
      exact h3.2
theorem headQ_lex {n g : Nat} {Lq : Act → Prop} (hsel : Region.noSelect ops = true) (hs : Region.sinkB md ops n = true) (hc : Region.chainB md ops n = true) (hn : n < ops.size) :
    ∀ (l : List Oper) (k : Nat) (listed : Array Bool) (a : Act), (∀ j, j < l.length → l[j]? = ops[k + j]?) → k + l.length = n → HeadInv md ops n listed →
    Region.lexHead md ops g l.length k listed = true → wpQuiet P ops C Lq l a →
    headQ P md ops C n (fun listed' a' => Region.seqB md ops g n listed' = true ∧ Lq a') l.length listed a
  | [], k, listed, a, _, hk, _, hB, h => by
    obtain rfl : k = n := by simpa using hk
    exact ⟨by simpa [Region.lexHead] using hB, h⟩
  | o :: l, k, listed, a, hl, hk, inv, hB, h => by
    have h0 : ops[k]? = some o := by simpa using (hl 0 (by simp)).symm
    simp only [List.length_cons, Region.lexHead, Bool.and_eq_true] at hB
    obtain ⟨⟨hr, hf⟩, hB'⟩ := hB
    have hkn : k < n := by simp only [List.length_cons] at hk; omega
    have hr' : k ∈ Region.ready md ops listed := by simpa using hr
    have hst : qOp P ops C k (wpQuiet P ops C Lq l) a := by unfold qOp; simp only [h0]; exact h
    obtain ⟨v, hy, hK⟩ := yieldsIn_of_qOp h0 hst
    exact headQ_first h0 (Region.noSelect_spec hsel) hs hc hn hkn (fun listed' a' hL => seqB_ready hL.1) l.length listed a inv (Region.free_spec h0 hf) hr' hy
      (headQ_lex hsel hs hc hn l (k + 1) _ _ (fun j hj => by have := hl (j + 1) (by simp; omega); simpa [Nat.add_assoc, Nat.add_comm 1 j] using this) (by simp only [List.length_cons] at hk; omega) (inv.set hr' hkn) hB' hK)
theorem any_below_tail {Q : Exit → Act → World → Prop} {a : Act} {w : World} {l : List Oper} (n : Nat) (hB : Region.lexTailB .any l.toArray n = true)
    (h : wpQuiet P l.toArray (fun w' => ∃ p : Regrown, w' = Sort.grow (redrawn w p.d) p.os) (fun a' => ∀ w', (∃ p : Regrown, w' = Sort.grow (redrawn w p.d) p.os) → wpList P l.toArray Q (l.drop n) a' w') (l.take n) a) :
    wpAny P .any l.toArray Q l.toArray.size (Array.replicate l.toArray.size false) a { w with drawn := w.drawn + 1 } := by
  simp only [Region.lexTailB, Bool.and_eq_true, decide_eq_true_eq] at hB
  obtain ⟨⟨⟨⟨hsel, hn⟩, hs⟩, hc⟩, hlex⟩ := hB
  have hn' : n < l.length := by simpa using hn
  have htl : (l.take n).length = n := by simp; omega
  have hdl : (l.drop n).length = l.toArray.size - n := by simp
  have inv0 : HeadInv .any l.toArray n (Array.replicate l.toArray.size false) :=
    ⟨by simp, fun j oj _ hl => (by rw [getD_replicate_false] at hl; cases hl), fun t _ ht => getD_in (by simpa using ht) (getD_replicate_false _ _)⟩
  have H := headQ_lex (md := .any) (g := l.toArray.size - n) hsel hs hc hn (l.take n) 0 _ a (fun j hj => by
    have hj' : j < n := by rw [htl] at hj; exact hj
    simp [hj']) (by simpa using htl) inv0 (by rw [htl]; exact hlex) h
  have := any_of_headQ (C := fun w' => ∃ p : Regrown, w' = Sort.grow (redrawn w p.d) p.os) (Q' := Q) (g := l.toArray.size - n) (fun listed a' w' hC hL => by
    have := wpAny_of_seq (md := .any) (Q' := Q) (l.drop n) n listed a' w' (fun j => by simp [List.getElem?_drop]) (by rw [hdl]; exact hL.1) (hL.2 w' hC)
    rwa [hdl] at this) _ _ _ _ ⟨⟨w.drawn + 1, #[]⟩, by rw [Sort.grow_empty]⟩ H
  rw [htl, show n + (l.toArray.size - n) = l.toArray.size by omega] at this
  exact this
theorem wp_region_below_tail {id : Nat} {Q : Exit → Act → World → Prop} {a : Act} {w : World} {l : List Oper} (n : Nat) (hm : P.follows .mixedOrders = true) (hB : Region.lexTailB .any l.toArray n = true)
    (h : wpQuiet P l.toArray (fun w' => ∃ p : Regrown, w' = Sort.grow (redrawn w p.d) p.os) (fun a' => ∀ w', (∃ p : Regrown, w' = Sort.grow (redrawn w p.d) p.os) → wpList P l.toArray Q (l.drop n) a' w') (l.take n) a) : (Code.region id l.toArray true).wp P Q a w :=
  wp_region_any hm (any_below_tail n hB h)
end

end Go.Proofs.YtpifllonlchhhaaGreatDoor
namespace Go.Proofs.YtpifllonlchhhaaGreatDoor
set_option linter.unusedVariables false
set_option linter.unusedSimpArgs false
open Go.RowKit
/-- the one table of the library's that is read -/
def Env (w : World) : Prop := Lib.TabIs Tryz.prog w "internal/strconv.uint64pow10" .u64 Lib.pow10Tab
theorem Env.below {w w' : World} (h : Env w) (hb : Below w.heap.size w w') : Env w' := by
  unfold Env Lib.TabIs at *
  unfold World.var? at *
  cases hg : Tryz.prog.globalNamed "internal/strconv.uint64pow10" with
  | none => rw [hg] at h; cases h
  | some g =>
    rw [hg] at h
    simp only [Option.bind_some] at h ⊢
    have hlt : g < w.heap.size := by
      rcases Nat.lt_or_ge g w.heap.size with h1 | h1
      · exact h1
      · rw [Array.getElem?_eq_none h1] at h; cases h
    rw [hb.block g hlt]
    exact h
theorem Env.drewN {w : World} (h : Env w) (n : Nat) : Env (w.drewN n) := h.below (below_drewN (Below.refl _ _) n)
theorem Env.regrown {w : World} (h : Env w) (d : Nat) (os : Array Obj) : Env (Sort.grow (redrawn w d) os) := h.below (below_regrown w d os)
theorem below_grow (w : World) (k : Nat) (os : Array Obj) : Below w.heap.size w (Sort.grow (w.drewN k) os) := below_regrown w _ os
theorem Trim_any (s cs : List UInt8) (w : World) (hs : s.length ≤ 1000000) (hc : cs.length ≤ 1000) (ha : ∀ b ∈ cs, b.toNat < 128) :
    Calls Tryz.prog 31 #[.string ⟨s.toArray⟩, .string ⟨cs.toArray⟩] w fun e w' => e = .returned (.string ⟨(Lib.trimS s cs).toArray⟩) ∧ Below w.heap.size w w' := by
  refine (Any.strings_Trim_laid Tryz.laysTrim (by kernel_rfl) ⟨s.toArray⟩ ⟨cs.toArray⟩ w (show s.length ≤ _ by omega) (show cs.length < _ by omega) (fun j b hb => ha b ?_)).mono fun e w' h => h
  exact List.mem_of_getElem? hb
theorem Repeat_any (s : List UInt8) (c : Int) (w : World) (h0 : 0 ≤ c) (hc : c ≤ 1000000) (hs : s.length ≤ 1000000) :
    Calls Tryz.prog 52 #[.string ⟨s.toArray⟩, .int .i64 c] w fun e w' => e = .returned (.string ⟨(Lib.repeatL s c.toNat).toArray⟩) ∧ Below w.heap.size w w' := by
  obtain ⟨c, rfl⟩ := Int.eq_ofNat_of_zero_le h0
  have : s.length * c ≤ 1000000 * 1000000 := Nat.mul_le_mul hs (by omega)
  exact Tryz.strings_Repeat ⟨s.toArray⟩ c w (by omega) (show s.length * c ≤ _ by omega)
theorem Itoa_any (n : Int) (w : World) (h0 : -9223372036854775808 ≤ n) (h1 : n ≤ 9223372036854775807) (hE : Env w) :
    Calls Tryz.prog 51 #[.int .i64 n] w fun e w' => e = .returned (.string ⟨(Lib.itoa n).toArray⟩) ∧ Below w.heap.size w w' :=
  (Tryz.strconv_Itoa n h0 h1 w hE).mono fun _ _ ⟨he, k, os, hw⟩ => ⟨he, by rw [hw]; exact below_grow w k os⟩
theorem Atoi_any (s : List UInt8) (v : Int) (w : World) (hs : s.length ≤ 1000000) (h : Lib.atoiAll s = .ok v) :
    Calls Tryz.prog 36 #[.string ⟨s.toArray⟩] w fun e w' => e = .returned (.tuple #[.int .i64 v, .nilIface]) ∧ Below w.heap.size w w' :=
  (Tryz.strconv_Atoi_ok ⟨s.toArray⟩ (show s.length ≤ _ by omega) v h w).mono fun _ _ ⟨he, hw⟩ => ⟨he, by
    rcases hw with rfl | ⟨t, rfl⟩
    · exact Below.refl _ _
    · exact Lib.bytesWorld_below _ _ _⟩
/-! ### digits -/
theorem trim_digits (s cs : List UInt8) : Lib.trimS s cs = [] ↔ ∀ b ∈ s, b ∈ cs := by
  have hd : ∀ l : List UInt8, l.dropWhile (cs.contains ·) = [] ↔ ∀ b ∈ l, b ∈ cs := by
    intro l
    induction l with
    | nil => simp
    | cons x l ih =>
      rw [List.dropWhile_cons]
      by_cases hx : x ∈ cs
      · simp [hx]; simpa using ih
      · simp [hx]
  unfold Lib.trimS Lib.trimLeftS
  rw [hd]
  unfold Lib.trimRightS
  constructor
  · intro h b hb
    by_cases hall : ∀ b ∈ s, b ∈ cs
    · exact hall b hb
    · have hne : s.reverse.dropWhile (cs.contains ·) ≠ [] := fun he => hall (fun b hb => ((hd s.reverse).1 he) b (by simpa using hb))
      obtain ⟨x, l, hl⟩ := List.exists_cons_of_ne_nil hne
      have hx := h x (by rw [hl]; simp)
      have : cs.contains x = true := by simpa using hx
      have h2 := List.head?_dropWhile_not (cs.contains ·) s.reverse
      rw [hl] at h2
      simp at h2
      exact absurd hx h2
  · intro h b hb
    exact h b (by
      have := (List.dropWhile_suffix (cs.contains ·) (l := s.reverse)).subset (by simpa using hb)
      simpa using this)
/-- the number that digits say -/
def numOf (s : List UInt8) : Nat := s.foldl (fun n c => 10 * n + (c.toNat - 48)) 0
def numFrom (n : Nat) (s : List UInt8) : Nat := s.foldl (fun n c => 10 * n + (c.toNat - 48)) n
theorem numFrom_lt : ∀ (s : List UInt8) (n : Nat), (∀ c ∈ s, c.toNat ≤ 57) → numFrom n s < (n + 1) * 10 ^ s.length
  | [], n, _ => by simp [numFrom]
  | c :: s, n, h => by
    have h1 := numFrom_lt s (10 * n + (c.toNat - 48)) (fun d hd => h d (by simp [hd]))
    have h2 := h c (by simp)
    have h3 : (10 * n + (c.toNat - 48) + 1) * 10 ^ s.length ≤ ((n + 1) * 10) * 10 ^ s.length := Nat.mul_le_mul_right _ (by omega)
    show numFrom (10 * n + (c.toNat - 48)) s < _
    rw [List.length_cons, Nat.pow_succ, Nat.mul_comm (10 ^ s.length) 10, ← Nat.mul_assoc]
    omega
theorem numOf_lt (s : List UInt8) (h : ∀ c ∈ s, c.toNat ≤ 57) : numOf s < 10 ^ s.length := by
  have := numFrom_lt s 0 h
  show numFrom 0 s < _
  simpa using this
theorem numFrom_ge : ∀ (s : List UInt8) (n : Nat), n ≤ numFrom n s
  | [], n => Nat.le_refl _
  | c :: s, n => Nat.le_trans (by omega) (numFrom_ge s (10 * n + (c.toNat - 48)))
theorem parse_digits : ∀ (s : List UInt8) (n : Nat), (∀ c ∈ s, 48 ≤ c.toNat ∧ c.toNat ≤ 57) → numFrom n s < 1000000000000000000 → Lib.parseUint10 n s = .ok (numFrom n s)
  | [], n, _, _ => rfl
  | c :: s, n, h, hb => by
    have hc := h c (by simp)
    have hge := numFrom_ge s (10 * n + (c.toNat - 48))
    have hb' : numFrom (10 * n + (c.toNat - 48)) s < 1000000000000000000 := hb
    have e : n * 10 + (c.toNat - 48) = 10 * n + (c.toNat - 48) := by omega
    rw [Lib.parseUint10, if_pos hc, if_neg (by omega), if_neg (by omega), e]
    exact parse_digits s _ (fun d hd => h d (by simp [hd])) hb'
theorem atoi_digits (s : List UInt8) (h : ∀ c ∈ s, 48 ≤ c.toNat ∧ c.toNat ≤ 57) (hne : s ≠ []) (hl : s.length ≤ 18) : Lib.atoiAll s = .ok (numOf s : Int) := by
  have hlt := numOf_lt s (fun c hc => (h c hc).2)
  have h18 : 10 ^ s.length ≤ 10 ^ 18 := Nat.pow_le_pow_right (by decide) hl
  have hp := parse_digits s 0 h (by show numOf s < _; omega)
  match s, hne with
  | c :: r, _ =>
    have hc := h c (by simp)
    have hm : Lib.parseMag (c :: r) = .ok (numOf (c :: r)) := by unfold Lib.parseMag; rw [if_neg (by simp)]; exact hp
    have e1 : (if c.toNat = 43 ∨ c.toNat = 45 then r else c :: r) = c :: r := if_neg (by omega)
    have hb : numOf (c :: r) < 1000000000000000000 := by omega
    rw [Lib.atoiAll]
    simp only [e1, hm]
    rw [if_neg (by omega), if_neg (by omega), if_neg (by omega)]
end Go.Proofs.YtpifllonlchhhaaGreatDoor
namespace Pl
abbrev S := List UInt8
def dig (c : UInt8) : Bool := decide (48 ≤ c.toNat) && decide (c.toNat ≤ 57)
def digits (s : S) : Bool := s.all dig
def apart (a b : S) : Bool := !(a.isPrefixOf b) && !(b.isPrefixOf a)
structure Cd where
  old : S
  new : S
  len : Int
def within (n lo hi : Int) : Bool := decide (lo ≤ n) && decide (n ≤ hi)
def room (c : Cd) : Int := c.len - c.old.length
def isCode (c : Cd) : Bool :=
  digits (c.old ++ c.new) && within c.old.length 1 4 && within c.new.length 1 5 && within c.len (c.old.length + 1) 7 && decide (room c ≤ 8 - c.new.length) && apart c.old c.new
def differ (a b : Cd) : Bool := apart a.old b.old && apart a.new b.new && apart a.old b.new && apart a.new b.old
/-- every pair (later, earlier) is accepted -/
def allPairs (p : List Cd) : Bool := (List.range p.length).all fun i => (p.take i).all fun b => match p[i]? with | some a => differ a b | none => true
def valid (p : List Cd) : Bool := p.all isCode && decide (p.length ≤ 20) && allPairs p
def isPhase (n : Int) : Bool := within n 1 3
def zeros (n : Nat) : S := List.replicate n 48
structure Ent where
  code : Int
  length : Int
  stands : S
def ents (p : List Cd) (ph : Int) : List (S × Ent) :=
  p.zipIdx.flatMap fun (c, i) =>
    (if ph ≠ 3 then [(c.old, ⟨(i : Int), c.len, c.new ++ zeros (8 - c.new.length - room c).toNat⟩)] else []) ++
    (if ph ≠ 1 then [(c.new, ⟨(i : Int), 8, c.new⟩)] else [])
def val (s : S) : Nat := s.foldl (fun n c => 10 * n + (c.toNat - 48)) 0
structure Dialled where
  kind : Int
  number : Int
  code : Int
  used : Int
deriving DecidableEq
def begun (es : List (S × Ent)) (s : S) : Option (Nat × Ent) :=
  (List.range (s.length + 1)).findSome? fun k => (es.lookup (s.take k)).map fun x => (k, x)
def read (p : List Cd) (s : S) (ph : Int) : Dialled × Int :=
  if !valid p || !digits s || !decide (s.length ≤ 16) || !isPhase ph then (⟨0, 0, 0, 0⟩, 120) else
  match begun (ents p ph) s with
  | some (k, x) => if (s.length : Int) < x.length then (⟨1, 0, 0, 0⟩, 0) else (⟨2, val (x.stands ++ (s.take x.length.toNat).drop k), x.code, x.length⟩, 0)
  | none => if (ents p ph).any fun e => s.isPrefixOf e.1 then (⟨1, 0, 0, 0⟩, 0) else (⟨0, 0, 0, 0⟩, 0)
def digitAt (n k : Nat) : UInt8 := 48 + UInt8.ofNat (n / 10 ^ (7 - k) % 10)
def eight (n : Nat) : S := (List.range 8).map (digitAt n)
def write (p : List Cd) (n : Int) (ph : Int) : S × Int :=
  if !valid p || !isPhase ph || !within n 0 99999999 then ([], 120) else
  match p.find? (fun c => c.new.isPrefixOf (eight n.toNat)) with
  | none => ([], 120)
  | some c => if ph ≠ 1 then (eight n.toNat, 0) else
    let cut := (8 - room c).toNat
    if ((eight n.toNat).take cut).drop c.new.length = zeros (cut - c.new.length) then (c.old ++ (eight n.toNat).drop cut, 0) else ([], 120)
def range (p : List Cd) (i : Int) (ph : Int) : Int × Int × Int :=
  if !valid p || !within i 0 ((p.length : Int) - 1) || !isPhase ph then (0, 0, 120) else
  match p[i.toNat]? with
  | none => (0, 0, 120)
  | some c =>
    let from_ := (val c.new : Int) * 10 ^ (8 - c.new.length)
    let size : Int := if ph = 1 then 10 ^ (room c).toNat else 10 ^ (8 - c.new.length)
    (from_, from_ + size, 0)
def reads (p : List Cd) (s : S) : Int × Bool :=
  let r := read p s 2
  (r.1.number, r.2 == 0 && r.1.kind == 2 && r.1.used == s.length)
def same (p : List Cd) (a b : S) : Bool := (reads p a).2 && (reads p b).2 && (reads p a).1 == (reads p b).1
def pick (c n : Int) : Int := (if c < 0 then -(c + 1) else c) % n
def pref (c : Nat) : Nat → S
  | 0 => []
  | k + 1 => (48 + UInt8.ofNat (c % 10)) :: pref (c / 10) k
structure T3 where
  a : Int
  b : Int
  c : Int
def one (x : T3) : Cd :=
  let o := pref (pick (x.a.tdiv 3) 1000).toNat (1 + pick x.a 3).toNat
  let n := pref (pick (x.b.tdiv 3) 1000).toNat (1 + pick x.b 3).toNat
  ⟨o, n, o.length + 1 + pick x.c (min (7 - (o.length : Int)) (8 - (n.length : Int)))⟩
def madeStep (p : List Cd) (x : T3) : List Cd :=
  if p.length < 8 then (if valid (p ++ [one x]) then p ++ [one x] else p) else p
def made (x : List T3) : List Cd := (x.take 16).foldl madeStep []
def number (p : List Cd) (which n : Int) : Int :=
  if p.length = 0 ∨ pick which 16 = 15 then pick n 100000000 else
  let r := range p (pick (which.tdiv 16) p.length) (1 + pick which 3)
  r.1 + pick n (r.2.1 - r.1)
def text (x : List Int) : S := (x.take 17).map fun c => 48 + UInt8.ofNat (pick c 10).toNat

/-- the pairs whose later element is among the first k -/
def pairsTo (p : List Cd) (k : Nat) : Bool := (List.range k).all fun i => (p.take i).all fun b => match p[i]? with | some a => differ a b | none => true
theorem allPairs_eq (p : List Cd) : allPairs p = pairsTo p p.length := rfl
theorem pairsTo_zero (p : List Cd) : pairsTo p 0 = true := rfl
theorem pairsTo_succ (p : List Cd) (k : Nat) (h : k < p.length) : pairsTo p (k + 1) = (pairsTo p k && (p.take k).all fun b => differ p[k] b) := by
  simp [pairsTo, List.range_succ, List.getElem?_eq_getElem h]
theorem allPairs_bad (p : List Cd) (k m : Nat) (h : k < p.length) (hm : m < k) (hd : differ p[k] p[m] = false) : allPairs p = false := by
  rw [allPairs_eq]
  simp only [pairsTo, List.all_eq_false]
  refine ⟨k, by simpa using h, ?_⟩
  simp only [Bool.not_eq_true, List.all_eq_false]
  exact ⟨p[m], List.mem_take_iff_getElem.2 ⟨m, by omega, rfl⟩, by simp [List.getElem?_eq_getElem h, hd]⟩
/-- what a valid plan says of a code of it -/
structure Fine (c : Cd) : Prop where
  dold : digits c.old = true
  dnew : digits c.new = true
  o1 : 1 ≤ c.old.length
  o4 : c.old.length ≤ 4
  n1 : 1 ≤ c.new.length
  n5 : c.new.length ≤ 5
  l1 : (c.old.length : Int) + 1 ≤ c.len
  l7 : c.len ≤ 7
  fit : room c ≤ 8 - c.new.length
  ap : apart c.old c.new = true
theorem fine_of {c : Cd} (h : isCode c = true) : Fine c := by
  simp only [isCode, within, Bool.and_eq_true, decide_eq_true_eq, digits, List.all_append] at h
  obtain ⟨⟨⟨⟨⟨⟨h1, h2⟩, h3, h4⟩, h5, h6⟩, h7, h8⟩, h9⟩, h10⟩ := h
  exact ⟨h1, h2, by omega, by omega, by omega, by omega, h7, h8, h9, h10⟩
theorem valid_fine {p : List Cd} (h : valid p = true) {c : Cd} (hc : c ∈ p) : Fine c := by
  simp only [valid, Bool.and_eq_true, List.all_eq_true] at h
  exact fine_of (h.1.1 c hc)
theorem valid_len {p : List Cd} (h : valid p = true) : p.length ≤ 20 := by
  simp only [valid, Bool.and_eq_true, decide_eq_true_eq] at h
  exact h.1.2
theorem digits_mem {s : S} (h : digits s = true) : ∀ c ∈ s, 48 ≤ c.toNat ∧ c.toNat ≤ 57 := by
  intro c hc
  have := List.all_eq_true.1 h c hc
  simpa [dig] using this
/-! ### small laws -/
theorem eight_len (n : Nat) : (eight n).length = 8 := by simp [eight]
theorem eight_drop (n k : Nat) (hk : k < 8) (c : Nat) (hc : c = n / 10 ^ k) : [48 + UInt8.ofNat (c % 10)] ++ (eight n).drop (8 - k) = (eight n).drop (8 - (k + 1)) := by
  have h : 8 - (k + 1) < (eight n).length := by rw [eight_len]; omega
  rw [List.drop_eq_getElem_cons h, show 8 - (k + 1) + 1 = 8 - k by omega]
  have : (eight n)[8 - (k + 1)] = 48 + UInt8.ofNat (c % 10) := by
    simp only [eight, List.getElem_map, List.getElem_range, digitAt]
    rw [show 7 - (8 - (k + 1)) = k by omega, hc]
  rw [this]; rfl
theorem take_snoc {α : Type} (s : List α) (k : Nat) (hk : k < s.length) : s.take (k + 1) = s.take k ++ [s[k]] := by
  rw [List.take_succ_eq_append_getElem hk]
theorem digits_good (s : S) (k : Nat) (hk : k < s.length) (h : 48 ≤ s[k].toNat ∧ s[k].toNat ≤ 57) (hd : digits (s.take k) = true) : digits (s.take (k + 1)) = true := by
  rw [take_snoc s k hk]
  simp only [digits, List.all_append, Bool.and_eq_true] at *
  exact ⟨hd, by simp [dig, h]⟩
theorem digits_bad (s : S) (k : Nat) (hk : k < s.length) (h : s[k].toNat < 48 ∨ 57 < s[k].toNat) : digits s = false := by
  simp only [digits, List.all_eq_false]
  exact ⟨s[k], List.getElem_mem hk, by simp [dig]; omega⟩
end Pl
namespace Go.Proofs.YtpifllonlchhhaaGreatDoor
set_option linter.unusedVariables false
set_option linter.unusedSimpArgs false
open Go.RowKit
theorem conv_u8 (x : Int) (w : World) :
    (convert 56 9 (.slice (some ⟨w.heap.size, 0, none⟩) 1 1)).run Tryz.prog (w.alloc (.cells #[.int .u8 x] 5)) = .ok (.string ⟨#[UInt8.ofNat x.toNat]⟩) (w.alloc (.cells #[.int .u8 x] 5)) :=
  conv_one 56 9 5 Tryz.underlying56 Tryz.underlying5 Tryz.underlying9 x w
attribute [go_sem] conv_u8
theorem isWithin_any (n lo hi : Int) (w : World) :
    Calls Tryz.prog 27 #[.int .i64 n, .int .i64 lo, .int .i64 hi] w fun e w' => e = .returned (.bool (Pl.within n lo hi)) ∧ w = w' := by
  by_cases h1 : lo ≤ n <;> by_cases h2 : n ≤ hi
  all_goals
    go_enter Tryz.func27, Tryz.ntmps27
    go_wp2
    go_ret
    exact ⟨by simp [Pl.within, *] <;> omega, rfl⟩
theorem isPhase_any (n : Int) (w : World) :
    Calls Tryz.prog 26 #[.int .i64 n] w fun e w' => e = .returned (.bool (Pl.isPhase n)) ∧ w = w' := by
  go_enter Tryz.func26, Tryz.ntmps26
  go_wp2_with (go_at_call 27; refine (isWithin_any _ _ _ _).mono ?_; rintro e w' ⟨rfl, rfl⟩)
  go_ret
  exact ⟨rfl, rfl⟩
theorem phase_any (n : Int) (w : World) :
    Calls Tryz.prog 32 #[.int .i64 n] w fun e w' => e = .returned (.bool (Pl.isPhase n)) ∧ w = w' := by
  by_cases h1 : 1 ≤ n <;> by_cases h2 : n ≤ 3
  all_goals
    go_enter Tryz.func32, Tryz.ntmps32
    go_wp2
    go_ret
    exact ⟨by simp [Pl.isPhase, Pl.within, *] <;> omega, rfl⟩
theorem pick_pos {c n : Int} (hc : 0 ≤ c) : Pl.pick c n = c % n := by unfold Pl.pick; rw [if_neg (by omega)]
theorem pick_neg {c n : Int} (hc : c < 0) : Pl.pick c n = (-(c + 1)) % n := by unfold Pl.pick; rw [if_pos hc]
theorem pickLaw_any (c n : Int) (h0 : 0 < n) (h1 : -9223372036854775808 ≤ c) (h2 : c ≤ 9223372036854775807) (w : World) :
    Calls Tryz.prog 9 #[.int .i64 c, .int .i64 n] w fun e w' => e = .returned (.int .i64 (Pl.pick c n)) ∧ w = w' := by
  by_cases hc : c < 0
  · have hm : 0 ≤ -(c+1) := by omega
    go_enter Tryz.func9, Tryz.ntmps9
    go_wp2
    go_ret
    refine ⟨ret_int ?_, rfl⟩
    rw [pick_neg hc, ← Int.neg_tmod]
    exact Int.tmod_eq_emod_of_nonneg hm
  · have hm : 0 ≤ c := by omega
    go_enter Tryz.func9, Tryz.ntmps9
    go_wp2
    go_ret
    exact ⟨ret_int (pick_pos hm).symm, rfl⟩
theorem pickRef_any (c n : Int) (h0 : 0 < n) (h1 : -9223372036854775808 ≤ c) (h2 : c ≤ 9223372036854775807) (w : World) :
    Calls Tryz.prog 24 #[.int .i64 c, .int .i64 n] w fun e w' => e = .returned (.int .i64 (Pl.pick c n)) ∧ w = w' := by
  by_cases hc : c < 0
  · have hm : 0 ≤ -(c+1) := by omega
    go_enter Tryz.func24, Tryz.ntmps24
    go_wp2
    go_ret
    refine ⟨ret_int ?_, rfl⟩
    rw [pick_neg hc, ← Int.neg_tmod]
    exact Int.tmod_eq_emod_of_nonneg hm
  · have hm : 0 ≤ c := by omega
    go_enter Tryz.func24, Tryz.ntmps24
    go_wp2
    go_ret
    exact ⟨ret_int (pick_pos hm).symm, rfl⟩
theorem pre_take (s t : List UInt8) : s.isPrefixOf t = (decide (s.length ≤ t.length) && (t.take s.length == s)) := (Lib.hasPrefix_of_take t s).symm
theorem begins_any (s t : List UInt8) (w : World) :
    Calls Tryz.prog 43 #[.string ⟨s.toArray⟩, .string ⟨t.toArray⟩] w fun e w' => e = .returned (.bool (s.isPrefixOf t)) ∧ w = w' := by
  by_cases h : s.length ≤ t.length
  all_goals
    go_enter Tryz.func43, Tryz.ntmps43
    go_wp2
    go_ret
    exact ⟨ret_bool (by rw [pre_take]; simp [h]), rfl⟩
theorem liteHasPrefix_any (s t : List UInt8) (w : World) :
    Calls Tryz.prog 53 #[.string ⟨t.toArray⟩, .string ⟨s.toArray⟩] w fun e w' => e = .returned (.bool (s.isPrefixOf t)) ∧ w = w' := by
  by_cases h : s.length ≤ t.length
  all_goals
    go_enter Tryz.func53, Tryz.ntmps53
    go_wp2
    go_ret
    exact ⟨ret_bool (by rw [pre_take]; simp [h]), rfl⟩
theorem HasPrefix_any (s t : List UInt8) (w : World) :
    Calls Tryz.prog 29 #[.string ⟨t.toArray⟩, .string ⟨s.toArray⟩] w fun e w' => e = .returned (.bool (s.isPrefixOf t)) ∧ w = w' := by
  go_enter Tryz.func29, Tryz.ntmps29
  go_wp2_with (go_at_call 53; refine (liteHasPrefix_any _ _ _).mono ?_; rintro e w' ⟨rfl, rfl⟩)
  go_ret
  exact ⟨rfl, rfl⟩
theorem areApart_any (s t : List UInt8) (w : World) :
    Calls Tryz.prog 47 #[.string ⟨s.toArray⟩, .string ⟨t.toArray⟩] w fun e w' => e = .returned (.bool (Pl.apart s t)) ∧ w = w' := by
  cases h1 : s.isPrefixOf t <;> cases h2 : t.isPrefixOf s
  all_goals
    go_enter Tryz.func47, Tryz.ntmps47
    go_wp2_with (go_at_call 29; refine (HasPrefix_any _ _ _).mono ?_; rintro e w' ⟨rfl, rfl⟩)
    go_ret
    exact ⟨ret_bool (by simp [Pl.apart, h1, h2]), rfl⟩
theorem apart_any (s t : List UInt8) (w : World) :
    Calls Tryz.prog 50 #[.string ⟨s.toArray⟩, .string ⟨t.toArray⟩] w fun e w' => e = .returned (.bool (Pl.apart s t)) ∧ w = w' := by
  cases h1 : s.isPrefixOf t <;> cases h2 : t.isPrefixOf s
  all_goals
    go_enter Tryz.func50, Tryz.ntmps50
    go_wp2_with (go_at_call 43; refine (begins_any _ _ _).mono ?_; rintro e w' ⟨rfl, rfl⟩)
    go_ret
    exact ⟨ret_bool (by simp [Pl.apart, h1, h2]), rfl⟩
/-- a code as a value -/
def codeV (c : Pl.Cd) : Value := .agg #[.string ⟨c.old.toArray⟩, .string ⟨c.new.toArray⟩, .int .i64 c.len]
def codeC (c : Pl.Cd) : List Value := [.string ⟨c.old.toArray⟩, .string ⟨c.new.toArray⟩, .int .i64 c.len]
theorem room_any (o n : List UInt8) (l : Int) (h1 : -9223372036854775808 ≤ l - o.length) (h2 : l ≤ 9223372036854775807) (w : World) :
    Calls Tryz.prog 30 #[.agg #[.string ⟨o.toArray⟩, .string ⟨n.toArray⟩, .int .i64 l]] w fun e w' => e = .returned (.int .i64 (l - o.length)) ∧ Below w.heap.size w w' := by
  go_enter Tryz.func30, Tryz.ntmps30
  go_wp2
  go_ret
  exact ⟨rfl, (Below.refl _ _).alloc (Nat.le_refl _) _⟩
theorem local_any (o n : List UInt8) (l : Int) (h1 : -9223372036854775808 ≤ l - o.length) (h2 : l ≤ 9223372036854775807) (w : World) :
    Calls Tryz.prog 39 #[.agg #[.string ⟨o.toArray⟩, .string ⟨n.toArray⟩, .int .i64 l]] w fun e w' => e = .returned (.int .i64 (l - o.length)) ∧ Below w.heap.size w w' := by
  go_enter Tryz.func39, Tryz.ntmps39
  go_wp2
  go_ret
  exact ⟨rfl, (Below.refl _ _).alloc (Nat.le_refl _) _⟩
theorem pow_le {k n : Nat} (h : k ≤ n) : (10 : Int) ^ k ≤ 10 ^ n := by
  have := Nat.pow_le_pow_right (n := 10) (by decide) h
  exact_mod_cast this
theorem pow_pos' (k : Nat) : (1 : Int) ≤ 10 ^ k := by have := Int.pow_pos (n := 10) (by decide) (m := k); omega
theorem power_any (n : Nat) (hn : n ≤ 8) (w : World) :
    Calls Tryz.prog 37 #[.int .i64 n] w fun e w' => e = .returned (.int .i64 (10 ^ n)) ∧ w = w' := by
  go_enter Tryz.func37, Tryz.ntmps37
  go_wp2
  go_loop [3, 5] (fun out i => ∃ k : Nat, ∃ q : Int, k ≤ n ∧ i = .int .i64 k ∧ out = .int .i64 q ∧ Hid (q = 10 ^ k) ∧ 0 ≤ q ∧ q ≤ 100000000) (fun _ i => n - (intOf i).toNat)
  case atStart => exact ⟨0, 1, Nat.zero_le _, rfl, rfl, Lib.hid rfl, by omega, by omega⟩
  case round =>
    obtain ⟨k, q, hk, rfl, rfl, hq, h0, h1⟩ := hrel
    by_cases hlt : k < n
    · go_wp2
      go_round
      case rel =>
        have e : q * 10 = 10 ^ (k + 1) := by rw [hq.out, Int.pow_succ]
        have h8 := pow_le (show k + 1 ≤ 8 by omega)
        exact ⟨k + 1, q * 10, by omega, by go_num, rfl, Lib.hid e, by omega, by rw [e]; exact h8⟩
      case measure => simp [intOf]; omega
    · go_wp2
      go_ret
      obtain rfl : k = n := by omega
      exact ⟨ret_int hq.out, rfl⟩
set_option maxRecDepth 100000 in
theorem prefix_any (c : Int) (m : Int) (hc : 0 ≤ c) (h2 : c ≤ 9223372036854775807) (hm0 : 0 ≤ m) (hm : m ≤ 1000) (w : World) :
    Calls Tryz.prog 25 #[.int .i64 c, .int .i64 m] w fun e w' => e = .returned (.string ⟨(Pl.pref c.toNat m.toNat).toArray⟩) ∧ Below w.heap.size w w' := by
  obtain ⟨c, rfl⟩ := Int.eq_ofNat_of_zero_le hc
  obtain ⟨many, rfl⟩ := Int.eq_ofNat_of_zero_le hm0
  go_enter Tryz.func25, Tryz.ntmps25
  go_wp2
  go_loopw [0, 5, 6] (fun cc out i wr => ∃ k c' : Nat, ∃ l : List UInt8, k ≤ many ∧ c' ≤ 9223372036854775807 ∧ i = .int .i64 k ∧ cc = .int .i64 c' ∧ out = .string ⟨l.toArray⟩ ∧ Hid (l ++ Pl.pref c' (many - k) = Pl.pref c many) ∧ l.length ≤ k ∧ Below w.heap.size w wr) (fun _ _ i _ => many - (intOf i).toNat)
  case atStart => exact ⟨0, c, [], Nat.zero_le _, by omega, rfl, rfl, rfl, Lib.hid rfl, by simp, Below.refl _ _⟩
  case round =>
    obtain ⟨k, c', l, hk, hc', rfl, rfl, rfl, hl, hll, hb⟩ := hrel
    by_cases hlt : k < many
    · go_wp2
      go_roundw
      case rel =>
        have e : l ++ [48 + UInt8.ofNat (c' % 10)] ++ Pl.pref (c' / 10) (many - (k + 1)) = Pl.pref c many := by
          rw [← hl.out, show many - k = (many - (k + 1)) + 1 by omega]
          simp [Pl.pref]
        refine ⟨k + 1, c' / 10, l ++ [48 + UInt8.ofNat (c' % 10)], by omega, by omega, by go_num, by simp, rfl, Lib.hid e, by simp; omega, hb.alloc hb.size _⟩
      case measure => simp [intOf]; omega
    · go_wp2
      go_ret
      obtain rfl : k = many := by omega
      have e := hl.out
      simp [Pl.pref] at e
      exact ⟨ret_str e, hb⟩
set_option maxRecDepth 100000 in
theorem Eight_any (n : Int) (h0 : 0 ≤ n) (h2 : n ≤ 9223372036854775807) (w : World) :
    Calls Tryz.prog 34 #[.int .i64 n] w fun e w' => e = .returned (.string ⟨(Pl.eight n.toNat).toArray⟩) ∧ Below w.heap.size w w' := by
  obtain ⟨n, rfl⟩ := Int.eq_ofNat_of_zero_le h0
  go_enter Tryz.func34, Tryz.ntmps34
  go_wp2
  go_loopw [0, 3, 4] (fun cc out i wr => ∃ k c' : Nat, ∃ l : List UInt8, k ≤ 8 ∧ c' ≤ 9223372036854775807 ∧ i = .int .i64 k ∧ cc = .int .i64 c' ∧ out = .string ⟨l.toArray⟩ ∧ Hid (c' = n / 10 ^ k ∧ l = (Pl.eight n).drop (8 - k)) ∧ l.length ≤ k ∧ Below w.heap.size w wr) (fun _ _ i _ => 8 - (intOf i).toNat)
  case atStart => exact ⟨0, n, [], Nat.zero_le _, by omega, rfl, rfl, rfl, Lib.hid ⟨by simp, by simp [Pl.eight]⟩, by simp, Below.refl _ _⟩
  case round =>
    obtain ⟨k, c', l, hk, hc', rfl, rfl, rfl, hl, hll, hb⟩ := hrel
    by_cases hlt : k < 8
    · go_wp2
      go_roundw
      case rel =>
        obtain ⟨e1, e2⟩ := hl.out
        refine ⟨k + 1, c' / 10, [48 + UInt8.ofNat (c' % 10)] ++ l, by omega, by omega, by go_num, by simp, rfl, Lib.hid ⟨?_, ?_⟩, by simp; omega, hb.alloc hb.size _⟩
        · rw [e1, Nat.div_div_eq_div_mul, Nat.pow_succ]
        · rw [e2]; exact Pl.eight_drop n k hlt c' e1
      case measure => simp [intOf]; omega
    · go_wp2
      go_ret
      obtain rfl : k = 8 := by omega
      obtain ⟨_, e2⟩ := hl.out
      exact ⟨ret_str (by simpa using e2), hb⟩
theorem digits_any (s : List UInt8) (hs : s.length ≤ 1000000) (w : World) :
    Calls Tryz.prog 42 #[.string ⟨s.toArray⟩] w fun e w' => e = .returned (.bool (Pl.digits s)) ∧ w = w' := by
  go_enter Tryz.func42, Tryz.ntmps42
  go_wp2
  go_loop [3] (fun i => ∃ k : Nat, k ≤ s.length ∧ i = .int .i64 k ∧ Hid (Pl.digits (s.take k) = true)) (fun i => s.length - (intOf i).toNat)
  case atStart => exact ⟨0, Nat.zero_le _, rfl, Lib.hid (by simp [Pl.digits])⟩
  case round =>
    obtain ⟨k, hk, rfl, hd⟩ := hrel
    by_cases hlt : k < s.length
    · by_cases h1 : ((s[k].toNat : Nat) : Int) < 48
      · go_wp2
        go_ret
        exact ⟨ret_bool (Pl.digits_bad s k hlt (by omega)).symm, rfl⟩
      · by_cases h2 : ((s[k].toNat : Nat) : Int) > 57
        · go_wp2
          go_ret
          exact ⟨ret_bool (Pl.digits_bad s k hlt (by omega)).symm, rfl⟩
        · go_wp2
          go_round
          case rel => exact ⟨k + 1, by omega, by go_num, Lib.hid (Pl.digits_good s k hlt (by omega) hd.out)⟩
          case measure => simp [intOf]; omega
    · go_wp2
      go_ret
      have := hd.out
      rw [List.take_of_length_le (by omega)] at this
      exact ⟨ret_bool this.symm, rfl⟩
end Go.Proofs.YtpifllonlchhhaaGreatDoor

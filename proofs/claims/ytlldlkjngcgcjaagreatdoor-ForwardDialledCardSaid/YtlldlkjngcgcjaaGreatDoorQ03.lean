/- A range over a function whose iterator yields what follows (R: x comes behind pre), need not end by itself, and keeps its place in a block v that was made ahead of the loop (a captured variable): a contract of such an iterator (G: as long as the body goes on; Z: how it begins), and the statement over it, for a body that goes on, returns or breaks and leaves v alone. Made of SeqV. Package forward: counts, walk. Package forward: the settings by which a call is forwarded, one after the other. slices.Index, Contains, Equal, Min at lists of ints. Package forward: Valid. Appending to a slice of one's own that begins as nil: what else is kept. Appending to one of several slices of one's own: the others stay. A region that draws its order, each operation by a relation of its own, guarded operations included. A region that draws its order, for any class of changes, guards included; a relation may name the value of one operation that it waits for. -/
import Derived.Test.YtlldlkjngcgcjaaGreatDoorQ02
import Derived.RangeFuncFrom
import Derived.Sort.LoopGhostIn
import Derived.Lib.Slices
import Derived.Test.YtlldlkjngcgcjaaGreatDoorQ01
namespace Go.Proofs.YtlldlkjngcgcjaaGreatDoor
set_option linter.unusedVariables false
open Go.RowKit
/-- what stays when memory only grows; when a record that is no cells is written -/
def GrS {α : Type} (I : List α → World → Prop) : Prop := ∀ s X Y, I s X → Below X.heap.size X Y → I s Y
def PuS {α : Type} (B : Nat) (I : List α → World → Prop) : Prop := ∀ s X l o o', I s X → B ≤ l → X.heap[l]? = some o → o.isCells = false → I s (X.putObj l o')
/-- no record from B on is written (cells may be) -/
structure FrN (B : Nat) (W W' : World) : Prop where
  size : W.heap.size ≤ W'.heap.size
  keep : ∀ b o, B ≤ b → W.heap[b]? = some o → o.isCells = false → W'.heap[b]? = some o
theorem FrN.below {B : Nat} {W W' : World} (h : Below W.heap.size W W') : FrN B W W' := ⟨h.size, fun b o _ ho _ => (h.block b (Array.getElem?_eq_some_iff.1 ho).1).trans ho⟩
theorem FrN.trans {B : Nat} {X Y Z : World} (h : FrN B X Y) (k : FrN B Y Z) : FrN B X Z := ⟨Nat.le_trans h.size k.size, fun b o hb ho hc => k.keep b o hb (h.keep b o hb ho hc) hc⟩
theorem FrN.set {B : Nat} {W : World} {g i : Nat} {t : TypeId} {cs : Array Value} {u : Value} (hB : Bx W g t cs) : FrN B W (W.setCell ⟨g, i, none⟩ u) := ⟨by rw [World.size_setCell]; exact Nat.le_refl _, fun b o _ ho hc => by
  refine (Below.heap_setCell W ⟨g, i, none⟩ u b ?_).trans ho
  rintro rfl
  rw [show W.heap[b]? = _ from hB] at ho
  cases ho; cases hc⟩
/-- the contract: from w0 on, called for whatever loop -/
def SeqV {α : Type} (n : Nat) (P : Program) (gf : Nat) (lb : Array Value) (encs : α → Array Value) (R : List α → α → Prop) (S G : List α → Prop) (v : Nat) (Z Kw : World → Prop) : Prop :=
  ∀ (l : Nat) (J Jx : List α → World → Prop) (W : World), Kw W → v < W.heap.size → Z W → GrS J → GrS Jx → (∀ s X, J s X → Kw X) → (∀ s X, J s X → G s) → (∀ s X u, J s X → J s (X.setCell ⟨v, 0, none⟩ u)) →
    (∀ pre x X, J pre X → R pre x → YieldAt Fence.wide (n - 1) P l (encs x) X fun e Y => (e = .returned (.bool true) ∧ J (pre ++ [x]) Y ∧ X.heap.size ≤ Y.heap.size ∧ Y.heap[v]? = X.heap[v]?) ∨ (e = .returned (.bool false) ∧ Jx (pre ++ [x]) Y)) →
    J [] W → CallsIn Fence.wide n P gf (#[.func (.yield l) #[] #[]] ++ lb) W fun e Y => (∃ v, e = .returned v) ∧ ((∃ xs, S xs ∧ J xs Y) ∨ ∃ pre, Jx pre Y)
/-- how a body ends -/
def bodyV {α : Type} (B v : Nat) (I : List α → World → Prop) (Ix : Code → List α → World → Prop) (xs : List α) (W : World) : Exit → Act → World → Prop
  | .normal, _, Y => FrN B W Y ∧ I xs Y ∧ Y.heap[v]? = W.heap[v]?
  | .ret, _, Y => FrN B W Y ∧ Ix .ret xs Y
  | .exit id, _, Y => FrN B W Y ∧ Ix (.exit id) xs Y
  | _, _, _ => False
theorem wpIn_range_cv {α : Type} {n : Nat} {P : Program} {g : Operand} {ps : Array Tmp} {assign body : Code} {Q : Exit → Act → World → Prop} {a : Act} {w : World} {Kw : World → Prop} (h1 : 1 ≤ n) {gf : Nat} {lb : Array Value} (hg : a.eval g = .func (.func gf) #[] lb)
    (eg : ∀ args w, (callFunc gf args).run P w = .ok (.enter gf args) w) {encs : α → Array Value} {R : List α → α → Prop} {S G : List α → Prop} {v : Nat} {Z : World → Prop} (hseq : SeqV (n - 1) P gf lb encs R S G v Z Kw) (hv : v < w.heap.size) (hZ : ∀ X, Below w.heap.size w X → Z X) (hb0 : ∀ X, Below w.heap.size w X → Kw X) (hps : ∀ x, (encs x).size = ps.size)
    (I : List α → World → Prop) (Ix : Code → List α → World → Prop) (hI : GrS I) (hIp : PuS w.heap.size I) (hIx : ∀ c, GrS (Ix c)) (hIxp : ∀ c, PuS w.heap.size (Ix c)) (hIw : ∀ s X, I s X → Kw X) (hG : ∀ s X, I s X → G s) (hIv : ∀ s X u, I s X → I s (X.setCell ⟨v, 0, none⟩ u)) (hz : I [] w) (Ax : α → Act → World → Prop) (hAx : ∀ x a' X l o o', Ax x a' X → X.heap[l]? = some o → o.isCells = false → Ax x a' (X.putObj l o'))
    (hassign : ∀ (l : Nat) (x : α) (W : World) (K : Act → World → Prop), (∀ a' W', Below W.heap.size W W' → Ax x a' W' → K a' W') →
      assign.wpIn (Fence.wide.inRound l) (n - 1 - 1) P (Exit.then K (fun _ _ _ => False)) { tmps := (ps.zip (encs x)).foldl (fun t (p, v) => t.setIfInBounds p v) a.tmps, defers := [] } W)
    (hbody : ∀ (l : Nat) (pre : List α) (x : α) (a' : Act) (W : World), I pre W → Ax x a' W → R pre x → body.wpIn (Fence.wide.inRound l) (n - 1 - 1) P (bodyV w.heap.size v I Ix (pre ++ [x]) W) a' W)
    (hdone : ∀ (D : Nat) (xs : List α) (W : World), w.heap.size ≤ D → S xs → I xs W → W.heap[D]? = some (.deferred (some [])) → Q .normal { a with defers := { target := .collected D, args := #[] } :: a.defers } W)
    (hstop : ∀ (D : Nat) (c : Code) (pre : List α) (W : World), w.heap.size ≤ D → Ix c pre W → W.heap[D]? = some (.deferred (some [])) → c.wpIn Fence.wide n P Q { a with defers := { target := .collected D, args := #[] } :: a.defers } W) :
    (Code.rangeFunc g ps assign body).wpIn Fence.wide n P Q a w := by
  refine wpIn_rangeFunc fun fn hfn => ?_
  obtain ⟨mk, hmk⟩ : ∃ mk : LoopState → Option Code → Loop, mk = fun st pe => { state := st, pending := pe, fn := fn, tmps := a.tmps, params := ps, assign := assign, body := body, defers := w.heap.size } := ⟨_, rfl⟩
  obtain ⟨V, hV⟩ : ∃ V, V = (w.alloc (.deferred (some []))).alloc (.loop (mk .ready none)) := ⟨_, rfl⟩
  have hbV : Below w.heap.size w V := by rw [hV]; exact bNew (bNew (bStart w) _) _
  have hsV : V.heap.size = w.heap.size + 2 := by rw [hV, World.size_alloc, World.size_alloc]
  have hLV : V.heap[w.heap.size + 1]? = some (.loop (mk .ready none)) := by
    have h := World.alloc_heap_new (w.alloc (.deferred (some []))) (.loop (mk .ready none))
    rw [World.size_alloc] at h
    rw [hV]; exact h
  have hDV : V.heap[w.heap.size]? = some (.deferred (some [])) := by
    rw [hV]; exact (Below.heap_alloc _ _ _ (by rw [World.size_alloc]; omega)).trans (World.alloc_heap_new w _)
  refine ⟨w.heap.size + 1, [{ target := .collected w.heap.size, args := #[] }], V, { target := .fn (.func gf) lb, args := #[.func (.yield (w.heap.size + 1)) #[] #[]] }, V, gf, #[.func (.yield (w.heap.size + 1)) #[] #[]] ++ lb, V, ?_, ?_, fun _ _ => trivial, ?_, fun _ => h1, ?_⟩
  · rw [hV, hmk]; exact run_enterLoop_outer _ _ _ _ _
  · simp only [resolve, hg]
    simp [go_sem]
  · simp [invoke, go_sem, eg]
  -- the record and the block for deferred calls beside the caller's own word
  have two : ∀ (st : LoopState) (pe : Option Code) (X Y : World), X.heap[w.heap.size + 1]? = some (.loop (mk st pe)) ∧ X.heap[w.heap.size]? = some (.deferred (some [])) → Below X.heap.size X Y → Y.heap[w.heap.size + 1]? = some (.loop (mk st pe)) ∧ Y.heap[w.heap.size]? = some (.deferred (some [])) := fun st pe X Y h hb =>
    ⟨(hb.block _ (Array.getElem?_eq_some_iff.1 h.1).1).trans h.1, (hb.block _ (Array.getElem?_eq_some_iff.1 h.2).1).trans h.2⟩
  refine (hseq (w.heap.size + 1) (fun s X => I s X ∧ X.heap[w.heap.size + 1]? = some (.loop (mk .ready none)) ∧ X.heap[w.heap.size]? = some (.deferred (some [])))
    (fun s X => ∃ c, Ix c s X ∧ X.heap[w.heap.size + 1]? = some (.loop (mk .done (some c))) ∧ X.heap[w.heap.size]? = some (.deferred (some []))) V (hb0 V hbV) (by omega) (hZ V hbV)
    (fun s X Y h hb => ⟨hI s X Y h.1 hb, two _ _ X Y h.2 hb⟩) (fun s X Y ⟨c, h, h2⟩ hb => ⟨c, hIx c s X Y h hb, two _ _ X Y h2 hb⟩) (fun s X h => hIw s X h.1) (fun s X h => hG s X h.1) (fun s X u h => ⟨hIv s X u h.1, (Below.heap_setCell X ⟨v, 0, none⟩ u _ (by show _ ≠ v; omega)).trans h.2.1, (Below.heap_setCell X ⟨v, 0, none⟩ u _ (by show _ ≠ v; omega)).trans h.2.2⟩) ?_ ⟨hI _ _ _ hz hbV, hLV, hDV⟩).mono ?_
  · intro pre x X hX hlen
    obtain ⟨hi, hl, hd⟩ := hX
    have hlt : w.heap.size + 1 < X.heap.size := (Array.getElem?_eq_some_iff.1 hl).1
    have hltX := hlt
    have hy := run_yield (P := P) (args := encs x) hl (by rw [hmk]; exact hps x)
    rw [hmk] at hy
    refine ⟨fn, _, assign, body, hy, roundIn_of_wpIn hfn (hassign _ x X _ fun a' X0 hb0 ha0 => ⟨_, run_beginRound ((hb0.block _ hlt).trans hl) (by rw [hmk]), ?_⟩)⟩
    have hsz0 := hb0.size
    replace hi := hI _ _ _ hi hb0
    replace hl := (hb0.block _ hlt).trans hl
    replace hd := (hb0.block _ (show w.heap.size < X.heap.size by omega)).trans hd
    replace hlt : w.heap.size + 1 < X0.heap.size := by omega
    obtain ⟨X1, hX1⟩ : ∃ X1, X1 = X0.putObj (w.heap.size + 1) (.loop { mk .ready none with state := .busy }) := ⟨_, rfl⟩
    rw [← hX1]
    have hl1 : X1.heap[w.heap.size + 1]? = some (.loop { mk .ready none with state := .busy }) := by rw [hX1]; exact World.putObj_heap_same hlt
    have hd1 : X1.heap[w.heap.size]? = some (.deferred (some [])) := by rw [hX1]; exact (World.putObj_heap_other (by omega)).trans hd
    have hs1 : X.heap.size ≤ X1.heap.size := by rw [hX1]; simp; exact hsz0
    have ha1 : Ax x a' X1 := by rw [hX1]; exact hAx _ _ _ _ _ _ ha0 hl rfl
    have hi1 : I pre X1 := by rw [hX1]; exact hIp _ _ _ _ _ hi (by omega) hl rfl
    refine wpIn_mono (hbody _ pre x a' X1 hi1 ha1 hlen) ?_
    have fin : ∀ (jump : Option Code) (Y : World), FrN w.heap.size X1 Y →
        ∃ o o', Y.heap[w.heap.size + 1]? = some o ∧ o.isCells = false ∧ (Instr.endRound (w.heap.size + 1) jump).run P Y = .ok (.bool jump.isNone) (Y.putObj (w.heap.size + 1) o') ∧ (Y.putObj (w.heap.size + 1) o').heap[w.heap.size + 1]? = some (.loop (mk (if jump.isNone then .ready else .done) jump)) ∧ (Y.putObj (w.heap.size + 1) o').heap[w.heap.size]? = some (.deferred (some [])) := fun jump Y hk => by
      have hl2 := hk.keep _ _ (by omega) hl1 rfl
      have hd2 := hk.keep _ _ (by omega) hd1 rfl
      have he := run_endRound (P := P) jump hl2
      have hlt2 := (Array.getElem?_eq_some_iff.1 hl2).1
      refine ⟨_, _, hl2, rfl, he, ?_, (World.putObj_heap_other (by omega)).trans hd2⟩
      rw [World.putObj_heap_same hlt2, hmk]
    have hv1 : X1.heap[v]? = X.heap[v]? := by rw [hX1]; exact (World.putObj_heap_other (show v ≠ w.heap.size + 1 by omega)).trans (hb0.block v (by omega))
    rintro e a3 Y hp
    cases e with
    | normal =>
      obtain ⟨o, o', h1', h2', hr, hlZ, hdZ⟩ := fin none Y hp.1
      refine ⟨_, _, hr, .inl ⟨rfl, ⟨hIp _ _ _ _ _ hp.2.1 (by omega) h1' h2', hlZ, hdZ⟩, ?_, ?_⟩⟩
      · have := hp.1.size
        simp; omega
      · exact (World.putObj_heap_other (show v ≠ w.heap.size + 1 by omega)).trans (hp.2.2.trans hv1)
    | ret =>
      obtain ⟨o, o', h1', h2', hr, hlZ, hdZ⟩ := fin (some .ret) Y hp.1
      exact ⟨_, _, hr, .inr ⟨rfl, _, hIxp _ _ _ _ _ _ hp.2 (by omega) h1' h2', hlZ, hdZ⟩⟩
    | exit id =>
      obtain ⟨o, o', h1', h2', hr, hlZ, hdZ⟩ := fin (some (.exit id)) Y hp.1
      exact ⟨_, _, hr, .inr ⟨rfl, _, hIxp _ _ _ _ _ _ hp.2 (by omega) h1' h2', hlZ, hdZ⟩⟩
    | _ => exact hp.elim
  · rintro e Y ⟨⟨v, rfl⟩, (⟨xs, hS, hi, hl, hd⟩ | ⟨pre, c, hi, hl, hd⟩)⟩
    · have hr := run_endLoop (P := P) hl (by rw [hmk]; simp)
      refine ⟨none, _, by rw [hr, hmk], hdone _ xs _ (Nat.le_refl _) hS (hIp _ _ _ _ _ hi (by omega) hl rfl) ((World.putObj_heap_other (by omega)).trans hd)⟩
    · have hr := run_endLoop (P := P) hl (by rw [hmk]; simp)
      refine ⟨some c, _, by rw [hr, hmk], hstop _ c pre _ (Nat.le_refl _) (hIxp _ _ _ _ _ _ hi (by omega) hl rfl) ((World.putObj_heap_other (by omega)).trans hd)⟩
theorem wpIn_range_v {α : Type} {n : Nat} {P : Program} {g : Operand} {ps : Array Tmp} {assign body : Code} {Q : Exit → Act → World → Prop} {a : Act} {w : World} {Kw : World → Prop} (h1 : 1 ≤ n) {gf : Nat} {lb : Array Value} (hg : a.eval g = .func (.func gf) #[] lb)
    (eg : ∀ args w, (callFunc gf args).run P w = .ok (.enter gf args) w) {encs : α → Array Value} {R : List α → α → Prop} {S G : List α → Prop} {v : Nat} {Z : World → Prop} (hseq : SeqV (n - 1) P gf lb encs R S G v Z Kw) (hv : v < w.heap.size) (hZ : ∀ X, Below w.heap.size w X → Z X) (hb0 : ∀ X, Below w.heap.size w X → Kw X) (hps : ∀ x, (encs x).size = ps.size)
    (I : List α → World → Prop) (Ix : Code → List α → World → Prop) (hI : GrS I) (hIp : PuS w.heap.size I) (hIx : ∀ c, GrS (Ix c)) (hIxp : ∀ c, PuS w.heap.size (Ix c)) (hIw : ∀ s X, I s X → Kw X) (hG : ∀ s X, I s X → G s) (hIv : ∀ s X u, I s X → I s (X.setCell ⟨v, 0, none⟩ u)) (hz : I [] w) (tb : Tmp) (T : TypeId) (cells : α → Array Value)
    (hassign : ∀ (l : Nat) (x : α) (W : World) (K : Act → World → Prop), (∀ b W', Below W.heap.size W W' → Bx W' b T (cells x) → K { tmps := ((ps.zip (encs x)).foldl (fun t (p, v) => t.setIfInBounds p v) a.tmps).setIfInBounds tb (.pointer (some ⟨b, 0, none⟩)), defers := [] } W') →
      assign.wpIn (Fence.wide.inRound l) (n - 1 - 1) P (Exit.then K (fun _ _ _ => False)) { tmps := (ps.zip (encs x)).foldl (fun t (p, v) => t.setIfInBounds p v) a.tmps, defers := [] } W)
    (hbody : ∀ (l : Nat) (pre : List α) (x : α) (b : Nat) (W : World), I pre W → Bx W b T (cells x) → R pre x → body.wpIn (Fence.wide.inRound l) (n - 1 - 1) P (bodyV w.heap.size v I Ix (pre ++ [x]) W) { tmps := ((ps.zip (encs x)).foldl (fun t (p, v) => t.setIfInBounds p v) a.tmps).setIfInBounds tb (.pointer (some ⟨b, 0, none⟩)), defers := [] } W)
    (hdone : ∀ (D : Nat) (xs : List α) (W : World), w.heap.size ≤ D → S xs → I xs W → W.heap[D]? = some (.deferred (some [])) → Q .normal { a with defers := { target := .collected D, args := #[] } :: a.defers } W)
    (hstop : ∀ (D : Nat) (c : Code) (pre : List α) (W : World), w.heap.size ≤ D → Ix c pre W → W.heap[D]? = some (.deferred (some [])) → c.wpIn Fence.wide n P Q { a with defers := { target := .collected D, args := #[] } :: a.defers } W) :
    (Code.rangeFunc g ps assign body).wpIn Fence.wide n P Q a w :=
  wpIn_range_cv h1 hg eg hseq hv hZ hb0 hps I Ix hI hIp hIx hIxp hIw hG hIv hz
    (fun x a' X => ∃ b, a' = { tmps := ((ps.zip (encs x)).foldl (fun t (p, v) => t.setIfInBounds p v) a.tmps).setIfInBounds tb (.pointer (some ⟨b, 0, none⟩)), defers := [] } ∧ Bx X b T (cells x))
    (fun x a' X l o o' ⟨b, e, hB⟩ ho hc => ⟨b, e, bx_put hB ho hc⟩)
    (fun l x W K hK => hassign l x W K fun b W' hb hB => hK _ _ hb ⟨b, rfl, hB⟩)
    (fun l pre x a' W hi ⟨b, e, hB⟩ hlen => by subst e; exact hbody l pre x b W hi hB hlen)
    hdone hstop
theorem wpIn_range_s {α : Type} {n : Nat} {P : Program} {g : Operand} {ps : Array Tmp} {assign body : Code} {Q : Exit → Act → World → Prop} {a : Act} {w : World} {Kw : World → Prop} (h1 : 1 ≤ n) {gf : Nat} {lb : Array Value} (hg : a.eval g = .func (.func gf) #[] lb)
    (eg : ∀ args w, (callFunc gf args).run P w = .ok (.enter gf args) w) {encs : α → Array Value} {R : List α → α → Prop} {S G : List α → Prop} {v : Nat} {Z : World → Prop} (hseq : SeqV (n - 1) P gf lb encs R S G v Z Kw) (hv : v < w.heap.size) (hZ : ∀ X, Below w.heap.size w X → Z X) (hb0 : ∀ X, Below w.heap.size w X → Kw X) (hps : ∀ x, (encs x).size = ps.size)
    (I : List α → World → Prop) (Ix : Code → List α → World → Prop) (hI : GrS I) (hIp : PuS w.heap.size I) (hIx : ∀ c, GrS (Ix c)) (hIxp : ∀ c, PuS w.heap.size (Ix c)) (hIw : ∀ s X, I s X → Kw X) (hG : ∀ s X, I s X → G s) (hIv : ∀ s X u, I s X → I s (X.setCell ⟨v, 0, none⟩ u)) (hz : I [] w) (tb : Tmp) (val : α → Value)
    (hassign : ∀ (l : Nat) (x : α) (W : World) (K : Act → World → Prop), K { tmps := ((ps.zip (encs x)).foldl (fun t (p, v) => t.setIfInBounds p v) a.tmps).setIfInBounds tb (val x), defers := [] } W →
      assign.wpIn (Fence.wide.inRound l) (n - 1 - 1) P (Exit.then K (fun _ _ _ => False)) { tmps := (ps.zip (encs x)).foldl (fun t (p, v) => t.setIfInBounds p v) a.tmps, defers := [] } W)
    (hbody : ∀ (l : Nat) (pre : List α) (x : α) (W : World), I pre W → R pre x → body.wpIn (Fence.wide.inRound l) (n - 1 - 1) P (bodyV w.heap.size v I Ix (pre ++ [x]) W) { tmps := ((ps.zip (encs x)).foldl (fun t (p, v) => t.setIfInBounds p v) a.tmps).setIfInBounds tb (val x), defers := [] } W)
    (hdone : ∀ (D : Nat) (xs : List α) (W : World), w.heap.size ≤ D → S xs → I xs W → W.heap[D]? = some (.deferred (some [])) → Q .normal { a with defers := { target := .collected D, args := #[] } :: a.defers } W)
    (hstop : ∀ (D : Nat) (c : Code) (pre : List α) (W : World), w.heap.size ≤ D → Ix c pre W → W.heap[D]? = some (.deferred (some [])) → c.wpIn Fence.wide n P Q { a with defers := { target := .collected D, args := #[] } :: a.defers } W) :
    (Code.rangeFunc g ps assign body).wpIn Fence.wide n P Q a w :=
  wpIn_range_cv h1 hg eg hseq hv hZ hb0 hps I Ix hI hIp hIx hIxp hIw hG hIv hz
    (fun x a' X => a' = { tmps := ((ps.zip (encs x)).foldl (fun t (p, v) => t.setIfInBounds p v) a.tmps).setIfInBounds tb (val x), defers := [] })
    (fun x a' X l o o' h _ _ => h)
    (fun l x W K hK => hassign l x W K (hK _ _ (Below.refl _ _) rfl))
    (fun l pre x a' W hi h hR => by subst h; exact hbody l pre x W hi hR)
    hdone hstop
end Go.Proofs.YtlldlkjngcgcjaaGreatDoor
namespace Go.Proofs.YtlldlkjngcgcjaaGreatDoor
set_option linter.unusedVariables false
set_option linter.unusedSimpArgs false
open Go.RowKit
theorem zeroInt (w : World) : (zeroValue 3).run Tryz.prog w = .ok (.int .i64 0) w := by kernel_rfl
def ctI (o : Option Nat) : Int := match o with | some i => i | none => 0
theorem ct_match (o : Option Nat) : (match o with | some y => idV y | none => .int .i64 0) = .int .i64 (ctI o) := by cases o <;> rfl
theorem cd_match (o : Option Int) : (match o with | some y => inV y | none => .int .i64 0) = .int .i64 (o.getD 0) := by cases o <;> rfl
theorem cond_i6 {c : List (Int × Int)} (hc : Tw.Vc c) (n : Int) : I6 ((Tw.condF c n).getD 0) := by
  rw [← Tw.cond_F]
  rcases Tw.cond_le hc n with h | h
  · rw [h]; exact ⟨by decide, by decide⟩
  · exact ⟨by omega, by omega⟩
theorem Mom.look {l : List Tw.St} {c : List (Int × Int)} {t : Int} {b1 b2 : Nat} {w : World} (h : Mom l c t b1 b2 w) {n k : Int} (hn : I6 n) (hk : I6 k) :
    (Instr.lookup 92 (.map (some b1)) (.agg #[.int .i64 n, .int .i64 k]) true).run Tryz.prog w = .ok (.tuple #[.int .i64 (ctI (Tw.find l n k t)), .bool (Tw.find l n k t).isSome]) w := by
  have := h.st.look_run ky_key Tryz.underlying92 (zeroInt w) (s := (n, k)) ⟨wf64 hn, wf64 hk⟩
  dsimp only at this
  generalize Tw.find l n k t = r at *
  cases r <;> exact this
theorem Mom.lookC {l : List Tw.St} {c : List (Int × Int)} {t : Int} {b1 b2 : Nat} {w : World} (h : Mom l c t b1 b2 w) {n : Int} (hn : I6 n) :
    (Instr.lookup 93 (.map (some b2)) (.int .i64 n) false).run Tryz.prog w = .ok (.int .i64 ((Tw.condF c n).getD 0)) w := by
  have := h.cd.look_run1 (Mg.ky_int (P := Tryz.prog) Tryz.underlying3) Tryz.underlying93 (zeroInt w) (s := n) (wf64 hn)
  generalize Tw.condF c n = r at *
  cases r <;> exact this
set_option maxRecDepth 100000 in
set_option maxHeartbeats 4000000 in
theorem mcounts_any (l : List Tw.St) (c : List (Int × Int)) (t : Int) (b1 b2 : Nat) (x : Value) (number : Int) (w : World) (hv : Tw.Va l) (hc : Tw.Vc c) (hM : Mom l c t b1 b2 w) (hn : I6 number) :
    Calls Tryz.prog 94 #[.agg #[x, .map (some b1), .map (some b2)], .int .i64 number] w fun e w' => e = .returned (.tuple #[.int .i64 (ctI (Tw.counts l c number t)), .bool (Tw.counts l c number t).isSome]) ∧ Below w.heap.size w w' := by
  have B := Bx.mk w 95 #[x, .map (some b1), .map (some b2)]
  have hb := bNx w (.cells #[x, .map (some b1), .map (some b2)] 95)
  have hM' := hM.call hb
  have m1 := B.cell 1 rfl
  have m2 := B.cell 2 rfl
  have L1 := hM'.look hn (k := 1) ⟨by decide, by decide⟩
  have L2 := hM'.lookC hn
  have L3 := hM'.look hn (cond_i6 hc number)
  have hci := Tw.counts_is hv hc number t
  generalize Tw.counts l c number t = r at *
  generalize (Tw.condF c number).getD 0 = kk at *
  generalize Tw.find l number kk t = f2 at *
  generalize Tw.find l number 1 t = f1 at *
  clear hM hM' B
  cases f1
  · have hr : r = f2 := hci
    clear hci
    subst hr
    simp only [Option.isSome_none] at L1
    go_enter Tryz.func94, Tryz.ntmps94
    go_wp2
    go_ret2
    exact ⟨rfl, hb⟩
  · have hr := hci
    clear hci
    subst hr
    simp only [Option.isSome_some] at L1
    go_enter Tryz.func94, Tryz.ntmps94
    go_wp2
    go_ret2
    exact ⟨by simp, hb⟩
theorem walk_any (n : Nat) (A : Option Addr) (k cap b1 b2 : Nat) (number : Int) (w : World) : CallsIn Fence.wide n Tryz.prog 47 #[.agg #[.slice A k cap, .map (some b1), .map (some b2)], .int .i64 number] w fun e w' => e = .returned (.func (.func 93) #[] #[.pointer (some ⟨w.heap.size, 0, none⟩), .pointer (some ⟨w.heap.size + 1, 0, none⟩)]) ∧ w' = (w.alloc (.cells #[.slice A k cap, .map (some b1), .map (some b2)] 95)).alloc (.cells #[.int .i64 number] 3) := by
  refine callsIn_of_wp Tryz.func47 rfl trivial ?_ rfl
  simp only [Tryz.ntmps47, List.size_toArray, List.length_cons, List.length_nil, Nat.reduceAdd, Nat.reduceSub, Array.replicate_succ, Array.replicate_zero, List.push_toArray, List.append_toArray, List.nil_append, List.cons_append]
  gi_wp2
  go_ret
  exact ⟨rfl, rfl⟩
end Go.Proofs.YtlldlkjngcgcjaaGreatDoor
namespace Go.Proofs.YtlldlkjngcgcjaaGreatDoor
set_option linter.unusedVariables false
set_option linter.unusedSimpArgs false
open Go.RowKit
attribute [local go_sem] Oper.semAt_some
def wkE (i : Nat) : Array Value := #[.int .i64 i]
theorem to_i6 {l : List Tw.St} (hv : Tw.Va l) {i : Nat} (hi : i < l.length) : I6 (Tw.toOf l i) := by
  unfold Tw.toOf
  rw [List.getElem?_eq_getElem hi]
  have h := hv.fm l[i] (List.getElem_mem hi)
  have h1 := h.t0
  have h2 := h.t2
  exact ⟨by show _ ≤ l[i].to; omega, by show l[i].to ≤ _; omega⟩
set_option maxRecDepth 100000 in
set_option maxHeartbeats 8000000 in
theorem walk_seq (n : Nat) (hn1 : 2 ≤ n) (N : Nat) (l : List Tw.St) (c : List (Int × Int)) (t n0 : Int) (b1 b2 gm gn : Nat) (A : Option Addr) (cap : Nat) (w0 : World) (hv : Tw.Va l) (hc : Tw.Vc c) (hA : At 5 stC w0 w0.heap.size A l) (hn : l.length ≤ cap) (hM : Mom l c t b1 b2 w0) (h0 : I6 n0) (hgm : gm < gn) :
    SeqV n Tryz.prog 93 #[.pointer (some ⟨gm, 0, none⟩), .pointer (some ⟨gn, 0, none⟩)] wkE (Tw.Nx l c t n0) (fun xs => Tw.counts l c (Tw.cur l n0 xs) t = none) (fun xs => xs.length ≤ N) gn
      (fun X => Bx X gn 3 #[.int .i64 n0]) (fun X => Below w0.heap.size w0 X ∧ w0.heap.size ≤ gm ∧ Bx X gm 95 #[.slice A l.length cap, .map (some b1), .map (some b2)]) := by
  intro lp J Jx W hW hvW hZ hJ hJx hJw hG hJv hY hj0
  have hJI := Kp.mk (fun xs X (h : J xs X) => (hJw xs X h).2.2)
  refine callsIn_of_wp Tryz.func93 rfl trivial ?_ rfl
  simp only [Tryz.ntmps93, List.size_toArray, List.length_cons, List.length_nil, Nat.reduceAdd, Nat.reduceSub, Array.replicate_succ, Array.replicate_zero, List.push_toArray, List.append_toArray, List.nil_append, List.cons_append]
  have hC := fun (xs : List Nat) (X : World) (h : J xs X) (hx : I6 (Tw.cur l n0 xs)) => mcounts_any l c t b1 b2 (.slice A l.length cap) (Tw.cur l n0 xs) X hv hc (hM.below (hJw xs X h).1 hM.lt.1 hM.lt.2) hx
  have hC0 := hC [] W hj0 h0
  have m0 := (hJI.out _ _ hj0).cell 0 rfl
  have m1 := (hJI.out _ _ hj0).cell 1 rfl
  have m2 := (hJI.out _ _ hj0).cell 2 rfl
  have z0 := hZ.cell 0 rfl
  rw [Tw.cur_nil] at hC0
  gi_wp2_with fail
  refine ⟨trivial, fun _ => by omega, (callsIn_wide.2 hC0).mono ?_⟩
  rintro _ w1 ⟨rfl, hb1⟩
  clear hC0 m0 m1 m2 z0
  gi_wp2_with fail
  have hj1 := hJ _ _ _ hj0 hb1
  have hZ1 : Bx w1 gn 3 #[.int .i64 (Tw.cur l n0 [])] := hZ.call hb1
  have hs1 := hb1.size
  obtain ⟨r0, hr0⟩ := exKx (Tw.counts l c n0 t)
  rw [hr0.out]
  have hr0' : Kp (Tw.counts l c (Tw.cur l n0 []) t = r0) := hr0
  clear hr0 hb1 hZ hj0
  gi_loopg [4, 5] (N + 1) (fun k s4 s5 wr => ∃ (xs : List Nat) (r : Option Nat), xs.length + k = N + 1 ∧ J xs wr ∧ W.heap.size ≤ wr.heap.size ∧ Bx wr gn 3 #[.int .i64 (Tw.cur l n0 xs)] ∧ Kp (Tw.counts l c (Tw.cur l n0 xs) t = r) ∧ s4 = .int .i64 (ctI r) ∧ s5 = .bool r.isSome)
  case atStart => exact ⟨[], r0, by simp, hj1, hs1, hZ1, hr0', rfl, rfl⟩
  case round =>
    clear hj1 hs1 hZ1 hr0'
    obtain ⟨xs, r, hk, hj, hsz, hZ, hr, rfl, rfl⟩ := hrel
    have hxN := hG _ _ hj
    cases r with
    | none =>
      clear hC
      simp only [Option.isSome_none]
      have hS : Tw.counts l c (Tw.cur l n0 xs) t = none := hr.out
      have hSK := Kp.mk hS
      clear hS hr
      gi_wp2
      refine ⟨fun _ h => (by cases h), ?_⟩
      gi_wp2
      go_end0
      exact ⟨⟨_, rfl⟩, .inl ⟨_, hSK.out, hj⟩⟩
    | some i =>
      obtain ⟨hi, hto⟩ := Tw.Nx.lt (l := l) (c := c) (t := t) (n0 := n0) (xs := xs) hr.out
      obtain ⟨fn, tmps, assign, body, hy, hR⟩ := hY xs i wr hj hr.out
      simp only [wkE] at hy
      rw [show ctI (some i) = (i : Int) from rfl]
      simp only [Option.isSome_some]
      generalize ctI r0 = c0 at *
      generalize r0.isSome = s0 at *
      gi_wp2_with fail
      refine ⟨fun _ => by omega, hR.mono ?_⟩
      rintro e W3 (⟨rfl, hJ3, hk3, hv3⟩ | ⟨rfl, hJx3⟩)
      · have hs3 := Nat.le_trans hsz hk3
        have hZ3 : Bx W3 gn 3 #[.int .i64 (Tw.cur l n0 xs)] := hv3.trans hZ
        obtain ⟨b, off, rfl, hbB, hcell⟩ := hA.run (Nat.le_refl _) hi
        have hJ4 := hJv _ _ (.int .i64 (Tw.toOf l i)) hJ3
        have hs4 : W.heap.size ≤ (W3.setCell ⟨gn, 0, none⟩ (.int .i64 (Tw.toOf l i))).heap.size := by rw [World.size_setCell]; exact hs3
        have hZ4 : Bx (W3.setCell ⟨gn, 0, none⟩ (.int .i64 (Tw.toOf l i))) gn 3 #[.int .i64 (Tw.cur l n0 (xs ++ [i]))] := by rw [Tw.cur_snoc]; exact hZ3.set 0 _
        have e2 := hcell W3 (hJw _ _ hJ3).1 2 _ rfl
        rw [← hto] at e2
        have mm0 := (hJI.out _ _ hJ3).cell 0 rfl
        have fz := hZ3.frozen 0
        have q0 := hZ3.cell 0 rfl
        have hC4 := hC (xs ++ [i]) _ hJ4 (by rw [Tw.cur_snoc]; exact to_i6 hv hi)
        have m0 := (hJI.out _ _ hJ4).cell 0 rfl
        have m1 := (hJI.out _ _ hJ4).cell 1 rfl
        have m2 := (hJI.out _ _ hJ4).cell 2 rfl
        have z0 := hZ4.cell 0 rfl
        obtain ⟨r5, hr5⟩ := exKx (Tw.counts l c (Tw.cur l n0 (xs ++ [i])) t)
        rw [hr5.out] at hC4
        have hlen : (xs ++ [i]).length + (gk - 1) = N + 1 ∧ gk - 1 < gk := by simp; omega
        have hlenK := Kp.mk hlen
        rw [Tw.cur_snoc] at hC4 z0
        clear hR hy hk3 hv3 hZ hj hcell hC hto hlen hr
        generalize Tw.toOf l i = to at *
        gi_wp2_with fail
        refine ⟨trivial, fun _ => by omega, (callsIn_wide.2 hC4).mono ?_⟩
        rintro _ w5 ⟨rfl, hb5⟩
        have hj5 := hJ _ _ _ hJ4 hb5
        have hZ5 := hZ4.call hb5
        have hs5 := Nat.le_trans hs4 hb5.size
        clear hC4 m0 m1 m2 z0 e2 mm0 fz q0 hb5 hJ4 hZ4 hs4
        gi_wp2_with fail
        gi_roundg (gk - 1)
        case measure => exact hlenK.out.2
        case rel => exact ⟨xs ++ [i], r5, hlenK.out.1, hj5, hs5, hZ5, hr5, rfl, rfl⟩
      · clear hR hy hC
        gi_wp2_with fail
        trace_state
        go_end0
        exact ⟨⟨_, rfl⟩, .inr ⟨_, hJx3⟩⟩
end Go.Proofs.YtlldlkjngcgcjaaGreatDoor
namespace Go.Proofs.YtlldlkjngcgcjaaGreatDoor
set_option linter.unusedVariables false
set_option linter.unusedSimpArgs false
open Go.RowKit
set_option maxRecDepth 100000 in
set_option maxHeartbeats 4000000 in
theorem index_any (l : List Int) (A : Option Addr) (cap : Nat) (x : Int) (w : World) (hA : At 1 inC w w.heap.size A l) (hn : l.length ≤ cap) (hl : l.length ≤ 9223372036854775807) :
    Calls Tryz.prog 95 #[.slice A l.length cap, .int .i64 x] w fun e w' => e = .returned (.int .i64 (idxI (fun y => x == y) l)) ∧ Below w.heap.size w w' := by
  go_enter Tryz.func95, Tryz.ntmps95
  go_wp2
  go_loopw [8] (fun s8 wr => ∃ k : Nat, k ≤ l.length ∧ s8 = .int .i64 k ∧ Kp (∀ (j : Nat) (hj : j < l.length), j < k → (x == l[j]) = false) ∧ Below w.heap.size w wr) (fun s8 _ => l.length - (intOf s8).toNat)
  case atStart => exact ⟨0, Nat.zero_le _, rfl, ⟨fun j hj h => by omega⟩, bStart _⟩
  case round =>
    obtain ⟨k, hk, rfl, hno, hb⟩ := hrel
    by_cases hlt : k < l.length
    · obtain ⟨b, off, rfl, hbB, hcell⟩ := hA.run (Nat.le_refl _) hlt
      have hcl0 := hcell wr hb 0 _ rfl
      simp only [Nat.add_zero, Nat.mul_one] at hcl0
      have hnx : Kp ((x == l[k]) = false → ∀ (j : Nat) (hj : j < l.length), j < k + 1 → (x == l[j]) = false) := ⟨fun h j hj hjk => by
        rcases Nat.lt_or_ge j k with h1 | h1
        · exact hno.out j hj h1
        · obtain rfl : j = k := by omega
          exact h⟩
      have hfin : Kp ((x == l[k]) = true → idxI (fun y => x == y) l = k) := ⟨fun h => idx_hit hlt h fun j hj => hno.out j (by omega) hj⟩
      clear hcell hA hno
      obtain ⟨t, ht⟩ : ∃ t, (x == l[k]) = t := ⟨_, rfl⟩
      rw [ht] at hnx hfin
      generalize l[k] = y at *
      cases t
      · go_wp2
        exact ⟨⟨k + 1, by omega, by go_num, ⟨by first | exact hnx.out rfl | exact hnx.out trivial⟩, hb⟩, by simp [intOf]; omega⟩
      · go_wp2
        go_ret
        exact ⟨ret_int (by first | exact (hfin.out rfl).symm | exact (hfin.out trivial).symm), hb⟩
    · have hfin : Kp (idxI (fun y => x == y) l = -1) := ⟨idx_none fun j hj => hno.out j hj (by omega)⟩
      clear hno hA
      go_wp2
      go_ret
      exact ⟨ret_int hfin.out.symm, hb⟩
theorem contains_any (l : List Int) (A : Option Addr) (cap : Nat) (x : Int) (w : World) (hA : At 1 inC w w.heap.size A l) (hn : l.length ≤ cap) (hl : l.length ≤ 9223372036854775807) :
    Calls Tryz.prog 48 #[.slice A l.length cap, .int .i64 x] w fun e w' => e = .returned (.bool (decide (x ∈ l))) ∧ Below w.heap.size w w' := by
  have hI := index_any l A cap x w hA hn hl
  have hd := idx_any (fun y : Int => x == y) l
  have hm : (l.any fun y => x == y) = decide (x ∈ l) := by
    rw [Bool.eq_iff_iff, List.any_eq_true, decide_eq_true_eq]
    exact ⟨fun ⟨y, h1, h2⟩ => by rw [beq_iff_eq.1 h2]; exact h1, fun h => ⟨x, h, by simp⟩⟩
  rw [hm] at hd
  generalize idxI (fun y : Int => x == y) l = i at *
  generalize decide (x ∈ l) = r at *
  clear hA hm
  by_cases h : 0 ≤ i
  all_goals
    have t0 : decide (0 ≤ i) = r := hd
    first | rw [decide_eq_true h] at t0 | rw [decide_eq_false h] at t0
    subst t0
    clear hd
    go_enter Tryz.func48, Tryz.ntmps48
    go_wp2_with (go_at_call 95; refine hI.mono ?_; rintro _ w1 ⟨rfl, hb1⟩; clear hI)
    go_ret
    exact ⟨ret_bool (by simp <;> omega), hb1⟩
/-- the lists of two slices, compared -/
theorem eq_take {a b : List Int} (hl : a.length = b.length) : a = b ↔ ∀ (j : Nat) (h1 : j < a.length) (h2 : j < b.length), a[j] = b[j] :=
  ⟨fun e j h1 h2 => by subst e; rfl, fun h => List.ext_getElem hl fun j h1 h2 => h j h1 h2⟩
set_option maxRecDepth 100000 in
set_option maxHeartbeats 4000000 in
theorem equal_any (a b : List Int) (A B : Option Addr) (ca cb : Nat) (w : World) (hA : At 1 inC w w.heap.size A a) (hn : a.length ≤ ca) (hl : a.length ≤ 9223372036854775807) (hB : At 1 inC w w.heap.size B b) (hn2 : b.length ≤ cb) (hl2 : b.length ≤ 9223372036854775807) :
    Calls Tryz.prog 63 #[.slice A a.length ca, .slice B b.length cb] w fun e w' => e = .returned (.bool (decide (a = b))) ∧ Below w.heap.size w w' := by
  by_cases hlen : a.length = b.length
  · go_enter Tryz.func63, Tryz.ntmps63
    have hneq : ((a.length : Int) != (b.length : Int)) = false := by simp [hlen]
    have hlK := Kp.mk hlen
    clear hlen
    go_wp2
    clear hneq
    go_loopw [13] (fun s13 wr => ∃ k : Nat, k ≤ a.length ∧ s13 = .int .i64 k ∧ Kp (∀ (j : Nat) (h1 : j < a.length) (h2 : j < b.length), j < k → a[j] = b[j]) ∧ Below w.heap.size w wr) (fun s13 _ => a.length - (intOf s13).toNat)
    case atStart => exact ⟨0, Nat.zero_le _, rfl, ⟨fun j hj _ h => by omega⟩, bStart _⟩
    case round =>
      obtain ⟨k, hk, rfl, hno, hb⟩ := hrel
      by_cases hlt : k < a.length
      · have hlt2 : k < b.length := by have := hlK.out; omega
        obtain ⟨p, off, rfl, hbB, hcell⟩ := hA.run (Nat.le_refl _) hlt
        obtain ⟨p2, off2, rfl, hbB2, hcell2⟩ := hB.run (Nat.le_refl _) hlt2
        have c0 := fun d os => hcell (Sort.grow (redrawn wr d) os) (bAgain hb d os) 0 _ rfl
        have c1 := fun d os => hcell2 (Sort.grow (redrawn wr d) os) (bAgain hb d os) 0 _ rfl
        simp only [Nat.add_zero, Nat.mul_one] at c0 c1
        have hnx : Kp (a[k] = b[k] → ∀ (j : Nat) (h1 : j < a.length) (h2 : j < b.length), j < k + 1 → a[j] = b[j]) := ⟨fun h j h1 h2 hjk => by
          rcases Nat.lt_or_ge j k with h3 | h3
          · exact hno.out j h1 h2 h3
          · obtain rfl : j = k := by omega
            exact h⟩
        have hfin : Kp (a[k] ≠ b[k] → decide (a = b) = false) := ⟨fun h => decide_eq_false fun e => h ((eq_take hlK.out).1 e k hlt hlt2)⟩
        clear hcell hcell2 hA hB hno
        generalize a[k] = x at *
        generalize b[k] = y at *
        go_wp2_with fail
        refine wp_region_quiet_below (by kernel_rfl) (by kernel_rfl) ?_
        repeat (go_big_quiet_step (fail))
        refine wpQuiet_nil ?_
        rintro _ ⟨q, rfl⟩
        replace hb := bAgain hb q.d q.os
        clear c0 c1
        generalize Sort.grow (redrawn wr q.d) q.os = w2 at *
        by_cases e : x = y
        · have ht : (x != y) = false := by simp [e]
          have hnx' := Kp.mk (hnx.out e)
          clear hnx hfin e
          go_wp2
          exact ⟨⟨k + 1, by omega, by go_num, hnx', hb⟩, by simp [intOf]; omega⟩
        · have ht : (x != y) = true := bne_iff_ne.2 e
          have hfin' := Kp.mk (hfin.out e)
          clear hnx hfin e
          go_wp2
          go_ret
          exact ⟨ret_bool (by rw [hfin'.out]), hb⟩
      · have hfin : Kp (decide (a = b) = true) := ⟨decide_eq_true ((eq_take hlK.out).2 fun j h1 h2 => hno.out j h1 h2 (by omega))⟩
        clear hno hA hB
        go_wp2
        go_ret
        exact ⟨ret_bool (by rw [hfin.out]), hb⟩
  · go_enter Tryz.func63, Tryz.ntmps63
    have hneq : ((a.length : Int) != (b.length : Int)) = true := bne_iff_ne.2 (by omega)
    have hfin : Kp (decide (a = b) = false) := ⟨decide_eq_false fun e => hlen (by rw [e])⟩
    clear hlen
    go_wp2
    go_ret
    exact ⟨ret_bool (by rw [hfin.out]), bStart _⟩
set_option maxRecDepth 100000 in
set_option maxHeartbeats 4000000 in
theorem min_any (l : List Int) (A : Option Addr) (cap : Nat) (w : World) (hA : At 1 inC w w.heap.size A l) (hn : l.length ≤ cap) (h0 : 0 < l.length) (hl : l.length ≤ 9223372036854775807) :
    Calls Tryz.prog 102 #[.slice A l.length cap] w fun e w' => e = .returned (.int .i64 (Lib.minOf l)) ∧ Below w.heap.size w w' := by
  obtain ⟨b, off, rfl, hbB, hcell⟩ := hA.run (Nat.le_refl _) h0
  have c0 := hcell w (bStart _) 0 _ rfl
  simp only [Nat.add_zero, Nat.zero_mul] at c0
  have t0 : decide ((l.length : Int) < 1) = false := decide_eq_false (by omega)
  have hst : Kp (l[0] = (l.take 1).foldl min (l.headD 0)) := ⟨by
    cases l with
    | nil => simp at h0
    | cons a r => simp⟩
  clear hcell
  generalize l[0] = a0 at *
  go_enter Tryz.func102, Tryz.ntmps102
  go_wp2
  clear c0 t0
  go_loopw [4, 3] (fun s4 s3 wr => ∃ (k : Nat) (m : Int), 1 ≤ k ∧ k ≤ l.length ∧ s4 = .int .i64 k ∧ s3 = .int .i64 m ∧ Kp (m = (l.take k).foldl min (l.headD 0)) ∧ Below w.heap.size w wr) (fun s4 _ _ => l.length - (intOf s4).toNat)
  case atStart => exact ⟨1, a0, Nat.le_refl _, h0, rfl, rfl, hst, bStart _⟩
  case round =>
    clear hst
    obtain ⟨k, m, hk1, hk, rfl, rfl, hm, hb⟩ := hrel
    by_cases hlt : k < l.length
    · obtain ⟨b', off', hAA, hbB', hcell⟩ := hA.run (Nat.le_refl _) hlt
      simp only [Option.some.injEq, Addr.mk.injEq, and_true] at hAA
      obtain ⟨rfl, rfl⟩ := hAA
      have c0 := hcell wr hb 0 _ rfl
      simp only [Nat.add_zero, Nat.mul_one] at c0
      have hnx : Kp (min m l[k] = (l.take (k + 1)).foldl min (l.headD 0)) := ⟨by rw [List.take_succ_eq_append_getElem hlt, List.foldl_append, ← hm.out]; rfl⟩
      clear hcell hA hm
      generalize l[k] = y at *
      rcases Int.lt_or_le y m with h1 | h1
      · have e1 : Kp (y = (l.take (k + 1)).foldl min (l.headD 0)) := ⟨by rw [← hnx.out]; omega⟩
        clear hnx
        go_wp2
        exact ⟨⟨k + 1, y, by omega, by omega, by go_num, by first | rfl | (congr 1; omega), e1, hb⟩, by simp [intOf]; omega⟩
      · have e1 : Kp (m = (l.take (k + 1)).foldl min (l.headD 0)) := ⟨by rw [← hnx.out]; omega⟩
        have h2 : ¬ y < m := by omega
        clear hnx
        go_wp2
        exact ⟨⟨k + 1, m, by omega, by omega, by go_num, by first | rfl | (congr 1; omega), e1, hb⟩, by simp [intOf]; omega⟩
    · have hfin : Kp (m = Lib.minOf l) := ⟨by
        rw [hm.out, List.take_of_length_le (by omega)]; rfl⟩
      clear hm hA
      go_wp2
      go_ret
      exact ⟨ret_int hfin.out, hb⟩
end Go.Proofs.YtlldlkjngcgcjaaGreatDoor
namespace Go.Proofs.YtlldlkjngcgcjaaGreatDoor
set_option linter.unusedVariables false
set_option linter.unusedSimpArgs false
open Go.RowKit
def badB (last : Int) (x : Int × Int) : Bool := !(!decide (x.1 ≤ last) && (inB x.1 0 99999999 && inB x.2 2 4))
theorem badB_f {last : Int} {x : Int × Int} : badB last x = false ↔ last < x.1 ∧ Tw.Cn x := by
  unfold badB Tw.Cn inB
  simp only [Bool.not_eq_false', Bool.and_eq_true, Bool.not_eq_true', decide_eq_true_eq, decide_eq_false_iff_not]
  omega
set_option maxRecDepth 100000 in
set_option maxHeartbeats 4000000 in
theorem bad_any (n k : Int) (g : Nat) (last : Int) (w : World) (hB : Bx w g 3 #[.int .i64 last]) :
    Calls Tryz.prog 61 #[.agg #[.int .i64 n, .int .i64 k], .pointer (some ⟨g, 0, none⟩)] w fun e w' => e = .returned (.bool (badB last (n, k))) ∧ Below g w w' ∧ Bx w' g 3 #[.int .i64 n] := by
  have hr : Kp (badB last (n, k) = !(!decide (n ≤ last) && (inB n 0 99999999 && inB k 2 4))) := ⟨rfl⟩
  generalize badB last (n, k) = r at *
  have h1 := fun w0 => wNumber_any n w0
  have h2 := fun w0 => wIn_any k 2 4 w0
  generalize inB n 0 99999999 = b1 at *
  generalize inB k 2 4 = b2 at *
  have hlt := hB.lt
  have hb : Below g w (w.alloc (.cells #[.int .i64 n, .int .i64 k] 54)) := (Below.refl g w).alloc (Nat.le_of_lt hlt) _
  have B := Bx.mk w 54 #[.int .i64 n, .int .i64 k]
  have hB0 := hB
  replace hB := hB.new (.cells #[.int .i64 n, .int .i64 k] 54)
  have d0 := hB.cell 0 rfl
  have df := hB.frozen 0
  have B2 := Bx.mk (w.setCell ⟨g, 0, none⟩ (.int .i64 n)) 54 #[.int .i64 n, .int .i64 k]
  rw [World.size_setCell] at B2
  have hB2 := (hB0.set 0 (.int .i64 n)).new (.cells #[.int .i64 n, .int .i64 k] 54)
  have hb2 := ((Below.refl g w).setCell (p := ⟨g, 0, none⟩) (Nat.le_refl g) (.int .i64 n)).alloc (by rw [World.size_setCell]; exact Nat.le_of_lt hlt) (.cells #[.int .i64 n, .int .i64 k] 54)
  have c0 := B.cell 0 rfl
  have c1 := B.cell 1 rfl
  have e0 := B2.cell 0 rfl
  have e1 := B2.cell 1 rfl
  have f0 := hB2.cell 0 rfl
  clear B B2 hB hB0
  by_cases h : n ≤ last
  · have ht : decide (n ≤ last) = true := decide_eq_true h
    rw [ht] at hr
    obtain rfl := hr.out
    clear hr h
    go_enter Tryz.func61, Tryz.ntmps61
    go_wp2
    go_ret
    exact ⟨by simp, hb2, hB2⟩
  · have ht : decide (n ≤ last) = false := decide_eq_false h
    rw [ht] at hr
    clear h
    cases b1 <;> cases b2
    all_goals
      obtain rfl := hr.out
      clear hr
      go_enter Tryz.func61, Tryz.ntmps61
      go_wp2_with (first | (go_at_call 44; refine (h1 _).mono ?_; rintro _ w1 ⟨rfl, rfl⟩) | (go_at_call 45; refine (h2 _).mono ?_; rintro _ w1 ⟨rfl, rfl⟩))
      go_ret
      exact ⟨by simp, hb2, hB2⟩
open Classical in
noncomputable def vcB (c : List (Int × Int)) : Bool := decide (Tw.Vc c)
open Classical in
theorem vcB_t {c : List (Int × Int)} (h : Tw.Vc c) : vcB c = true := decide_eq_true h
open Classical in
theorem vcB_f {c : List (Int × Int)} (h : ¬ Tw.Vc c) : vcB c = false := decide_eq_false h
open Classical in
theorem vcB_iff {c : List (Int × Int)} : vcB c = true ↔ Tw.Vc c := decide_eq_true_iff
set_option maxRecDepth 100000 in
set_option maxHeartbeats 4000000 in
theorem idxC_any (c : List (Int × Int)) (C : Option Addr) (cap g : Nat) (w : World) (hC : At 2 cdC w g C c) (hn : c.length ≤ cap) (hl : c.length ≤ 9223372036854775807) (hB : Bx w g 3 #[.int .i64 (-1)]) :
    Calls Tryz.prog 108 #[.slice C c.length cap, .func (.func 61) #[] #[.pointer (some ⟨g, 0, none⟩)]] w fun e w' => (∃ i : Int, e = .returned (.int .i64 i) ∧ (decide (0 ≤ i) = !vcB c)) ∧ Below g w w' := by
  go_enter Tryz.func108, Tryz.ntmps108
  go_wp2
  go_loopw [8] (fun s8 wr => ∃ k : Nat, k ≤ c.length ∧ s8 = .int .i64 k ∧ Kp (Tw.Vc (c.take k)) ∧ Below g w wr ∧ Bx wr g 3 #[.int .i64 (Tw.lastC (c.take k))]) (fun s8 _ => c.length - (intOf s8).toNat)
  case atStart => exact ⟨0, Nat.zero_le _, rfl, ⟨by simpa using Tw.vc_nil⟩, Below.refl _ _, by simpa [Tw.lastC] using hB⟩
  case round =>
    clear hB
    obtain ⟨k, hk, rfl, hno, hb, hB⟩ := hrel
    by_cases hlt : k < c.length
    · obtain ⟨b, off, rfl, hbB, hcell⟩ := hC (by omega)
      have hck : c[k]? = some c[k] := List.getElem?_eq_getElem hlt
      have hcl0 := (hb.cell (p := ⟨b, off + k * 2 + 0, none⟩) hbB).trans (hcell k _ hck 0 _ rfl)
      have hcl1 := (hb.cell (p := ⟨b, off + k * 2 + 1, none⟩) hbB).trans (hcell k _ hck 1 _ rfl)
      simp only [Nat.add_zero] at hcl0
      have hP := bad_any c[k].1 c[k].2 g (Tw.lastC (c.take k)) wr hB
      have hlast : Kp (c[k].1 = Tw.lastC (c.take (k + 1))) := ⟨by rw [List.take_succ_eq_append_getElem hlt, Tw.lastC_snoc]⟩
      have hyes : Kp (badB (Tw.lastC (c.take k)) c[k] = false → Tw.Vc (c.take (k + 1))) := ⟨fun h => (Tw.vc_take hlt).2 ⟨hno.out, (badB_f.1 h).2, (badB_f.1 h).1⟩⟩
      have hbad : Kp (badB (Tw.lastC (c.take k)) c[k] = true → vcB c = false) := ⟨fun h => vcB_f fun hv => by
        have h1 := (Tw.vc_take hlt).1 ⟨fun x hx => hv.fm x (List.mem_of_mem_take hx), hv.up.sublist (List.take_sublist _ _)⟩
        have := badB_f.2 ⟨h1.2.2, h1.2.1⟩
        rw [h] at this; cases this⟩
      have e9 : ((c[k].1, c[k].2) : Int × Int) = c[k] := rfl
      rw [e9] at hP
      clear hcell hC hck hno hB e9
      generalize badB (Tw.lastC (c.take k)) c[k] = t at *
      generalize c[k] = x at *
      obtain ⟨n, kk⟩ := x
      dsimp only at hcl0 hcl1 hP hlast
      cases t
      · have hnx : Kp (Tw.Vc (c.take (k + 1))) := ⟨by first | exact hyes.out rfl | exact hyes.out trivial⟩
        clear hyes hbad
        go_wp2_with (refine hP.mono ?_; rintro _ w1 ⟨rfl, hb1, hB1⟩; clear hP)
        rw [hlast.out] at hB1
        exact ⟨⟨k + 1, by omega, by go_num, hnx, hb.trans hb1, hB1⟩, by simp [intOf]; omega⟩
      · have hnx : Kp (vcB c = false) := ⟨by first | exact hbad.out rfl | exact hbad.out trivial⟩
        clear hyes hbad
        go_wp2_with (refine hP.mono ?_; rintro _ w1 ⟨rfl, hb1, hB1⟩; clear hP)
        go_ret
        exact ⟨⟨k, rfl, by rw [hnx.out]; simp⟩, hb.trans hb1⟩
    · have hfin : Kp (vcB c = true) := ⟨vcB_t (by have := hno.out; rwa [List.take_of_length_le (by omega)] at this)⟩
      clear hno hC
      go_wp2
      go_ret
      exact ⟨⟨-1, rfl, by rw [hfin.out]; rfl⟩, hb⟩
theorem conC_any (c : List (Int × Int)) (C : Option Addr) (cap g : Nat) (w : World) (hC : At 2 cdC w g C c) (hn : c.length ≤ cap) (hl : c.length ≤ 9223372036854775807) (hB : Bx w g 3 #[.int .i64 (-1)]) :
    Calls Tryz.prog 62 #[.slice C c.length cap, .func (.func 61) #[] #[.pointer (some ⟨g, 0, none⟩)]] w fun e w' => e = .returned (.bool (!vcB c)) ∧ Below g w w' := by
  have hI := idxC_any c C cap g w hC hn hl hB
  generalize (!vcB c) = r at *
  clear hC hB
  go_enter Tryz.func62, Tryz.ntmps62
  go_wp2_with fail
  refine hI.mono ?_
  rintro _ w1 ⟨⟨i, rfl, hd⟩, hb1⟩
  have hdK := Kp.mk hd
  clear hI hd
  go_wp2
  go_ret
  exact ⟨ret_bool hdK.out, hb1⟩
/-- settings and conditions that are valid -/
noncomputable def valB (l : List Tw.St) (c : List (Int × Int)) : Bool := vaB l && (decide (c.length ≤ 40) && vcB c)
theorem valB_iff {l : List Tw.St} {c : List (Int × Int)} : valB l c = true ↔ Tw.Va l ∧ c.length ≤ 40 ∧ Tw.Vc c := by
  unfold valB
  rw [Bool.and_eq_true, Bool.and_eq_true, vaB_iff, vcB_iff, decide_eq_true_eq]
set_option maxRecDepth 100000 in
set_option maxHeartbeats 4000000 in
theorem wValid_any (l : List Tw.St) (A : Option Addr) (cap : Nat) (c : List (Int × Int)) (C : Option Addr) (ccap : Nat) (w : World) (hA : At 5 stC w w.heap.size A l) (hn : l.length ≤ cap) (hl : l.length ≤ 9223372036854775807) (hC : At 2 cdC w w.heap.size C c) (hcn : c.length ≤ ccap) (hcl : c.length ≤ 9223372036854775807) :
    Calls Tryz.prog 22 #[.slice A l.length cap, .slice C c.length ccap] w fun e w' => e = .returned (.bool (valB l c)) ∧ Below w.heap.size w w' := by
  have hr : Kp (valB l c = (vaB l && (decide (c.length ≤ 40) && vcB c))) := ⟨rfl⟩
  generalize valB l c = r at *
  have hb := bNx w (.cells #[.int .i64 (-1)] 3)
  have B := Bx.mk w 3 #[.int .i64 (-1)]
  have hS := wSet_any l A cap _ (hA.callx hb) hn hl
  have hK := fun (w1 : World) (hb1 : Below (w.alloc (.cells #[.int .i64 (-1)] 3)).heap.size (w.alloc (.cells #[.int .i64 (-1)] 3)) w1) => conC_any c C ccap w.heap.size w1 (hC.below (bCall hb hb1)) hcn hcl (B.call hb1)
  clear hA hC B
  generalize vaB l = r1 at *
  generalize vcB c = r2 at *
  by_cases h40 : c.length ≤ 40
  · have ht : decide ((c.length : Int) ≤ 40) = true := decide_eq_true (by omega)
    rw [decide_eq_true h40] at hr
    clear h40
    cases r1
    · obtain rfl := hr.out
      clear hr hK
      go_enter Tryz.func22, Tryz.ntmps22
      go_wp2_with fail
      refine hS.mono ?_
      rintro _ w1 ⟨rfl, hb1⟩
      clear hS
      go_wp2
      go_ret
      exact ⟨by simp, bCall hb hb1⟩
    · have hr' : Kp (r = r2) := ⟨by rw [hr.out]; simp⟩
      obtain rfl := hr'.out
      clear hr hr'
      go_enter Tryz.func22, Tryz.ntmps22
      go_wp2_with fail
      refine hS.mono ?_
      rintro _ w1 ⟨rfl, hb1⟩
      have hK1 := hK w1 hb1
      clear hS hK
      go_wp2_with fail
      refine hK1.mono ?_
      rintro _ w2 ⟨rfl, hb2⟩
      clear hK1
      go_wp2
      go_ret
      exact ⟨by simp, (bCall hb hb1).trans hb2⟩
  · have ht : decide ((c.length : Int) ≤ 40) = false := decide_eq_false (by omega)
    rw [decide_eq_false h40] at hr
    have hr' : Kp (r = false) := ⟨by rw [hr.out]; simp⟩
    obtain rfl := hr'.out
    clear h40 hr hr' hK
    cases r1
    all_goals
      go_enter Tryz.func22, Tryz.ntmps22
      go_wp2_with fail
      refine hS.mono ?_
      rintro _ w1 ⟨rfl, hb1⟩
      clear hS
      go_wp2
      go_ret
      exact ⟨by simp, bCall hb hb1⟩
end Go.Proofs.YtlldlkjngcgcjaaGreatDoor
namespace Go.Proofs.YtlldlkjngcgcjaaGreatDoor
set_option linter.unusedVariables false
set_option linter.unusedSimpArgs false
open Go.RowKit
/-- every block but rows of the element type e is as it was -/
structure KpE (e : TypeId) (W W' : World) : Prop where
  size : W.heap.size ≤ W'.heap.size
  same : ∀ (b : Nat) (o : Obj), W.heap[b]? = some o → (∀ cs f, o ≠ .cells cs e f) → W'.heap[b]? = some o
theorem KpE.refl (e : TypeId) (W : World) : KpE e W W := ⟨Nat.le_refl _, fun _ _ h _ => h⟩
theorem KpE.trans {e : TypeId} {A B C : World} (h : KpE e A B) (k : KpE e B C) : KpE e A C := ⟨Nat.le_trans h.size k.size, fun b o h1 h2 => k.same b o (h.same b o h1 h2) h2⟩
theorem KpE.bx {e t : TypeId} {W W' : World} {g : Nat} {cs : Array Value} (h : KpE e W W') (ht : t ≠ e) (hB : Bx W g t cs) : Bx W' g t cs := h.same g _ hB (fun cs' f hh => by cases hh; exact ht rfl)
theorem KpE.call {e : TypeId} {W W' : World} (h : Below W.heap.size W W') : KpE e W W' := ⟨h.size, fun b o h1 _ => (h.block b (Array.getElem?_eq_some_iff.1 h1).1).trans h1⟩
theorem KpE.set {e : TypeId} {W : World} {g : Nat} {cs : Array Value} (hB : Bx W g e cs) (i : Nat) (u : Value) : KpE e W (W.setCell ⟨g, i, none⟩ u) :=
  ⟨((Below.refl 0 W).setCell (p := ⟨g, i, none⟩) (Nat.zero_le _) u).size, fun b o h1 h2 => by
    by_cases hb : b = g
    · subst hb
      exact absurd (Option.some.inj (h1.symm.trans hB)) (h2 _ _)
    · exact (Below.heap_setCell W ⟨g, i, none⟩ u b hb).trans h1⟩
theorem KpE.sets {e : TypeId} {g : Nat} : ∀ (vs : List Value) (o : Nat) (W : World) (cs : Array Value), Bx W g e cs → KpE e W (W.setCells g o vs)
  | [], o, W, cs, h => KpE.refl _ _
  | v :: l, o, W, cs, h => (KpE.set h o v).trans (KpE.sets l (o + 1) _ _ (h.set o v))
theorem append_rowE {P : Program} (w : World) (t ty e : TypeId) (i : TypeInfo) (z : Value) (size B n m : Nat) (flat news : List Value) (v x : Value) (ht : P.underlying t = some (.slice e)) (hi : P.info? e = some i) (hz : i.zero = some z)
    (hsize : i.size = size) (hzs : z.cells.size = size) (hv : RowZ e size B n flat v w) (hB : B ≤ w.heap.size) (hs : Src P size t x m news w) (hm : 0 < m) (h63 : n + m ≤ maxLen) (hb : (n + m) * i.bytes ≤ 140737488355328) :
    ∃ v' w', (Builtin.append_ #[t, t] ty #[v, x]).run P w = .ok v' w' ∧ Below B w w' ∧ KpE e w w' ∧ RowZ e size B (n + m) (flat ++ news) v' w' := by
  rcases hv with ⟨rfl, rfl, rfl⟩ | ⟨cap, hv, hcm⟩
  · subst hsize
    have hnl := hs.newsLen
    have hold : (Builtin.firstCells i.size 0 (.slice none 0 0)).run P w.drew = .ok ([] : List Value).toArray w.drew := by simp [Builtin.firstCells, loadCells, loadCellsFrom]
    have hrun := run_append_grow_src (P := P) w t t ty e i z ht hi hz none 0 0 [] hold x m news hs (by omega) (by simp only [maxLen] at h63; omega) (growslice_fits (by omega) hb)
    have hge := grownCap_ge w (0 + m) 0 e
    refine ⟨_, _, hrun, ((Below.refl B w).drew).alloc hB _, KpE.call (((Below.refl w.heap.size w).drew).alloc (Nat.le_refl _) _), .inr ⟨_, ⟨w.heap.size, _, rfl, hB, hge, Bx.mk w.drew e _, ?_, ?_⟩, grownCap_le_maxLen w (0 + m) 0 e h63⟩⟩
    · rw [Array.size_append, List.size_toArray, List.length_append, List.length_nil, hnl, size_zeroCells, hzs, Nat.zero_add, ← Nat.add_mul]
      congr 1; omega
    · rw [Array.toList_append, List.take_append_of_le_length (by simp [hnl, Nat.add_mul])]
      rw [List.take_of_length_le (by simp [hnl, Nat.add_mul])]
  · obtain ⟨g, cells, rfl, hg, hnc, hbx, hcs, hfl⟩ := hv
    subst hsize
    have hnl := hs.newsLen
    by_cases hroom : n + m ≤ cap
    · have hle : n * i.size + news.length ≤ cells.size := by rw [hnl, hcs, ← Nat.add_mul]; exact Nat.mul_le_mul_right _ hroom
      have hrun := run_append_room_src (P := P) w t t ty e i ht hi g 0 n cap x m news hs hroom (fun j hj => by
        rw [hbx.cell (0 + n * i.size + j) (v := cells[0 + n * i.size + j]'(by omega)) (by simp)]; rfl) (fun j _ => hbx.frozen _)
      obtain ⟨cs', h1, h2, h3⟩ := hbx.setCells news (0 + n * i.size) w cells (by omega)
      refine ⟨_, _, hrun, ?_, KpE.sets _ _ _ _ hbx, .inr ⟨cap, ⟨g, cs', rfl, hg, hroom, h1, by rw [h2, hcs], ?_⟩, hcm⟩⟩
      · clear hrun h1 h2 h3 hs
        generalize 0 + n * i.size = o
        have : ∀ (vs : List Value) (o : Nat) (w' : World), Below B w w' → Below B w (w'.setCells g o vs) := by
          intro vs
          induction vs with
          | nil => intro o w' h; exact h
          | cons a l ih => intro o w' h; exact ih _ _ (h.setCell hg _)
        exact this news o w (Below.refl _ _)
      · rw [show (n + m) * i.size = 0 + n * i.size + news.length by rw [Nat.add_mul, hnl]; omega, h3, Nat.zero_add, hfl]
    · have hfl' : flat.length = n * i.size := by
        rw [← hfl, List.length_take, Array.length_toList, hcs]
        exact Nat.min_eq_left (Nat.mul_le_mul_right _ hnc)
      have hold : (Builtin.firstCells i.size n (.slice (some ⟨g, 0, none⟩) n cap)).run P w.drew = .ok flat.toArray w.drew :=
        run_firstCells_some w.drew i.size n ⟨g, 0, none⟩ n cap flat hfl' fun j u hu => by
          have hj : cells[j]? = some u := by
            rw [← hfl, List.getElem?_take] at hu
            split at hu
            · simpa using hu
            · cases hu
          rw [Addr.add_lit, Nat.zero_add]
          exact (show Bx w.drew g e cells from hbx).cell j hj
      have hrun := run_append_grow_src (P := P) w t t ty e i z ht hi hz (some ⟨g, 0, none⟩) n cap flat hold x m news hs (by omega) (by simp only [maxLen] at h63; omega) (growslice_fits (by omega) hb)
      have hge := grownCap_ge w (n + m) cap e
      refine ⟨_, _, hrun, ((Below.refl B w).drew).alloc hB _, KpE.call (((Below.refl w.heap.size w).drew).alloc (Nat.le_refl _) _), .inr ⟨_, ⟨w.heap.size, _, rfl, hB, hge, Bx.mk w.drew e _, ?_, ?_⟩, grownCap_le_maxLen w (n + m) cap e h63⟩⟩
      · rw [Array.size_append, List.size_toArray, List.length_append, hfl', hnl, size_zeroCells, hzs, ← Nat.add_mul, ← Nat.add_mul]
        congr 1; omega
      · rw [Array.toList_append, List.take_append_of_le_length (by simp [hfl', hnl, Nat.add_mul])]
        rw [List.take_of_length_le (by simp [hfl', hnl, Nat.add_mul])]
theorem wpList_append_rowE {P : Program} {w : World} {ops : Array Oper} {rest : List Oper} {o : Oper} {a : Act} {Q : Exit → Act → World → Prop} (hgd : o.guard = none) (s y : Operand) (t e : TypeId) (ho : o.op = .call { callee := .builtin .append, args := #[s, y], argTypes := #[t, t] })
    (i : TypeInfo) (z : Value) (size B n m : Nat) (flat news : List Value) (v x : Value) (ht : P.underlying t = some (.slice e)) (hi : P.info? e = some i) (hz : i.zero = some z)
    (hsize : i.size = size) (hzs : z.cells.size = size) (hes : a.eval s = v) (hey : a.eval y = x) (hv : RowZ e size B n flat v w) (hB : B ≤ w.heap.size) (hs : Src P size t x m news w) (hm : 0 < m) (h63 : n + m ≤ maxLen) (hb : (n + m) * i.bytes ≤ 140737488355328)
    (h : ∀ v' w', Below B w w' → KpE e w w' → RowZ e size B (n + m) (flat ++ news) v' w' → wpList P ops Q rest (a.put o.dst v') w') : wpList P ops Q (o :: rest) a w := by
  obtain ⟨v', w', hr, h1, h2, h3⟩ := append_rowE (P := P) w t o.type e i z size B n m flat news v x ht hi hz hsize hzs hv hB hs hm h63 hb
  refine wpList_plain hgd fun _ hK => ?_
  unfold Oper.wp execOp
  simp only [ho, resolve, invoke, builtin, Sem.run_bind, Sem.run_pure, Result.andThen_ok, List.map_toArray, List.map_cons, List.map_nil, hes, hey, hr]
  exact hK _ _ (h v' w' h1 h2 h3)
/-- one cell of a slice of one's own is set -/
theorem RowC.setAt {e : TypeId} {size B cap n : Nat} {flat : List Value} {g : Nat} {w : World} (h : RowC e size B cap n flat (.slice (some ⟨g, 0, none⟩) n cap) w) (i : Nat) (u : Value) :
    RowC e size B cap n (flat.set i u) (.slice (some ⟨g, 0, none⟩) n cap) (w.setCell ⟨g, i, none⟩ u) := by
  obtain ⟨g', cells, hv, hg, hnc, hbx, hcs, hfl⟩ := h
  cases hv
  exact ⟨g, _, rfl, hg, hnc, hbx.set i u, by simp [hcs], by rw [← hfl]; simp [List.take_set]⟩
end Go.Proofs.YtlldlkjngcgcjaaGreatDoor
namespace Go.Proofs.YtlldlkjngcgcjaaGreatDoor
set_option linter.unusedVariables false
set_option linter.unusedSimpArgs false
open Go.RowKit
/-- every block but that of the slice is as it was; the new slice lies in the same block, or in a new one -/
structure KpV (v v' : Value) (W W' : World) : Prop where
  size : W.heap.size ≤ W'.heap.size
  same : ∀ (b : Nat) (o : Obj), W.heap[b]? = some o → (∀ n c, v ≠ .slice (some ⟨b, 0, none⟩) n c) → W'.heap[b]? = some o
  at_ : ∃ g n c, v' = .slice (some ⟨g, 0, none⟩) n c ∧ (W.heap.size ≤ g ∨ ∃ n c, v = .slice (some ⟨g, 0, none⟩) n c)
theorem KpV.bx {v v' : Value} {t : TypeId} {W W' : World} {g : Nat} {cs : Array Value} (h : KpV v v' W W') (hB : Bx W g t cs) (hne : ∀ n c, v ≠ .slice (some ⟨g, 0, none⟩) n c) : Bx W' g t cs := h.same g _ hB hne
theorem KpV.grow {v v' : Value} {W W' : World} (hv : ∃ g n c, v' = .slice (some ⟨g, 0, none⟩) n c ∧ W.heap.size ≤ g) (h : Below W.heap.size W W') : KpV v v' W W' := by
  obtain ⟨g, n, c, e, hg⟩ := hv
  exact ⟨h.size, fun b o h1 _ => (h.block b (Array.getElem?_eq_some_iff.1 h1).1).trans h1, g, n, c, e, .inl hg⟩
theorem heap_setCells {g b : Nat} (hb : b ≠ g) : ∀ (vs : List Value) (o : Nat) (W : World), (W.setCells g o vs).heap[b]? = W.heap[b]?
  | [], o, W => rfl
  | v :: l, o, W => (heap_setCells hb l (o + 1) _).trans (Below.heap_setCell W ⟨g, o, none⟩ v b hb)
theorem size_setCells {g : Nat} : ∀ (vs : List Value) (o : Nat) (W : World), W.heap.size ≤ (W.setCells g o vs).heap.size
  | [], o, W => Nat.le_refl _
  | v :: l, o, W => Nat.le_trans ((Below.refl 0 W).setCell (p := ⟨g, o, none⟩) (Nat.zero_le _) v).size (size_setCells l (o + 1) _)
theorem KpV.sets {g n c n' c' : Nat} (vs : List Value) (o : Nat) (W : World) : KpV (.slice (some ⟨g, 0, none⟩) n c) (.slice (some ⟨g, 0, none⟩) n' c') W (W.setCells g o vs) :=
  ⟨size_setCells vs o W, fun b ob h1 h2 => (heap_setCells (fun e => h2 n c (by rw [e])) vs o W).trans h1, g, n', c', rfl, .inr ⟨n, c, rfl⟩⟩
theorem append_rowF {P : Program} (w : World) (t ty e : TypeId) (i : TypeInfo) (z : Value) (size B n m : Nat) (flat news : List Value) (v x : Value) (ht : P.underlying t = some (.slice e)) (hi : P.info? e = some i) (hz : i.zero = some z)
    (hsize : i.size = size) (hzs : z.cells.size = size) (hv : RowZ e size B n flat v w) (hB : B ≤ w.heap.size) (hs : Src P size t x m news w) (hm : 0 < m) (h63 : n + m ≤ maxLen) (hb : (n + m) * i.bytes ≤ 140737488355328) :
    ∃ v' w', (Builtin.append_ #[t, t] ty #[v, x]).run P w = .ok v' w' ∧ Below B w w' ∧ KpV v v' w w' ∧ RowZ e size B (n + m) (flat ++ news) v' w' := by
  rcases hv with ⟨rfl, rfl, rfl⟩ | ⟨cap, hv, hcm⟩
  · subst hsize
    have hnl := hs.newsLen
    have hold : (Builtin.firstCells i.size 0 (.slice none 0 0)).run P w.drew = .ok ([] : List Value).toArray w.drew := by simp [Builtin.firstCells, loadCells, loadCellsFrom]
    have hrun := run_append_grow_src (P := P) w t t ty e i z ht hi hz none 0 0 [] hold x m news hs (by omega) (by simp only [maxLen] at h63; omega) (growslice_fits (by omega) hb)
    have hge := grownCap_ge w (0 + m) 0 e
    refine ⟨_, _, hrun, ((Below.refl B w).drew).alloc hB _, KpV.grow ⟨_, _, _, rfl, Nat.le_refl _⟩ (((Below.refl w.heap.size w).drew).alloc (Nat.le_refl _) _), .inr ⟨_, ⟨w.heap.size, _, rfl, hB, hge, Bx.mk w.drew e _, ?_, ?_⟩, grownCap_le_maxLen w (0 + m) 0 e h63⟩⟩
    · rw [Array.size_append, List.size_toArray, List.length_append, List.length_nil, hnl, size_zeroCells, hzs, Nat.zero_add, ← Nat.add_mul]
      congr 1; omega
    · rw [Array.toList_append, List.take_append_of_le_length (by simp [hnl, Nat.add_mul])]
      rw [List.take_of_length_le (by simp [hnl, Nat.add_mul])]
  · obtain ⟨g, cells, rfl, hg, hnc, hbx, hcs, hfl⟩ := hv
    subst hsize
    have hnl := hs.newsLen
    by_cases hroom : n + m ≤ cap
    · have hle : n * i.size + news.length ≤ cells.size := by rw [hnl, hcs, ← Nat.add_mul]; exact Nat.mul_le_mul_right _ hroom
      have hrun := run_append_room_src (P := P) w t t ty e i ht hi g 0 n cap x m news hs hroom (fun j hj => by
        rw [hbx.cell (0 + n * i.size + j) (v := cells[0 + n * i.size + j]'(by omega)) (by simp)]; rfl) (fun j _ => hbx.frozen _)
      obtain ⟨cs', h1, h2, h3⟩ := hbx.setCells news (0 + n * i.size) w cells (by omega)
      refine ⟨_, _, hrun, ?_, KpV.sets _ _ _, .inr ⟨cap, ⟨g, cs', rfl, hg, hroom, h1, by rw [h2, hcs], ?_⟩, hcm⟩⟩
      · clear hrun h1 h2 h3 hs
        generalize 0 + n * i.size = o
        have : ∀ (vs : List Value) (o : Nat) (w' : World), Below B w w' → Below B w (w'.setCells g o vs) := by
          intro vs
          induction vs with
          | nil => intro o w' h; exact h
          | cons a l ih => intro o w' h; exact ih _ _ (h.setCell hg _)
        exact this news o w (Below.refl _ _)
      · rw [show (n + m) * i.size = 0 + n * i.size + news.length by rw [Nat.add_mul, hnl]; omega, h3, Nat.zero_add, hfl]
    · have hfl' : flat.length = n * i.size := by
        rw [← hfl, List.length_take, Array.length_toList, hcs]
        exact Nat.min_eq_left (Nat.mul_le_mul_right _ hnc)
      have hold : (Builtin.firstCells i.size n (.slice (some ⟨g, 0, none⟩) n cap)).run P w.drew = .ok flat.toArray w.drew :=
        run_firstCells_some w.drew i.size n ⟨g, 0, none⟩ n cap flat hfl' fun j u hu => by
          have hj : cells[j]? = some u := by
            rw [← hfl, List.getElem?_take] at hu
            split at hu
            · simpa using hu
            · cases hu
          rw [Addr.add_lit, Nat.zero_add]
          exact (show Bx w.drew g e cells from hbx).cell j hj
      have hrun := run_append_grow_src (P := P) w t t ty e i z ht hi hz (some ⟨g, 0, none⟩) n cap flat hold x m news hs (by omega) (by simp only [maxLen] at h63; omega) (growslice_fits (by omega) hb)
      have hge := grownCap_ge w (n + m) cap e
      refine ⟨_, _, hrun, ((Below.refl B w).drew).alloc hB _, KpV.grow ⟨_, _, _, rfl, Nat.le_refl _⟩ (((Below.refl w.heap.size w).drew).alloc (Nat.le_refl _) _), .inr ⟨_, ⟨w.heap.size, _, rfl, hB, hge, Bx.mk w.drew e _, ?_, ?_⟩, grownCap_le_maxLen w (n + m) cap e h63⟩⟩
      · rw [Array.size_append, List.size_toArray, List.length_append, hfl', hnl, size_zeroCells, hzs, ← Nat.add_mul, ← Nat.add_mul]
        congr 1; omega
      · rw [Array.toList_append, List.take_append_of_le_length (by simp [hfl', hnl, Nat.add_mul])]
        rw [List.take_of_length_le (by simp [hfl', hnl, Nat.add_mul])]
theorem wpList_append_rowF {P : Program} {w : World} {ops : Array Oper} {rest : List Oper} {o : Oper} {a : Act} {Q : Exit → Act → World → Prop} (hgd : o.guard = none) (s y : Operand) (t e : TypeId) (ho : o.op = .call { callee := .builtin .append, args := #[s, y], argTypes := #[t, t] })
    (i : TypeInfo) (z : Value) (size B n m : Nat) (flat news : List Value) (v x : Value) (ht : P.underlying t = some (.slice e)) (hi : P.info? e = some i) (hz : i.zero = some z)
    (hsize : i.size = size) (hzs : z.cells.size = size) (hes : a.eval s = v) (hey : a.eval y = x) (hv : RowZ e size B n flat v w) (hB : B ≤ w.heap.size) (hs : Src P size t x m news w) (hm : 0 < m) (h63 : n + m ≤ maxLen) (hb : (n + m) * i.bytes ≤ 140737488355328)
    (h : ∀ v' w', Below B w w' → KpV v v' w w' → RowZ e size B (n + m) (flat ++ news) v' w' → wpList P ops Q rest (a.put o.dst v') w') : wpList P ops Q (o :: rest) a w := by
  obtain ⟨v', w', hr, h1, h2, h3⟩ := append_rowF (P := P) w t o.type e i z size B n m flat news v x ht hi hz hsize hzs hv hB hs hm h63 hb
  refine wpList_plain hgd fun _ hK => ?_
  unfold Oper.wp execOp
  simp only [ho, resolve, invoke, builtin, Sem.run_bind, Sem.run_pure, Result.andThen_ok, List.map_toArray, List.map_cons, List.map_nil, hes, hey, hr]
  exact hK _ _ (h v' w' h1 h2 h3)
end Go.Proofs.YtlldlkjngcgcjaaGreatDoor
namespace Go.Proofs.YtlldlkjngcgcjaaGreatDoor
set_option linter.unusedVariables false
open Go.RowKit
/-- what is shown of each operation of the head -/
def UsersG (P : Program) (ops : Array Oper) (ps : List (Value → World → Prop)) (w0 : World) (a0 : Act) : List (Option Tmp) → List Oper → List (Value → World → Prop) → Prop
  | pre, o :: l, q :: qs => (∀ (vs : Nat → Value) (w : World), Below w0.heap.size w0 w → (∀ j, depB o j = true → rel ps j (vs j) w) →
      wpList P ops (fun e a' w' => e = .normal ∧ a'.defers = a0.defers ∧ Below w.heap.size w w' ∧ q (dstV o a') w') [o] (putD vs 0 pre a0) w) ∧ UsersG P ops ps w0 a0 (pre ++ [o.dst]) l qs
  | _, _, _ => True
theorem UsersG.rg {P : Program} {ps : List (Value → World → Prop)} {w0 : World} {a0 : Act} {L : List Oper} {n : Nat} (hnp : n ≤ ps.length) : ∀ (l : List Oper) (k : Nat), (∀ j, l[j]? = (L.take n)[k + j]?) → UsersG P L.toArray ps w0 a0 ((L.take k).map (·.dst)) l (ps.drop k) → RS.UsersRG (fun w w' => Below w.heap.size w w') (fun _ => none) P L.toArray (fun i _ v w => rel ps i v w) w0 a0 k l
  | [], _, _, _ => trivial
  | o :: l, k, hl, h => by
    have h0 : (L.take n)[k]? = some o := by simpa using (hl 0).symm
    obtain ⟨hkn, hLo⟩ := take_get' h0
    have hkp : k < ps.length := by omega
    rw [List.drop_eq_getElem_cons hkp] at h
    refine ⟨fun vs w hb hE => ?_, UsersG.rg hnp l (k + 1) (fun j => by have := hl (j + 1); simpa [Nat.add_assoc, Nat.add_comm 1 j] using this) ?_⟩
    · have hu := h.1 vs w hb fun j hj => by
        obtain ⟨e, he, hej⟩ := List.any_eq_true.1 hj
        simp only [Bool.and_eq_true, beq_iff_eq] at hej
        have := RS.AllE_get _ hE e he hej.1
        rwa [hej.2] at this
      have hfr : seen L.toArray vs k a0 = putD vs 0 ((L.take k).map (·.dst)) a0 := putAll_D vs _ 0 a0
      rw [hfr]
      have hq : ps[k] = ps.getD k Anyv := by simp [List.getD_eq_getElem?_getD, hkp]
      rw [hq] at hu
      exact hu
    · have h2 := h.2
      have e1 : (L.take k).map (·.dst) ++ [o.dst] = (L.take (k + 1)).map (·.dst) := by
        rw [List.take_add_one, hLo]; simp
      rw [e1] at h2
      exact h2
theorem any_region_rglG {P : Program} {l : List Oper} {Q : Exit → Act → World → Prop} {a0 : Act} {w0 : World} (ps : List (Value → World → Prop)) (n sz : Nat) (hnp : ps.length = n) (hsz : a0.tmps.size = sz)
    (hB : (okRG l.toArray sz && looksG l.toArray n && (decide (l.length ≤ n) || (Region.sinkB .any l.toArray n && Region.chainB .any l.toArray n)) && decide (n ≤ l.length) && Region.seqB .any l.toArray (l.length - n) n ((List.range l.length).map fun i => decide (i < n)).toArray) = true)
    (hst : AllS ps) (hsteps : UsersG P l.toArray ps w0 a0 [] (l.take n) ps)
    (hfin : ∀ vs w', Below w0.heap.size w0 w' → AllR vs w' 0 ps → wpList P l.toArray Q (l.drop n) (putD vs 0 ((l.take n).map (·.dst)) a0) w') : wpAny P .any l.toArray Q l.toArray.size (Array.replicate l.toArray.size false) a0 { w0 with drawn := w0.drawn + 1 } := by
  subst hnp hsz
  refine RS.any_region_rg cls_Bl (fun _ => none) ps.length (fun i _ v w => rel ps i v w) hB (fun _ _ _ _ h => by cases h) (fun i _ v w w' h hb => AllS.get ps i hst v w w' h hb) (UsersG.rg (Nat.le_refl _) (l.take ps.length) 0 (fun j => by simp) hsteps) fun vs w' hb hR => by rw [putAll_D]; exact hfin vs w' hb (AllR_of ps 0 fun i hi => by rw [Nat.zero_add]; exact hR i hi)
theorem wp_region_rglG {P : Program} {id : Nat} {l : List Oper} {Q : Exit → Act → World → Prop} {a0 : Act} {w0 : World} (ps : List (Value → World → Prop)) (n sz : Nat) (hm : P.follows .mixedOrders = true) (hnp : ps.length = n) (hsz : a0.tmps.size = sz)
    (hB : (okRG l.toArray sz && looksG l.toArray n && (decide (l.length ≤ n) || (Region.sinkB .any l.toArray n && Region.chainB .any l.toArray n)) && decide (n ≤ l.length) && Region.seqB .any l.toArray (l.length - n) n ((List.range l.length).map fun i => decide (i < n)).toArray) = true)
    (hst : AllS ps) (hsteps : UsersG P l.toArray ps w0 a0 [] (l.take n) ps)
    (hfin : ∀ vs w', Below w0.heap.size w0 w' → AllR vs w' 0 ps → wpList P l.toArray Q (l.drop n) (putD vs 0 ((l.take n).map (·.dst)) a0) w') : (Code.region id l.toArray true).wp P Q a0 w0 :=
  wp_region_any hm (any_region_rglG ps n sz hnp hsz hB hst hsteps hfin)
end Go.Proofs.YtlldlkjngcgcjaaGreatDoor
namespace Go.Proofs.YtlldlkjngcgcjaaGreatDoor.RS
set_option linter.unusedVariables false
open Go.RowKit
abbrev Rl := Value → Value → World → Prop
def Stab (K : World → World → Prop) (p : Rl) : Prop := ∀ x v w w', p x v w → K w w' → p x v w'
def Eqv (u : Value) : Rl := fun _ v _ => v = u
def Anyv : Rl := fun _ _ _ => True
theorem stab_eqv {K : World → World → Prop} (u : Value) : Stab K (Eqv u) := fun _ _ _ _ h _ => h
theorem stab_any {K : World → World → Prop} : Stab K Anyv := fun _ _ _ _ _ _ => trivial
def rel (ps : List Rl) (i : Nat) : Rl := ps.getD i Anyv
def AllS (K : World → World → Prop) : List Rl → Prop
  | [] => True
  | p :: l => Stab K p ∧ AllS K l
def AllR (ks : Nat → Option Nat) (vs : Nat → Value) (w : World) : Nat → List Rl → Prop
  | _, [] => True
  | k, p :: l => p (argV ks vs k) (vs k) w ∧ AllR ks vs w (k + 1) l
theorem AllS.get {K : World → World → Prop} : ∀ (ps : List Rl) (i : Nat), AllS K ps → Stab K (ps.getD i Anyv)
  | [], i, _ => by simpa using stab_any
  | p :: l, 0, h => by simpa using h.1
  | p :: l, i + 1, h => by simpa using AllS.get l i h.2
theorem AllR_of {ks : Nat → Option Nat} {vs : Nat → Value} {w : World} : ∀ (ps : List Rl) (k : Nat), (∀ i, i < ps.length → (ps.getD i Anyv) (argV ks vs (k + i)) (vs (k + i)) w) → AllR ks vs w k ps
  | [], _, _ => trivial
  | p :: l, k, h => ⟨by simpa using h 0 (by simp), AllR_of l (k + 1) fun i hi => by
      have := h (i + 1) (by simp; omega)
      rw [show k + 1 + i = k + (i + 1) by omega]; simpa using this⟩
def depB (o : Oper) (j : Nat) : Bool := o.after.toList.any fun e => Region.binds .any e && e.on == j
def putD (vs : Nat → Value) : Nat → List (Option Tmp) → Act → Act
  | _, [], a => a
  | k, d :: rest, a => putD vs (k + 1) rest (a.put d (vs k))
theorem putAll_D (vs : Nat → Value) : ∀ (l : List Oper) (k : Nat) (a : Act), putAll vs k l a = putD vs k (l.map (·.dst)) a
  | [], _, _ => rfl
  | o :: l, k, a => putAll_D vs l (k + 1) _
/-- what is shown of each operation of the head -/
def UsersG (K : World → World → Prop) (ks : Nat → Option Nat) (P : Program) (ops : Array Oper) (ps : List Rl) (w0 : World) (a0 : Act) : Nat → List (Option Tmp) → List Oper → List Rl → Prop
  | k, pre, o :: l, q :: qs => (∀ (vs : Nat → Value) (w : World), K w0 w → (∀ j, depB o j = true → rel ps j (argV ks vs j) (vs j) w) →
      wpList P ops (fun e a' w' => e = .normal ∧ a'.defers = a0.defers ∧ K w w' ∧ q (argV ks vs k) (dstV o a') w') [o] (putD vs 0 pre a0) w) ∧ UsersG K ks P ops ps w0 a0 (k + 1) (pre ++ [o.dst]) l qs
  | _, _, _, _ => True
theorem UsersG.rg {K : World → World → Prop} {ks : Nat → Option Nat} {P : Program} {ps : List Rl} {w0 : World} {a0 : Act} {L : List Oper} {n : Nat} (hnp : n ≤ ps.length) : ∀ (l : List Oper) (k : Nat), (∀ j, l[j]? = (L.take n)[k + j]?) → UsersG K ks P L.toArray ps w0 a0 k ((L.take k).map (·.dst)) l (ps.drop k) → UsersRG K ks P L.toArray (rel ps) w0 a0 k l
  | [], _, _, _ => trivial
  | o :: l, k, hl, h => by
    have h0 : (L.take n)[k]? = some o := by simpa using (hl 0).symm
    obtain ⟨hkn, hLo⟩ := take_get' h0
    have hkp : k < ps.length := by omega
    rw [List.drop_eq_getElem_cons hkp] at h
    refine ⟨fun vs w hb hE => ?_, UsersG.rg hnp l (k + 1) (fun j => by have := hl (j + 1); simpa [Nat.add_assoc, Nat.add_comm 1 j] using this) ?_⟩
    · have hu := h.1 vs w hb fun j hj => by
        obtain ⟨e, he, hej⟩ := List.any_eq_true.1 hj
        simp only [Bool.and_eq_true, beq_iff_eq] at hej
        have := AllE_get _ hE e he hej.1
        rwa [hej.2] at this
      have hfr : seen L.toArray vs k a0 = putD vs 0 ((L.take k).map (·.dst)) a0 := putAll_D vs _ 0 a0
      rw [hfr]
      have hq : ps[k] = rel ps k := by simp [rel, List.getD_eq_getElem?_getD, hkp]
      rw [hq] at hu
      exact hu
    · have h2 := h.2
      have e1 : (L.take k).map (·.dst) ++ [o.dst] = (L.take (k + 1)).map (·.dst) := by
        rw [List.take_add_one, hLo]; simp
      rw [e1] at h2
      exact h2
/-- which operation's value a relation names -/
def ksOf (l : List (Nat × Nat)) (i : Nat) : Option Nat := (l.find? (·.1 == i)).map (·.2)
def ksB (L : List Oper) (l : List (Nat × Nat)) : Bool := l.all fun p => match L[p.1]? with | some o => depB o p.2 | none => true
theorem ksB_spec {L : List Oper} {l : List (Nat × Nat)} (h : ksB L l = true) (i : Nat) (o : Oper) (k : Nat) (ho : L.toArray[i]? = some o) (hk : ksOf l i = some k) : ∃ e ∈ o.after, Region.binds .any e = true ∧ e.on = k := by
  unfold ksOf at hk
  cases hf : l.find? (·.1 == i) with
  | none => rw [hf] at hk; cases hk
  | some p =>
    rw [hf] at hk
    have hp := List.find?_some hf
    have hm := List.mem_of_find?_eq_some hf
    have h1 := List.all_eq_true.1 h p hm
    have e1 : p.1 = i := by simpa using hp
    have e2 : p.2 = k := by simpa using hk
    have ho' : L[i]? = some o := by simpa using ho
    rw [e1, ho'] at h1
    simp only [e2] at h1
    obtain ⟨e, he, hej⟩ := List.any_eq_true.1 h1
    simp only [Bool.and_eq_true, beq_iff_eq] at hej
    exact ⟨e, by simpa using he, hej.1, hej.2⟩
theorem any_region_rgl {K : World → World → Prop} (hK : Cls K) (kl : List (Nat × Nat)) {P : Program} {l : List Oper} {Q : Exit → Act → World → Prop} {a0 : Act} {w0 : World} (ps : List Rl) (n sz : Nat) (hnp : ps.length = n) (hsz : a0.tmps.size = sz)
    (hB : (okRG l.toArray sz && looksG l.toArray n && (decide (l.length ≤ n) || (Region.sinkB .any l.toArray n && Region.chainB .any l.toArray n)) && decide (n ≤ l.length) && Region.seqB .any l.toArray (l.length - n) n ((List.range l.length).map fun i => decide (i < n)).toArray) = true)
    (hkl : ksB l kl = true) (hst : AllS K ps) (hsteps : UsersG K (ksOf kl) P l.toArray ps w0 a0 0 [] (l.take n) ps)
    (hfin : ∀ vs w', K w0 w' → AllR (ksOf kl) vs w' 0 ps → wpList P l.toArray Q (l.drop n) (putD vs 0 ((l.take n).map (·.dst)) a0) w') : wpAny P .any l.toArray Q l.toArray.size (Array.replicate l.toArray.size false) a0 { w0 with drawn := w0.drawn + 1 } := by
  subst hnp hsz
  refine any_region_rg hK (ksOf kl) ps.length (rel ps) hB (ksB_spec hkl) (fun i x v w w' h hb => AllS.get ps i hst x v w w' h hb) (UsersG.rg (Nat.le_refl _) (l.take ps.length) 0 (fun j => by simp) hsteps) fun vs w' hb hR => by rw [putAll_D]; exact hfin vs w' hb (AllR_of ps 0 fun i hi => by rw [Nat.zero_add]; exact hR i hi)
theorem wp_region_rgl {K : World → World → Prop} (hK : Cls K) (kl : List (Nat × Nat)) {P : Program} {id : Nat} {l : List Oper} {Q : Exit → Act → World → Prop} {a0 : Act} {w0 : World} (ps : List Rl) (n sz : Nat) (hm : P.follows .mixedOrders = true) (hnp : ps.length = n) (hsz : a0.tmps.size = sz)
    (hB : (okRG l.toArray sz && looksG l.toArray n && (decide (l.length ≤ n) || (Region.sinkB .any l.toArray n && Region.chainB .any l.toArray n)) && decide (n ≤ l.length) && Region.seqB .any l.toArray (l.length - n) n ((List.range l.length).map fun i => decide (i < n)).toArray) = true)
    (hkl : ksB l kl = true) (hst : AllS K ps) (hsteps : UsersG K (ksOf kl) P l.toArray ps w0 a0 0 [] (l.take n) ps)
    (hfin : ∀ vs w', K w0 w' → AllR (ksOf kl) vs w' 0 ps → wpList P l.toArray Q (l.drop n) (putD vs 0 ((l.take n).map (·.dst)) a0) w') : (Code.region id l.toArray true).wp P Q a0 w0 :=
  wp_region_any hm (any_region_rgl hK kl ps n sz hnp hsz hB hkl hst hsteps hfin)
/-! ### one store into memory that the region makes -/
/-- below B nothing changes; a block from B on that is there stays, or holds at last what is stored -/
def KF (B : Nat) (t : TypeId) (cs : Array Value) (w w' : World) : Prop := Below B w w' ∧ w.heap.size ≤ w'.heap.size ∧ ∀ g c, B ≤ g → Bx w g t c → c.size = cs.size → Bx w' g t c ∨ Bx w' g t cs
theorem KF.of {B : Nat} {t : TypeId} {cs : Array Value} {w w' : World} (hB : B ≤ w.heap.size) (h : Below w.heap.size w w') : KF B t cs w w' := ⟨h.mono hB, h.size, fun g c _ hb _ => .inl (hb.call h)⟩
theorem cls_KF (B : Nat) (t : TypeId) (cs : Array Value) : Cls (KF B t cs) :=
  ⟨fun w => ⟨Below.refl _ _, Nat.le_refl _, fun g c _ h _ => .inl h⟩,
   fun h1 h2 => ⟨h1.1.trans h2.1, Nat.le_trans h1.2.1 h2.2.1, fun g c hg h hc => by
     rcases h1.2.2 g c hg h hc with h3 | h3
     · exact h2.2.2 g c hg h3 hc
     · rcases h2.2.2 g cs hg h3 rfl with h4 | h4 <;> exact .inr h4⟩,
   fun w n => ⟨⟨rfl, rfl, rfl, Nat.le_refl _, fun _ _ => rfl⟩, Nat.le_refl _, fun g c _ h _ => .inl h⟩⟩
/-- a pointer to a block of one's own -/
def PtrR (B : Nat) (t : TypeId) (cs : Array Value) : Rl := fun _ v w => ∃ g c, v = .pointer (some ⟨g, 0, none⟩) ∧ B ≤ g ∧ c.size = cs.size ∧ Bx w g t c
/-- what is stored lies where the named pointer points -/
def StoR (B : Nat) (t : TypeId) (cs : Array Value) : Rl := fun x _ w => ∃ g, x = .pointer (some ⟨g, 0, none⟩) ∧ B ≤ g ∧ Bx w g t cs
theorem stab_ptr (B : Nat) (t : TypeId) (cs : Array Value) : Stab (KF B t cs) (PtrR B t cs) := fun x v w w' ⟨g, c, e, hg, hc, hb⟩ h => by
  rcases h.2.2 g c hg hb hc with h1 | h1
  · exact ⟨g, c, e, hg, hc, h1⟩
  · exact ⟨g, cs, e, hg, rfl, h1⟩
theorem stab_sto (B : Nat) (t : TypeId) (cs : Array Value) : Stab (KF B t cs) (StoR B t cs) := fun x v w w' ⟨g, e, hg, hb⟩ h => by
  rcases h.2.2 g cs hg hb rfl with h1 | h1 <;> exact ⟨g, e, hg, h1⟩
end Go.Proofs.YtlldlkjngcgcjaaGreatDoor.RS

import Derived.Test.YtohgjenaclfegaaGreatDoorChecked
import Derived.WalkKit
import Derived.Lib.Hide
import Derived.Lib.Strings
import Derived.WalkSpells
import Derived.WalkLawsBesides
import Derived.Handy
import Derived.Outline
import Derived.Laws.BytesString
import Derived.Lib.QuietBelow
import Derived.BigQuiet
import Derived.StillTail
import Derived.Deep.DeepFit
import Derived.OwnWalk
import Derived.Laws.OwnMore
set_option linter.unusedVariables false
set_option linter.unusedSimpArgs false
set_option maxRecDepth 100000
set_option maxHeartbeats 8000000
namespace Go.Proofs.YtohgjenaclfegaaGreatDoor
open Go.RowKit
abbrev bP (f:FuncId) (args:Array Value) (w:World) (v:Value):Prop:=Calls Tryz.prog f args w fun e w'=>e=.returned v/\Below w.heap.size w w'
theorem UG (a b:List UInt8):((⟨a.toArray⟩:ByteArray)++⟨b.toArray⟩)=⟨(a++b).toArray⟩:=by
 apply ByteArray.ext
 simp
theorem UF (l:List UInt8) (a b:Nat):(⟨l.toArray⟩:ByteArray).extract a b=⟨((l.drop a).take (b-a)).toArray⟩:=by
 rw[Lib.extract_eq]
theorem gJ {k:IntKind} {a b:Int} (h:a=b):Ending.returned (.int k a)=.returned (.int k b):=by rw[h]
theorem fD {a b:Bool} (h:a=b):Ending.returned (.bool a)=.returned (.bool b):=by rw[h]
theorem aP (a:World):Below a.heap.size a a:=Below.refl _ _
theorem ah {a W w1:World} (h:Below a.heap.size a W) (hb:Below W.heap.size W w1):Below a.heap.size a w1:=h.trans (hb.mono h.size)
theorem bNew {a W:World} (h:Below a.heap.size a W) (o:Obj):Below a.heap.size a (W.alloc o):=h.alloc h.size o
theorem fM {a W:World} (h:Below a.heap.size a W) (d:Nat) (os:Array Obj):Below a.heap.size a (Sort.grow (redrawn W d) os):=ah h (below_regrown W d os)
theorem aQ {a W:World} (h:Below a.heap.size a W) {p:Addr} (hp:a.heap.size<=p.block) (u:Value):Below a.heap.size a (W.setCell p u):=h.setCell hp u
theorem bG {P:Program} {f:FuncId} {args:Array Value} {w:World} {v:Value} (h:Calls P f args w fun e w'=>e=.returned v/\w=w'):Calls P f args w fun e w'=>e=.returned v/\Below w.heap.size w w' :=
 h.mono fun _ _ h=>⟨h.1,h.2 ▸ Below.refl _ _⟩
theorem below_drewN {B:Nat} {a w:World} (h:Below B a w) (n:Nat):Below B a (w.drewN n):=⟨h.os,h.tape,h.output,h.size,h.block⟩
theorem UE (l:List UInt8) (k:Nat) (h:k<(⟨l.toArray⟩:ByteArray).size):(⟨l.toArray⟩:ByteArray)[k]'h=l[k]'(show k<l.length from h):=rfl
attribute [go_sem] UG UF UE
def At {α:Type} (size:Nat) (f:α->List Value) (w:World) (B:Nat) (A:Option Addr) (p:List α):Prop :=
 0<p.length->∃b off,A=some ⟨b,off,none⟩/\b<B/\∀i c,p[i]? = some c->∀j u,(f c)[j]? = some u->w.cell? ⟨b,off+i*size+j,none⟩=some u
section
variable {α:Type} {size:Nat} {f:α->List Value} {w w':World} {B B':Nat} {A:Option Addr} {p:List α}
theorem At.keep (h:At size f w B A p) (hk:∀b o,b<B->w'.cell? ⟨b,o,none⟩=w.cell? ⟨b,o,none⟩):At size f w' B A p:=fun h0=>by
 obtain⟨b,off,e,hb,hc⟩:=h h0;exact ⟨b,off,e,hb,fun i c hi j u hj=>(hk b _ hb).trans (hc i c hi j u hj)⟩
theorem At.below (h:At size f w B A p) (hb:Below B w w'):At size f w' B A p:=h.keep fun b o hlt=>hb.cell (p:=⟨b,o,none⟩) hlt
theorem At.more (h:At size f w B A p) (hB:B<=B'):At size f w B' A p:=fun h0=>by
 obtain⟨b,off,e,hb,hc⟩:=h h0;exact ⟨b,off,e,by omega,hc⟩
theorem At.take (h:At size f w B A p) (n:Nat):At size f w B A (p.take n):=fun h0=>by
 obtain⟨b,off,e,hb,hc⟩:=h (by simp at h0;omega);refine ⟨b,off,e,hb,fun i c hi=>hc i c ?_⟩;rw [List.getElem?_take]at hi
 split at hi
 · exact hi
 · cases hi
theorem At.nil:At size f w B A ([]:List α):=fun h=>by simp at h
end
section
variable {P:Program} {ops:Array Oper} {md:Region.Mode} {C:World->Prop}
def Ae (P:Program) (md:Region.Mode) (ops:Array Oper) (C:World->Prop) (n:Nat) (L:Array Bool->Act->Prop):Nat->Array Bool->Act->Prop
 | 0,listed,a=>L listed a
 | f+1,listed,a=>Region.ready md ops listed≠[]/\∀i∈Region.ready md ops listed,i<n/\qOp P ops C i (Ae P md ops C n L f (listed.setIfInBounds i true)) a
theorem qc {n g:Nat} {L:Array Bool->Act->Prop} {Q':Exit->Act->World->Prop} (hL:∀listed a w,C w->L listed a->wpAny P md ops Q' g listed a w) :
 ∀(f:Nat) (listed:Array Bool) (a:Act) (w:World),C w->Ae P md ops C n L f listed a->wpAny P md ops Q' (f+g) listed a w
 | 0,listed,a,w,hC,h=>by rw[Nat.zero_add];exact hL _ _ _ hC h
 | f+1,listed,a,w,hC,h=>by
  rw[show f+1+g=(f+g)+1 by omega];exact ⟨fun h0=>absurd h0 h.1,fun i hi=>wpOp_of_qOp hC (fun a' w' hw' h'=>qc hL f _ a' w' hw' h') (h.2 i hi).2⟩
theorem Ad {n i:Nat} {oi:Oper} {v:Value} {L:Array Bool->Act->Prop} (hi:ops[i]? = some oi) (hsel:∀(j:Nat) (o:Oper) cs b,ops[j]? = some o->o.op≠.select cs b)
 (hs:Region.sinkB md ops n=true) (hc:Region.chainB md ops n=true) (hn:n<ops.size) (hin:i<n) (hdone:∀listed a,L listed a->∀j∈Region.ready md ops listed,n<=j) :
 ∀(f:Nat) (listed:Array Bool) (a:Act),HeadInv md ops n listed ->
  (∀j oj,ops[j]? = some oj->j≠i->listed.getD j true=false->(∀e∈oj.after,Region.binds md e=true->e.on≠i)->oi.apart ops oj=true) ->
  i∈Region.ready md ops listed->YieldsIn P ops C oi v a ->
  Ae P md ops C n L f (listed.setIfInBounds i true) (a.put oi.dst v)->Ae P md ops C n L (f+1) listed a:=by
 intro f
 induction f with
 | zero =>
  intro listed a inv _ hr hy H;have hun:=(mem_ready.1 hr).1;refine ⟨List.ne_nil_of_mem hr,fun j hj=>?_⟩
  have hjn:j<n:=by
   rcases Nat.lt_or_ge j n with h|h
   · exact h
   · exact absurd hj (tail_waits hs hc hn inv _ i rfl hin hun j h)
  refine⟨hjn,?_⟩;by_cases hji:j=i
  · subst hji;exact hy.qOp hi H
  · have:=hdone _ _ H j (ready_mono hj hji);omega
 | succ f ih =>
  intro listed a inv hfree hr hy H;have hun:=(mem_ready.1 hr).1;refine ⟨List.ne_nil_of_mem hr,fun j hj=>?_⟩
  have hjn:j<n:=by
   rcases Nat.lt_or_ge j n with h|h
   · exact h
   · exact absurd hj (tail_waits hs hc hn inv _ i rfl hin hun j h)
  refine⟨hjn,?_⟩;by_cases hji:j=i
  · subst hji;exact hy.qOp hi H
  · have h1:=(H.2 j (ready_mono hj hji)).2;obtain ⟨hjun,oj,hoj,hall⟩:=mem_ready.1 hj
    have hnot:∀e∈oj.after,Region.binds md e=true->e.on≠i:=fun e he hb heq=>by
     have h1:=hall e he hb;rw [heq,getD_both hun]at h1;cases h1
    have h2:=qOp_put hoj (hfree j oj hoj hji hjun hnot) (fun cs b=>hsel i oi cs b hi) (fun cs b=>hsel j oj cs b hoj) hy h1
    have hfree':∀k ok,ops[k]? = some ok->k≠i->(listed.setIfInBounds j true).getD k true=false ->
     (∀e∈ok.after,Region.binds md e=true->e.on≠i)->oi.apart ops ok=true:=fun k ok hk hki hun' hno=>by
     refine hfree k ok hk hki ?_ hno;by_cases hjk:j=k
     · subst hjk;exact hjun
     · rw[getD_set_ne true hjk]at hun';exact hun'
    refine qOp_mono (fun a' h3=>ih (listed.setIfInBounds j true) a' (inv.set hj hjn) hfree' (ready_mono hr (Ne.symm hji)) h3.1 ?_) h2;rw [Array.setIfInBounds_comm _ _ hji];exact h3.2
theorem wX {n g:Nat} {Lq:Act->Prop} (hsel:Region.noSelect ops=true) (hs:Region.sinkB md ops n=true) (hc:Region.chainB md ops n=true) (hn:n<ops.size) :
 ∀(l:List Oper) (k:Nat) (listed:Array Bool) (a:Act),(∀j,j<l.length->l[j]? = ops[k+j]?)->k+l.length=n->HeadInv md ops n listed ->
 Region.lexHead md ops g l.length k listed=true->wpQuiet P ops C Lq l a ->
 Ae P md ops C n (fun listed' a'=>Region.seqB md ops g n listed'=true/\Lq a') l.length listed a
 | [],k,listed,a,_,hk,_,hB,h=>by
  obtain rfl:k=n:=by simpa using hk
  exact⟨by simpa [Region.lexHead] using hB,h⟩
 | o :: l,k,listed,a,hl,hk,inv,hB,h=>by
  have h0:ops[k]? = some o:=by simpa using (hl 0 (by simp)).symm
  simp only[List.length_cons,Region.lexHead,Bool.and_eq_true]at hB;obtain ⟨⟨hr,hf⟩,hB'⟩:=hB;have hkn:k<n:=by simp only[List.length_cons]at hk;omega
  have hr':k∈Region.ready md ops listed:=by simpa using hr
  have hst:qOp P ops C k (wpQuiet P ops C Lq l) a:=by unfold qOp;simp only[h0];exact h
  obtain⟨v,hy,hK⟩:=yieldsIn_of_qOp h0 hst
  exact Ad h0 (Region.noSelect_spec hsel) hs hc hn hkn (fun listed' a' hL=>seqB_ready hL.1) l.length listed a inv (Region.free_spec h0 hf) hr' hy
   (wX hsel hs hc hn l (k+1) _ _ (fun j hj=>by have:=hl (j+1) (by simp;omega);simpa [Nat.add_assoc,Nat.add_comm 1 j] using this) (by simp only[List.length_cons]at hk;omega) (inv.set hr' hkn) hB' hK)
theorem uQ {Q:Exit->Act->World->Prop} {a:Act} {w:World} {l:List Oper} (n:Nat) (hB:Region.lexTailB .any l.toArray n=true)
 (h:wpQuiet P l.toArray (fun w'=>∃p:Regrown,w'=Sort.grow (redrawn w p.d) p.os) (fun a'=>∀w',(∃p:Regrown,w'=Sort.grow (redrawn w p.d) p.os)->wpList P l.toArray Q (l.drop n) a' w') (l.take n) a) :
 wpAny P .any l.toArray Q l.toArray.size (Array.replicate l.toArray.size false) a { w with drawn:=w.drawn+1 }:=by
 simp only[Region.lexTailB,Bool.and_eq_true,decide_eq_true_eq]at hB;obtain ⟨⟨⟨⟨hsel,hn⟩,hs⟩,hc⟩,hlex⟩:=hB;have hn':n<l.length:=by simpa using hn
 have htl:(l.take n).length=n:=by simp;omega
 have hdl:(l.drop n).length=l.toArray.size-n:=by simp
 have inv0:HeadInv .any l.toArray n (Array.replicate l.toArray.size false) :=
  ⟨by simp,fun j oj _ hl=>(by rw[getD_replicate_false]at hl;cases hl),fun t _ ht=>getD_in (by simpa using ht) (getD_replicate_false _ _)⟩
 have H:=wX (md:=.any) (g:=l.toArray.size-n) hsel hs hc hn (l.take n) 0 _ a (fun j hj=>by
  have hj':j<n:=by rw[htl]at hj;exact hj
  simp[hj']) (by simpa using htl) inv0 (by rw[htl];exact hlex) h
 have:=qc (C:=fun w'=>∃p:Regrown,w'=Sort.grow (redrawn w p.d) p.os) (Q':=Q) (g:=l.toArray.size-n) (fun listed a' w' hC hL=>by
  have:=wpAny_of_seq (md:=.any) (Q':=Q) (l.drop n) n listed a' w' (fun j=>by simp[List.getElem?_drop]) (by rw[hdl];exact hL.1) (hL.2 w' hC)
  rwa [hdl]at this) _ _ _ _ ⟨⟨w.drawn+1,#[]⟩,by rw[Sort.grow_empty]⟩ H
 rw[htl,show n+(l.toArray.size-n)=l.toArray.size by omega]at this;exact this
theorem bQ {id:Nat} {Q:Exit->Act->World->Prop} {a:Act} {w:World} {l:List Oper} (n:Nat) (hm:P.follows .mixedOrders=true) (hB:Region.lexTailB .any l.toArray n=true)
 (h:wpQuiet P l.toArray (fun w'=>∃p:Regrown,w'=Sort.grow (redrawn w p.d) p.os) (fun a'=>∀w',(∃p:Regrown,w'=Sort.grow (redrawn w p.d) p.os)->wpList P l.toArray Q (l.drop n) a' w') (l.take n) a):(Code.region id l.toArray true).wp P Q a w :=
 wp_region_any hm (uQ n hB h)
end
structure Kp (p:Prop):Prop where
 out:p
def Bx (w:World) (g:Nat) (t:TypeId) (cs:Array Value):Prop:=w.heap[g]? = some (.cells cs t (0,0))
section
variable {w w':World} {g:Nat} {t:TypeId} {cs:Array Value}
theorem Bx.lt (h:Bx w g t cs):g<w.heap.size:=by
 rcases Nat.lt_or_ge g w.heap.size with h1|h1
 · exact h1
 · unfold Bx at h;rw[Array.getElem?_eq_none h1]at h;cases h
theorem Bx.mk (w:World) (t:TypeId) (cs:Array Value):Bx (w.alloc (.cells cs t)) w.heap.size t cs:=by
 show (w.heap.push _)[w.heap.size]? = _
 simp
theorem Bx.new (h:Bx w g t cs) (o:Obj):Bx (w.alloc o) g t cs:=(Below.heap_alloc w o g h.lt).trans h
theorem Bx.below {B:Nat} (h:Bx w g t cs) (hb:Below B w w') (hg:g<B):Bx w' g t cs:=(hb.block g hg).trans h
theorem Bx.call (h:Bx w g t cs) (hb:Below w.heap.size w w'):Bx w' g t cs:=h.below hb h.lt
theorem Bx.again (h:Bx w g t cs) (d:Nat) (os:Array Obj):Bx (Sort.grow (redrawn w d) os) g t cs:=h.call (below_regrown w d os)
theorem Bx.drewN (h:Bx w g t cs) (n:Nat):Bx (w.drewN n) g t cs:=h
theorem Bx.cell (h:Bx w g t cs) (i:Nat) {v:Value} (hv:cs[i]? = some v):w.cell? ⟨g,i,none⟩=some v:=by
 unfold Bx at h
 simp[World.cell?,h,hv]
theorem Bx.frozen (h:Bx w g t cs) (i:Nat):w.frozen? ⟨g,i,none⟩=false:=by
 unfold Bx at h
 simp[World.frozen?,h]
theorem Bx.p3 {w:World} {g:Nat} {t:TypeId} {x0 x1 x2:Value} {l:List Value} (h:Bx w g t (x0 :: x1 :: x2 :: l).toArray):w.cell? ⟨g,0,none⟩=some x0/\w.cell? ⟨g,1,none⟩=some x1/\w.cell? ⟨g,2,none⟩=some x2:=⟨h.cell 0 rfl,h.cell 1 rfl,h.cell 2 rfl⟩
theorem Bx.p4 {w:World} {g:Nat} {t:TypeId} {x0 x1 x2 x3:Value} {l:List Value} (h:Bx w g t (x0 :: x1 :: x2 :: x3 :: l).toArray):w.cell? ⟨g,0,none⟩=some x0/\w.cell? ⟨g,1,none⟩=some x1/\w.cell? ⟨g,2,none⟩=some x2/\w.cell? ⟨g,3,none⟩=some x3:=⟨h.cell 0 rfl,h.cell 1 rfl,h.cell 2 rfl,h.cell 3 rfl⟩
theorem Bx.p5 {w:World} {g:Nat} {t:TypeId} {x0 x1 x2 x3 x4:Value} {l:List Value} (h:Bx w g t (x0 :: x1 :: x2 :: x3 :: x4 :: l).toArray):w.cell? ⟨g,0,none⟩=some x0/\w.cell? ⟨g,1,none⟩=some x1/\w.cell? ⟨g,2,none⟩=some x2/\w.cell? ⟨g,3,none⟩=some x3/\w.cell? ⟨g,4,none⟩=some x4:=⟨h.cell 0 rfl,h.cell 1 rfl,h.cell 2 rfl,h.cell 3 rfl,h.cell 4 rfl⟩
theorem Bx.p6 {w:World} {g:Nat} {t:TypeId} {x0 x1 x2 x3 x4 x5:Value} {l:List Value} (h:Bx w g t (x0 :: x1 :: x2 :: x3 :: x4 :: x5 :: l).toArray):w.cell? ⟨g,0,none⟩=some x0/\w.cell? ⟨g,1,none⟩=some x1/\w.cell? ⟨g,2,none⟩=some x2/\w.cell? ⟨g,3,none⟩=some x3/\w.cell? ⟨g,4,none⟩=some x4/\w.cell? ⟨g,5,none⟩=some x5:=⟨h.cell 0 rfl,h.cell 1 rfl,h.cell 2 rfl,h.cell 3 rfl,h.cell 4 rfl,h.cell 5 rfl⟩
theorem Bx.p7 {w:World} {g:Nat} {t:TypeId} {x0 x1 x2 x3 x4 x5 x6:Value} {l:List Value} (h:Bx w g t (x0 :: x1 :: x2 :: x3 :: x4 :: x5 :: x6 :: l).toArray):w.cell? ⟨g,0,none⟩=some x0/\w.cell? ⟨g,1,none⟩=some x1/\w.cell? ⟨g,2,none⟩=some x2/\w.cell? ⟨g,3,none⟩=some x3/\w.cell? ⟨g,4,none⟩=some x4/\w.cell? ⟨g,5,none⟩=some x5/\w.cell? ⟨g,6,none⟩=some x6:=⟨h.cell 0 rfl,h.cell 1 rfl,h.cell 2 rfl,h.cell 3 rfl,h.cell 4 rfl,h.cell 5 rfl,h.cell 6 rfl⟩
theorem Bx.p8 {w:World} {g:Nat} {t:TypeId} {x0 x1 x2 x3 x4 x5 x6 x7:Value} {l:List Value} (h:Bx w g t (x0 :: x1 :: x2 :: x3 :: x4 :: x5 :: x6 :: x7 :: l).toArray):w.cell? ⟨g,0,none⟩=some x0/\w.cell? ⟨g,1,none⟩=some x1/\w.cell? ⟨g,2,none⟩=some x2/\w.cell? ⟨g,3,none⟩=some x3/\w.cell? ⟨g,4,none⟩=some x4/\w.cell? ⟨g,5,none⟩=some x5/\w.cell? ⟨g,6,none⟩=some x6/\w.cell? ⟨g,7,none⟩=some x7:=⟨h.cell 0 rfl,h.cell 1 rfl,h.cell 2 rfl,h.cell 3 rfl,h.cell 4 rfl,h.cell 5 rfl,h.cell 6 rfl,h.cell 7 rfl⟩
theorem Bx.p9 {w:World} {g:Nat} {t:TypeId} {x0 x1 x2 x3 x4 x5 x6 x7 x8:Value} {l:List Value} (h:Bx w g t (x0 :: x1 :: x2 :: x3 :: x4 :: x5 :: x6 :: x7 :: x8 :: l).toArray):w.cell? ⟨g,0,none⟩=some x0/\w.cell? ⟨g,1,none⟩=some x1/\w.cell? ⟨g,2,none⟩=some x2/\w.cell? ⟨g,3,none⟩=some x3/\w.cell? ⟨g,4,none⟩=some x4/\w.cell? ⟨g,5,none⟩=some x5/\w.cell? ⟨g,6,none⟩=some x6/\w.cell? ⟨g,7,none⟩=some x7/\w.cell? ⟨g,8,none⟩=some x8:=⟨h.cell 0 rfl,h.cell 1 rfl,h.cell 2 rfl,h.cell 3 rfl,h.cell 4 rfl,h.cell 5 rfl,h.cell 6 rfl,h.cell 7 rfl,h.cell 8 rfl⟩
theorem Bx.p10 {w:World} {g:Nat} {t:TypeId} {x0 x1 x2 x3 x4 x5 x6 x7 x8 x9:Value} {l:List Value} (h:Bx w g t (x0 :: x1 :: x2 :: x3 :: x4 :: x5 :: x6 :: x7 :: x8 :: x9 :: l).toArray):w.cell? ⟨g,0,none⟩=some x0/\w.cell? ⟨g,1,none⟩=some x1/\w.cell? ⟨g,2,none⟩=some x2/\w.cell? ⟨g,3,none⟩=some x3/\w.cell? ⟨g,4,none⟩=some x4/\w.cell? ⟨g,5,none⟩=some x5/\w.cell? ⟨g,6,none⟩=some x6/\w.cell? ⟨g,7,none⟩=some x7/\w.cell? ⟨g,8,none⟩=some x8/\w.cell? ⟨g,9,none⟩=some x9:=⟨h.cell 0 rfl,h.cell 1 rfl,h.cell 2 rfl,h.cell 3 rfl,h.cell 4 rfl,h.cell 5 rfl,h.cell 6 rfl,h.cell 7 rfl,h.cell 8 rfl,h.cell 9 rfl⟩
theorem Bx.set (h:Bx w g t cs) (i:Nat) (u:Value):Bx (w.setCell ⟨g,i,none⟩ u) g t (cs.setIfInBounds i u):=by
 unfold Bx at h ⊢
 simp[World.setCell,Array.getElem?_modify,h]
theorem Bx.far (h:Bx w g t cs) {p:Addr} (hp:g≠p.block) (u:Value):Bx (w.setCell p u) g t cs:=(Below.heap_setCell w p u g hp).trans h
end
def aC (ops:Array Oper) (a:Act) (j:Nat):Value :=
 match (ops[j]?).bind (·.dst) with
 | some d=>a.tmps.getD d undef
 | none=>undef
def bK (vs:Nat->Value):Nat->List Oper->Act->Act
 | _,[],a=>a
 | k,o :: rest,a=>bK vs (k+1) rest (a.put o.dst (vs k))
def kW (ops:Array Oper) (n:Nat) (a0 a:Act):Prop :=
 a.defers=a0.defers/\a.tmps.size=a0.tmps.size/\∀t,(∀(i:Nat) (o:Oper),i<n->ops[i]? = some o->o.dst≠some t)->a.tmps.getD t undef=a0.tmps.getD t undef
def iI (ops:Array Oper) (n:Nat):Bool :=
 (List.range ops.size).all fun i=>match ops[i]? with
  | none=>true
  | some o=>(o.after.all fun e=> !Region.binds .any e||decide (e.on<i))&&(match o.dst with|some d=>decide (d<n)|none=>true) &&
   (List.range ops.size).all fun j=>decide (j=i)||match (ops[j]?).bind (·.dst),o.dst with|some d,some d'=>d != d'|_,_=>true
section
variable {P:Program} {ops:Array Oper} {R:Nat->Value->World->Prop} {w0:World} {a0:Act} {Q:Exit->Act->World->Prop}
theorem dJ {n:Nat} (h:iI ops n=true) {i:Nat} {o:Oper} (ho:ops[i]? = some o) :
 (∀e∈o.after,Region.binds .any e=true->e.on<i)/\(∀d,o.dst=some d->d<n)/\(∀j oj d d',j≠i->ops[j]? = some oj->oj.dst=some d->o.dst=some d'->d≠d'):=by
 have hi:i<ops.size:=(Array.getElem?_eq_some_iff.1 ho).1;have h1:=List.all_eq_true.1 h i (List.mem_range.2 hi);simp only[ho,Bool.and_eq_true]at h1;obtain ⟨⟨h1,h2⟩,h3⟩:=h1;refine ⟨fun e he hb=>?_,fun d hd=>?_,fun j oj d d' hj hoj hd hd'=>?_⟩
 · have:=Array.all_eq_true'.1 h1 e he;simpa [hb] using this
 · rw[hd]at h2;simpa using h2
 · have hjn:j<ops.size:=(Array.getElem?_eq_some_iff.1 hoj).1;have:=List.all_eq_true.1 h3 j (List.mem_range.2 hjn);simpa [hj,hoj,hd,hd'] using this
theorem dP (a:Act) (d t:Nat) (v:Value):(a.put (some d) v).tmps.getD t undef=if t=d/\d<a.tmps.size then v else a.tmps.getD t undef:=by
 simp only[Act.put,Array.getD_eq_getD_getElem?,Array.getElem?_setIfInBounds];by_cases h:d=t
 · subst h;by_cases h2:d<a.tmps.size
   · simp[h2]
   · simp[h2]
 · rw[if_neg h,if_neg (fun hh=>h hh.1.symm)]
theorem count_one {n i:Nat} {listed:Array Bool} (hi:i<listed.size) (hun:listed.getD i true=false):∀(l:List Nat),l.Nodup->i∈l->l.countP (fun j=> !(listed.setIfInBounds i true).getD j true)+1=l.countP (fun j=> !listed.getD j true):=by
 intro l
 induction l with
 | nil=>intro _ h;cases h
 | cons x l ihl =>
  intro hnd hm;rw [List.nodup_cons]at hnd;rw [List.countP_cons,List.countP_cons];by_cases hx:i=x
  · subst hx;have e1:(listed.setIfInBounds i true).getD i true=true:=by simp[Array.getD_eq_getD_getElem?,hi]
    have h5:l.countP (fun j=> !(listed.setIfInBounds i true).getD j true)=l.countP (fun j=> !listed.getD j true):=by
     refine List.countP_congr fun j hj=>?_
     rw[getD_set_ne true (fun h=>hnd.1 (by rw[h];exact hj))]
    simp only[e1,hun,h5,Bool.not_false,Bool.not_true,if_true,Bool.false_eq_true,if_false]
  · have:=ihl hnd.2 (by simpa [hx] using hm);rw [getD_set_ne true hx];omega
theorem fZ (vs:Nat->Value):∀(l:List Oper) (k:Nat) (a:Act),(bK vs k l a).tmps.size=a.tmps.size/\(bK vs k l a).defers=a.defers
 | [],_,_=>⟨rfl,rfl⟩
 | o :: l,k,a=>by
  have:=fZ vs l (k+1) (a.put o.dst (vs k));refine ⟨this.1.trans ?_,this.2.trans ?_⟩ <;> cases o.dst <;> simp[Act.put]
theorem iL (vs:Nat->Value) (t:Nat):∀(l:List Oper) (k:Nat) (a:Act),(∀o∈l,o.dst≠some t)->(bK vs k l a).tmps.getD t undef=a.tmps.getD t undef
 | [],_,_,_=>rfl
 | o :: l,k,a,h=>by
  refine (iL vs t l (k+1) _ fun o ho=>h o (by simp[ho])).trans ?_
  cases hd:o.dst with
  | none=>rfl
  | some d=>rw[dP,if_neg (fun hh=>h o (by simp) (by rw[hd,hh.1]))]
theorem jL (vs:Nat->Value) (t:Nat):∀(l:List Oper) (k j:Nat) (o:Oper) (a:Act),l[j]? = some o->o.dst=some t->(∀(i:Nat) (o':Oper),j<i->l[i]? = some o'->o'.dst≠some t)->t<a.tmps.size ->
 (bK vs k l a).tmps.getD t undef=vs (k+j)
 | [],_,_,_,_,h,_,_,_=>by simp at h
 | x :: l,k,0,o,a,h,hd,hu,ht=>by
  obtain rfl:x=o:=by simpa using h
  refine (iL vs t l (k+1) _ fun o ho=>?_).trans ?_
  · obtain⟨i,hi⟩:=List.mem_iff_getElem?.1 ho;exact hu (i+1) o (by omega) (by simpa using hi)
  · rw[hd,dP,if_pos ⟨rfl,ht⟩];rfl
 | x :: l,k,j+1,o,a,h,hd,hu,ht=>by
  have:=jL vs t l (k+1) j o (a.put x.dst (vs k)) (by simpa using h) hd (fun i o' hji hi=>hu (i+1) o' (by omega) (by simpa using hi)) (by cases x.dst <;> simpa [Act.put] using ht);rw [show bK vs k (x :: l) a=bK vs (k+1) l (a.put x.dst (vs k)) from rfl,this,show k+1+j=k+(j+1) by omega]
def eF (ops:Array Oper) (n:Nat):Bool :=
 (List.range n).all fun i=>match ops[i]? with
  | none=>true
  | some o=>o.guard.isNone&&(match o.op with|.select ..=>false|_=>true) &&
   (o.looksAt ops).all fun t=>(List.range ops.size).all fun j=>match ops[j]? with|some oj=>oj.dst != some t||decide (j<i)||decide (n<=j)|none=>true
def seen (ops:Array Oper) (vs:Nat->Value) (i:Nat) (a0:Act):Act:=bK vs 0 (ops.toList.take i) a0
theorem oH {ops:Array Oper} {i j:Nat} {o:Oper}:(ops.toList.take i)[j]? = some o↔j<i/\ops[j]? = some o:=by
 rw[List.getElem?_take]
 split
 · simp[*]
 · constructor
   · intro h;cases h
   · intro h;omega
theorem cZ {l:List Oper} {i j:Nat} {o:Oper} (h:(l.take i)[j]? = some o):j<i/\l[j]? = some o:=by
 rw[List.getElem?_take]at h
 split at h
 · exact⟨by assumption,h⟩
 · cases h
theorem yT {a b:Act} (h:a.tmps=b.tmps) (h':a.defers=b.defers):a=b:=by cases a;cases b;simp_all
theorem wo {n i:Nat} {a:Act} (hin:i<=n) (hok:iI ops a0.tmps.size=true) (hsame:kW ops n a0 a) {t:Nat} (hl:∀(j:Nat) (oj:Oper),ops[j]? = some oj->oj.dst=some t->j<i∨n<=j) :
 (seen ops (aC ops a) i a0).tmps.getD t undef=a.tmps.getD t undef:=by
 by_cases hw:∃(j:Nat) (oj:Oper),j<n/\ops[j]? = some oj/\oj.dst=some t
 · obtain⟨j,oj,hjn,hj,hd⟩:=hw;have hsp:=dJ hok hj;have hji:j<i:=(hl j oj hj hd).resolve_right (by omega)
   unfold seen
   rw[jL (aC ops a) t _ 0 j oj a0 (oH.2 ⟨hji,hj⟩) hd (fun k o' hjk hk hd'=>hsp.2.2 k o' t t (by omega) (oH.1 hk).2 hd' hd rfl) (hsp.2.1 t hd)];simp [aC,hj,hd]
 · have hno:∀(j:Nat) (oj:Oper),j<n->ops[j]? = some oj->oj.dst≠some t:=fun j oj hjn hj hd=>hw ⟨j,oj,hjn,hj,hd⟩
   rw[hsame.2.2 t hno]
   unfold seen
   refine iL _ _ _ _ _ fun o ho=>?_
   obtain⟨j,hj⟩:=List.mem_iff_getElem?.1 ho;have:=(oH.1 hj).1;exact hno j o (by omega) (oH.1 hj).2
def lW (o:Oper) (a:Act):Value:=match o.dst with|some d=>a.tmps.getD d undef|none=>undef
end
def gW (ops:Array Oper) (n:Nat):Bool :=
 (List.range n).all fun i=>match ops[i]? with
  | none=>true
  | some o=>(match o.op with|.select ..=>false|_=>true) &&
   (o.looksAt ops).all fun t=>(List.range ops.size).all fun j=>match ops[j]? with|some oj=>oj.dst != some t||decide (j<i)||decide (n<=j)|none=>true
theorem zi {ops:Array Oper} {o:Oper} {a b:Act} (hsz:a.tmps.size=b.tmps.size) (h:∀t∈o.looksAt ops,a.tmps.getD t undef=b.tmps.getD t undef):Region.wanted o (yielded ops a.tmps)=Region.wanted o (yielded ops b.tmps):=by
 unfold Region.wanted
 cases hg:o.guard with
 | none=>rfl
 | some g =>
  obtain⟨j,want⟩:=g;simp only
  congr 1
  unfold yielded
  cases hd:(ops[j]?).bind (·.dst) with
  | none=>rfl
  | some t =>
   have ht:t∈o.looksAt ops:=by
    unfold Oper.looksAt
    rw[hg];simp [hd]
   have h1:=h t ht;simp only[Option.bind_some];by_cases hlt:t<a.tmps.size
   · have hlt':t<b.tmps.size:=hsz ▸ hlt;simp only[Array.getD_eq_getD_getElem?,Array.getElem?_eq_getElem hlt,Array.getElem?_eq_getElem hlt',Option.getD_some]at h1;rw [Array.getElem?_eq_getElem hlt,Array.getElem?_eq_getElem hlt',h1]
   · rw[Array.getElem?_eq_none (Nat.le_of_not_lt hlt),Array.getElem?_eq_none (Nat.le_of_not_lt (hsz ▸ hlt))]
theorem IZ {P:Program} {o:Oper} {a:Act} {w:World} {K:Act->World->Prop} {Q Q':Exit->Act->World->Prop} (hq:∀e a w,Q e a w->Q' e a w) (hh:o.wp P a w K Q):o.wp P a w K Q':=by
 unfold Oper.wp at *
 generalize (execOp a.eval o).run P w=r at *
 cases r with
 | ok n w' =>
  cases n <;> simp only[Oper.upon]at hh ⊢ <;>
   first
    | exact hh
    | exact hq _ _ _ hh
    | exact Calls.mono hh (fun e w'' he=>by cases e <;> first|exact he|exact hq _ _ _ he|(obtain ⟨b,v,h2⟩:=he;exact⟨b,v,hq _ _ _ h2⟩))
 | halt x w'=>cases x <;> simp only[Oper.upon]at hh ⊢ <;> first|exact hh|exact hq _ _ _ hh
theorem CG {P:Program} {ops:Array Oper} {o:Oper} {a:Act} {w:World} {Q Q':Exit->Act->World->Prop} (hq:∀e a w,Q e a w->Q' e a w) (h:wpList P ops Q [o] a w):wpList P ops Q' [o] a w:=by
 unfold wpList at h ⊢
 split
 · rename_i hw
   rw[if_pos hw]at h
   rcases h with h|⟨h1,b,v,h2⟩
   · exact .inl (IZ hq (Oper.wp_mono (fun a w hh=>hq _ _ _ hh) h))
   · exact .inr ⟨h1,b,v,hq _ _ _ h2⟩
 · rename_i hw
   rw[if_neg hw]at h;exact hq _ _ _ h
end Go.Proofs.YtohgjenaclfegaaGreatDoor
namespace Go.Proofs.YtohgjenaclfegaaGreatDoor.RA
open Go.RowKit
structure Cls (K:World->World->Prop):Prop where
 refl:∀w,K w w
 trans:∀ {a b c},K a b->K b c->K a c
 drawn:∀(w:World) n,K w { w with drawn:=n }
def dZ (ks:Nat->Option Nat) (f:Nat->Value) (j:Nat):Value:=match ks j with|some k=>f k|none=>undef
def qJ (F:Nat->Value->World->World->Prop) (K:World->World->Prop) (ks:Nat->Option Nat) (P:Program) (ops:Array Oper) (n:Nat) (R:Nat->Value->Value->World->Prop) (w0:World) (a0:Act) (Q:Exit->Act->World->Prop) (i:Nat) (o:Oper):Prop :=
 ∀(a:Act) (w:World),K w0 w->kW ops n a0 a->(∀e∈o.after,Region.binds .any e=true->R e.on (dZ ks (aC ops a) e.on) (aC ops a e.on) w) ->
  if Region.wanted o (yielded ops a.tmps)=true then o.wp P a w (fun a' w'=>∃v,a'=a.put o.dst v/\K w w'/\R i (dZ ks (aC ops a) i) (if o.dst.isSome then v else undef) w'/\F i (if o.dst.isSome then v else undef) w w') Q else R i (dZ ks (aC ops a) i) undef w/\F i undef w w
def Dst (ops:Array Oper) (S:Nat->Bool) (n:Nat) (listed:Array Bool) (a:Act) (w:World):Prop:=(∀p,p<n->S p=true->listed.getD p false=true->∃g,aC ops a p=.pointer (some ⟨g,0,none⟩)/\g<w.heap.size)/\(∀p q,p<n->q<n->S p=true->S q=true->p≠q->listed.getD p false=true->listed.getD q false=true->aC ops a p≠aC ops a q)
section
variable {P:Program} {ops:Array Oper} {R:Nat->Value->Value->World->Prop} {w0:World} {a0:Act} {Q:Exit->Act->World->Prop}
theorem Es {F:Nat->Value->World->World->Prop} {K:World->World->Prop} {ks:Nat->Option Nat} (hK:Cls K) {n g:Nat} (S:Nat->Bool) (L6:(∃p,S p=true)->∀w w',K w w'->w.heap.size<=w'.heap.size) (hF:∀p,S p=true->∀v w w',F p v w w'->v=.pointer (some ⟨w.heap.size,0,none⟩)/\w.heap.size<w'.heap.size) (hok:iI ops a0.tmps.size=true) (hsc:ops.size<=n∨(Region.sinkB .any ops n=true/\Region.chainB .any ops n=true)) (hn:n<=ops.size)
 (hks:∀i o k,ops[i]? = some o->ks i=some k->∃e∈o.after,Region.binds .any e=true/\e.on=k) (hst:∀i x v w w',R i x v w->K w w'->R i x v w') (hsteps:∀i o,i<n->ops[i]? = some o->qJ F K ks P ops n R w0 a0 Q i o)
 (hfin:∀listed a w,HeadInv .any ops n listed->(∀i,i<n->listed.getD i true=true)->K w0 w->kW ops n a0 a->(∀i,i<n->R i (dZ ks (aC ops a) i) (aC ops a i) w)->(∀p q,p<n->q<n->S p=true->S q=true->p≠q->aC ops a p≠aC ops a q)->wpAny P .any ops Q g listed a w) :
 ∀(fuel:Nat) (listed:Array Bool) (a:Act) (w:World),HeadInv .any ops n listed->((List.range n).countP (fun i=> !listed.getD i true))=fuel->K w0 w->kW ops n a0 a ->
  (∀i,i<n->listed.getD i false=true->R i (dZ ks (aC ops a) i) (aC ops a i) w)->Dst ops S n listed a w->wpAny P .any ops Q (fuel+g) listed a w:=by
 intro fuel
 induction fuel with
 | zero =>
  intro listed a w inv hcnt hb hsame hR hD
  have hall:∀i,i<n->listed.getD i true=true:=by
   intro i hi;have:=List.countP_eq_zero.1 hcnt i (List.mem_range.2 hi);simpa using this
  rw[Nat.zero_add];have hall':∀i,i<n->listed.getD i false=true:=fun i hi=>by have:=hall i hi;simpa [Array.getD_eq_getD_getElem?,inv.size,show i<ops.size by omega] using this
  exact hfin listed a w inv hall hb hsame (fun i hi=>hR i hi (hall' i hi)) (fun p q hp hq sp sq hne=>hD.2 p q hp hq sp sq hne (hall' p hp) (hall' q hq))
 | succ fuel ih =>
  intro listed a w inv hcnt hb hsame hR hD
  have hex:∃i,i<n/\listed.getD i true=false:=by
   have h0:0<(List.range n).countP (fun i=> !listed.getD i true):=by omega
   obtain⟨i,hi,hp⟩:=List.countP_pos_iff.1 h0;exact ⟨i,List.mem_range.1 hi,by simpa using hp⟩
  rw[show fuel+1+g=(fuel+g)+1 by omega];refine ⟨fun he=>?_,fun i hi=>?_⟩
  · exfalso
    have hempty:∀i,i<n->listed.getD i true=true:=by
     intro i
     induction i using Nat.strongRecOn with
     | _ i ih =>
      intro hi
      cases hl:listed.getD i true with
      | true=>rfl
      | false =>
       have hoi:ops[i]? = some (ops[i]'(by omega)):=Array.getElem?_eq_getElem (by omega)
       have:i∈Region.ready .any ops listed:=mem_ready.2 ⟨hl,_,hoi,fun e hem hbd=>by
        have hlt:=(dJ hok hoi).1 e hem hbd;have:=ih e.on hlt (by omega)
        simpa [Array.getD_eq_getD_getElem?,inv.size,show e.on<ops.size by omega] using this⟩
       rw[he]at this;cases this
    obtain⟨i,hi,hu⟩:=hex;rw [hempty i hi]at hu;cases hu
  obtain⟨hun,o,ho,pG⟩:=mem_ready.1 hi;have hin:i<ops.size:=(Array.getElem?_eq_some_iff.1 ho).1
  have hhead:i<n:=by
   obtain⟨k,hk,hu⟩:=hex
   rcases Nat.lt_or_ge i n with h|h
   · exact h
   · rcases hsc with hsc|⟨hs,hc⟩
     · omega
     · exact absurd hi (tail_waits hs hc (by omega) inv _ k rfl hk hu i h)
  obtain⟨hback,hbound,hdist⟩:=dJ hok ho
  have hc':(List.range n).countP (fun j=> !(listed.setIfInBounds i true).getD j true)=fuel:=by
   have:=count_one (n:=n) (by rw[inv.size];exact hin) hun (List.range n) List.nodup_range (List.mem_range.2 hhead);omega
  have hstep:=hsteps i o hhead ho a w hb hsame (fun e he hbd=>hR e.on (by have:=hback e he hbd;omega) (pG e he hbd))
  have hput:∀v,kW ops n a0 (a.put o.dst v):=by
   intro v;obtain ⟨e1,e2,e3⟩:=hsame
   cases hd:o.dst with
   | none=>exact⟨e1,e2,e3⟩
   | some d =>
    refine⟨e1,by simpa [Act.put] using e2,fun t ht=>?_⟩;rw [dP,if_neg (fun hh=>ht i o hhead ho (by rw[hd,hh.1])),e3 t ht]
  have iF:∀v j,j≠i->aC ops (a.put o.dst v) j=aC ops a j:=by
   intro v j hj
   unfold aC
   cases hd:o.dst with
   | none=>rfl
   | some d =>
    cases hoj:ops[j]? with
    | none=>rfl
    | some oj =>
     cases hdj:oj.dst with
     | none=>simp[hdj]
     | some dj =>
      simp only[Option.bind_some,hdj];rw [dP,if_neg (fun hh=>hdist j oj dj d hj hoj hdj hd hh.1)]
  have hself:∀v,aC ops (a.put o.dst v) i=if o.dst.isSome then v else undef:=by
   intro v
   unfold aC
   rw[ho]
   cases hd:o.dst with
   | none=>simp[hd]
   | some d =>
    simp only[Option.bind_some,hd,Option.isSome_some,if_true];rw [dP,if_pos ⟨rfl,by rw[hsame.2.1];exact hbound d hd⟩]
  have harg:∀v j oj,ops[j]? = some oj->(j=i∨listed.getD j false=true)->dZ ks (aC ops (a.put o.dst v)) j=dZ ks (aC ops a) j:=by
   intro v j oj hoj hj
   unfold dZ
   cases hk:ks j with
   | none=>rfl
   | some k =>
    obtain⟨e,he,hbd,rfl⟩:=hks j oj k hoj hk;refine iF v _ fun hki=>?_
    rcases hj with rfl|hj
    · have e1:oj=o:=Option.some.inj (hoj.symm.trans ho);subst e1;have:=hback e he hbd;omega
    · have hl:=inv.closed j oj hoj hj e he hbd;rw [hki]at hl;rw [getD_both hun]at hl;cases hl
  have hnext:∀v w',K w w'->R i (dZ ks (aC ops a) i) (if o.dst.isSome then v else undef) w'->F i (if o.dst.isSome then v else undef) w w'->wpAny P .any ops Q (fuel+g) (listed.setIfInBounds i true) (a.put o.dst v) w':=by
   intro v w' hbw hr hf;refine ih _ _ _ (inv.set hi hhead) hc' (hK.trans hb hbw) (hput v) (fun j hjn hj=>?_) ?_
   rotate_left
   · obtain⟨d1,d3⟩:=hD;have hz:=fun h=>L6 h _ _ hbw
     have hls:∀j,j≠i->(listed.setIfInBounds i true).getD j false=true->listed.getD j false=true:=fun j hj h=>by rw[←getD_set_ne false (fun h=>hj h.symm)];exact h
     refine⟨fun p hp sp hl=>?_,fun p q hp hq sp sq hpq hl hl2=>?_⟩
     · by_cases e:p=i
       · subst e;rw[hself];obtain⟨e1,e2⟩:=hF _ sp _ _ _ hf;exact⟨_,e1,e2⟩
       · rw[iF v p e];obtain⟨g,e1,e2⟩:=d1 p hp sp (hls p e hl);exact⟨g,e1,Nat.lt_of_lt_of_le e2 (hz ⟨p,sp⟩)⟩
     · by_cases e:p=i
       · subst e;rw [hself,iF v q (Ne.symm hpq)];obtain ⟨e1,e2⟩:=hF _ sp _ _ _ hf;obtain ⟨g,e3,e4⟩:=d1 q hq sq (hls q (Ne.symm hpq) hl2);rw [e1,e3];intro h
         injection h with h;injection h with h;injection h with h1 h2
         omega
       · by_cases e':q=i
         · subst e';rw [hself,iF v p hpq];obtain ⟨e1,e2⟩:=hF _ sq _ _ _ hf;obtain ⟨g,e3,e4⟩:=d1 p hp sp (hls p hpq hl);rw [e1,e3];intro h
           injection h with h;injection h with h;injection h with h1 h2
           omega
         · rw[iF v p e,iF v q e'];exact d3 p q hp hq sp sq hpq (hls p e hl) (hls q e' hl2)
   by_cases hji:j=i
   · subst hji;rw[hself,harg v _ o ho (.inl rfl)];exact hr
   · have hlj:listed.getD j false=true:=by rw[←getD_set_ne false (fun h=>hji h.symm)];exact hj
     rw[iF v j hji,harg v j (ops[j]'(by omega)) (Array.getElem?_eq_getElem (by omega)) (.inr hlj)];exact hst _ _ _ _ _ (hR j hjn hlj) hbw
  unfold wpOp
  simp only[ho];by_cases hw:Region.wanted o (yielded ops a.tmps)=true
  · rw[if_pos hw]at hstep ⊢;refine .inl ?_;exact Oper.wp_mono (fun a' w' hh=>by obtain⟨v,e,hb',hr,hf⟩:=hh;subst e;exact hnext v w' hb' hr hf) hstep
  · rw[if_neg hw]at hstep ⊢;exact hnext undef w (hK.refl _) (by split <;> exact hstep.1) (by split <;> exact hstep.2)
def qL (ks:Nat->Option Nat) (R:Nat->Value->Value->World->Prop) (vs:Nat->Value) (w:World):List Edge->Prop
 | []=>True
 | e :: l=>(Region.binds .any e=true->R e.on (dZ ks vs e.on) (vs e.on) w)/\qL ks R vs w l
theorem qo {ks:Nat->Option Nat} {R:Nat->Value->Value->World->Prop} {vs:Nat->Value} {w:World}:∀(l:List Edge),(∀e∈l,Region.binds .any e=true->R e.on (dZ ks vs e.on) (vs e.on) w)->qL ks R vs w l
 | [],_=>trivial
 | e :: l,h=>⟨h e (by simp),qo l fun e he=>h e (by simp[he])⟩
def kS (F:Nat->Value->World->World->Prop) (K:World->World->Prop) (ks:Nat->Option Nat) (P:Program) (ops:Array Oper) (R:Nat->Value->Value->World->Prop) (w0:World) (a0:Act) (i:Nat) (o:Oper):Prop :=
 ∀(vs:Nat->Value) (w:World),K w0 w->qL ks R vs w o.after.toList ->
  wpList P ops (fun e a' w'=>e=.normal/\a'.defers=a0.defers/\K w w'/\R i (dZ ks vs i) (lW o a') w'/\F i (lW o a') w w') [o] (seen ops vs i a0) w
def aZ (F:Nat->Value->World->World->Prop) (K:World->World->Prop) (ks:Nat->Option Nat) (P:Program) (ops:Array Oper) (R:Nat->Value->Value->World->Prop) (w0:World) (a0:Act):Nat->List Oper->Prop
 | _,[]=>True
 | k,o :: l=>kS F K ks P ops R w0 a0 k o/\aZ F K ks P ops R w0 a0 (k+1) l
theorem aZ.get {F:Nat->Value->World->World->Prop} {K:World->World->Prop} {ks:Nat->Option Nat} {P:Program} {ops:Array Oper} {R:Nat->Value->Value->World->Prop} {w0:World} {a0:Act}:∀(l:List Oper) (k j:Nat) (o:Oper),aZ F K ks P ops R w0 a0 k l->l[j]? = some o->kS F K ks P ops R w0 a0 (k+j) o
 | [],_,_,_,_,h=>by simp at h
 | x :: l,k,0,o,hh,h=>by
  obtain rfl:x=o:=by simpa using h
  exact hh.1
 | x :: l,k,j+1,o,hh,h=>by
  have:=aZ.get l (k+1) j o hh.2 (by simpa using h)
  rwa [show k+1+j=k+(j+1) by omega]at this
theorem iD {K:World->World->Prop} {a0:Act} {R:Value->World->Prop} {w:World} {o:Oper} (h:LetsOut (fun e a' w'=>e=.normal/\a'.defers=a0.defers/\K w w'/\R (lW o a') w')):False:=by
 obtain⟨_,_,h,_⟩:=h;cases h
theorem nJ {F:Nat->Value->World->World->Prop} {K:World->World->Prop} {ks:Nat->Option Nat} {n i:Nat} {o:Oper} (hok:iI ops a0.tmps.size=true) (hlk:gW ops n=true) (hi:i<n) (hin:n<=ops.size) (ho:ops[i]? = some o) (h:kS F K ks P ops R w0 a0 i o):qJ F K ks P ops n R w0 a0 Q i o:=by
 intro a w hb hsame pG;have h1:=List.all_eq_true.1 hlk i (List.mem_range.2 hi);simp only[ho,Bool.and_eq_true]at h1;obtain ⟨hsel,hl⟩:=h1;have hu:=h (aC ops a) w hb (qo _ fun e he hbd=>pG e (by simpa using he) hbd)
 have KQ:∀t∈o.looksAt ops,(seen ops (aC ops a) i a0).tmps.getD t undef=a.tmps.getD t undef:=fun t ht=>by
  have h2:=List.all_eq_true.1 hl t ht;refine wo (Nat.le_of_lt hi) hok hsame fun j oj hj hd=>?_
  have h3:=List.all_eq_true.1 h2 j (List.mem_range.2 (Array.getElem?_eq_some_iff.1 hj).1);simpa [hj,hd] using h3
 have hsz:=fZ (aC ops a) (ops.toList.take i) 0 a0;have hsz':(seen ops (aC ops a) i a0).tmps.size=a.tmps.size:=by rw[seen,hsz.1,hsame.2.1]
 have hput:∀v,lW o ((seen ops (aC ops a) i a0).put o.dst v)=if o.dst.isSome then v else undef:=by
  intro v
  unfold lW
  cases hd:o.dst with
  | none=>rfl
  | some d =>
   simp only[Option.isSome_some,if_true];rw [dP,if_pos ⟨rfl,by rw[seen,hsz.1];exact (dJ hok ho).2.1 d hd⟩]
 simp only[wpList]at hu;rw [zi hsz' KQ]at hu;by_cases hw:Region.wanted o (yielded ops a.tmps)=true
 · rw[if_pos hw]at hu ⊢
   have LK:execOp a.eval o=execOp (seen ops (aC ops a) i a0).eval o:=by
    refine execOp_congr o (fun cs b e=>by rw[e]at hsel;simp at hsel) fun x hx=>?_
    cases x with
    | tmp t=>exact (KQ t (List.mem_append_left _ (List.mem_filterMap.2 ⟨.tmp t,by simpa using hx,rfl⟩))).symm
    | _=>rfl
   rcases hu with hu|hu
   · unfold Oper.wp at hu ⊢
     rw[LK];generalize (execOp (seen ops (aC ops a) i a0).eval o).run P w=r at hu
     cases r with
     | halt x w'=>cases x <;> simp only[Oper.upon]at hu ⊢ <;> first|exact absurd hu.1 (by simp)|exact hu
     | ok nx w' =>
      cases nx <;> simp only[Oper.upon]at hu ⊢
      case value v=>exact⟨v,rfl,hu.2.2.1,by rw[←hput];exact hu.2.2.2⟩
      case skip=>exact⟨undef,rfl,hu.2.2.1,by rw[←hput];exact hu.2.2.2⟩
      case defer d =>
       exfalso
       have:=hu.2.1;have h9:=congrArg List.length this;cases hd:o.dst <;> simp[hd,Act.put,seen,hsz.2]at h9
      case enter f args =>
       refine Calls.mono hu fun e w'' he=>?_
       cases e with
       | returned v=>exact⟨v,rfl,he.2.2.1,by rw[←hput];exact he.2.2.2⟩
       | panicked c=>exact absurd he.1 (by simp)
       | outgrown=>exact (iD (R:=fun v w'=>R i (dZ ks (aC ops a) i) v w'/\F i v w w') he).elim
      case row s args=>exact Rows.mono hu fun v w'' he=>⟨v,rfl,he.2.2.1,by rw[←hput];exact he.2.2.2⟩
      all_goals exact hu.elim
   · exact (iD (R:=fun v w'=>R i (dZ ks (aC ops a) i) v w'/\F i v w w') hu.2).elim
 · rw[if_neg hw]at hu ⊢;have h9:=hu.2.2.2;rw [hput]at h9
   split at h9 <;> exact h9
theorem dH {F:Nat->Value->World->World->Prop} {K:World->World->Prop} (hK:Cls K) (ks:Nat->Option Nat) {l:List Oper} {Q:Exit->Act->World->Prop} {a0:Act} {w0:World} (n:Nat) (R:Nat->Value->Value->World->Prop) (S:Nat->Bool) (L6:(∃p,S p=true)->∀w w',K w w'->w.heap.size<=w'.heap.size) (hF:∀p,S p=true->∀v w w',F p v w w'->v=.pointer (some ⟨w.heap.size,0,none⟩)/\w.heap.size<w'.heap.size)
 (hB:(iI l.toArray a0.tmps.size&&gW l.toArray n&&(decide (l.length<=n)||(Region.sinkB .any l.toArray n&&Region.chainB .any l.toArray n))&&decide (n<=l.length)&&Region.seqB .any l.toArray (l.length-n) n ((List.range l.length).map fun i=>decide (i<n)).toArray)=true)
 (hks:∀i o k,l.toArray[i]? = some o->ks i=some k->∃e∈o.after,Region.binds .any e=true/\e.on=k) (hst:∀i x v w w',R i x v w->K w w'->R i x v w') (hsteps:aZ F K ks P l.toArray R w0 a0 0 (l.take n))
 (hfin:∀vs w',K w0 w'->(∀i,i<n->R i (dZ ks vs i) (vs i) w')->(∀p q,p<n->q<n->S p=true->S q=true->p≠q->vs p≠vs q)->wpList P l.toArray Q (l.drop n) (bK vs 0 (l.take n) a0) w'):wpAny P .any l.toArray Q l.toArray.size (Array.replicate l.toArray.size false) a0 { w0 with drawn:=w0.drawn+1 }:=by
 simp only[Bool.and_eq_true,decide_eq_true_eq]at hB;obtain ⟨⟨⟨⟨hok,hlk⟩,hsc⟩,hn⟩,hseq⟩:=hB
 have Tq:l.toArray.size<=n∨(Region.sinkB .any l.toArray n=true/\Region.chainB .any l.toArray n=true):=by
  rw[Bool.or_eq_true,Bool.and_eq_true,decide_eq_true_eq]at hsc;simpa using hsc
 have hn':n<=l.toArray.size:=by simpa using hn
 have hb0:K w0 { w0 with drawn:=w0.drawn+1 }:=hK.drawn w0 _
 have inv0:HeadInv .any l.toArray n (Array.replicate l.toArray.size false) :=
  ⟨by simp,fun j oj _ hl=>(by rw[getD_replicate_false]at hl;cases hl),fun t _ ht=>getD_in (by simpa using ht) (getD_replicate_false _ _)⟩
 have H:=Es (F:=F) (ks:=ks) hK S L6 hF (P:=P) (ops:=l.toArray) (R:=R) (w0:=w0) (a0:=a0) (Q:=Q) (n:=n) (g:=l.length-n) hok Tq hn' hks hst (fun i o hi ho=>nJ hok hlk hi hn' ho (by
  have:=aZ.get (l.take n) 0 i o hsteps (by rw[List.getElem?_take,if_pos hi];simpa using ho)
  rwa [Nat.zero_add]at this)) (fun listed a w inv hall hb hsame hR Q9=>by
  have Ll:listed=((List.range l.length).map fun i=>decide (i<n)).toArray:=by
   apply Array.ext
   · simp[inv.size]
   · intro i h1 h2;have hi:i<l.length:=by simpa using h2
     simp only[List.getElem_toArray,List.getElem_map,List.getElem_range]
     rcases Nat.lt_or_ge i n with h|h
     · have:=hall i h;simp [Array.getD_eq_getD_getElem?,h1]at this
       simp[h,this]
     · have:=inv.tail i h (by simpa using hi);simp [Array.getD_eq_getD_getElem?,h1]at this
       simp[this];omega
  have hfr:a=bK (aC l.toArray a) 0 (l.take n) a0:=by
   have hsz:=fZ (aC l.toArray a) (l.take n) 0 a0
   have key:a.tmps=(bK (aC l.toArray a) 0 (l.take n) a0).tmps:=by
    apply Array.ext
    · rw[hsz.1,hsame.2.1]
    · intro t h1 h2;have e1:a.tmps[t]=a.tmps.getD t undef:=by simp[Array.getD_eq_getD_getElem?,h1]
      have e2:(bK (aC l.toArray a) 0 (l.take n) a0).tmps[t]=(bK (aC l.toArray a) 0 (l.take n) a0).tmps.getD t undef:=by simp[Array.getD_eq_getD_getElem?,h2]
      rw[e1,e2];by_cases hw:∃(j:Nat) (oj:Oper),j<n/\l.toArray[j]? = some oj/\oj.dst=some t
      · obtain⟨j,oj,hjn,hj,hd⟩:=hw;have hsp:=dJ hok hj;rw [jL (aC l.toArray a) t (l.take n) 0 j oj a0 (by rw[List.getElem?_take,if_pos hjn];simpa using hj) hd (fun k o' hjk hk hd'=>hsp.2.2 k o' t t (by omega) (by simpa using (cZ hk).2) hd' hd rfl) (hsp.2.1 t hd)];have hj':l[j]? = some oj:=by simpa using hj
        simp[aC,hj',hd]
      · have hno:∀(j:Nat) (oj:Oper),j<n->l.toArray[j]? = some oj->oj.dst≠some t:=fun j oj hjn hj hd=>hw ⟨j,oj,hjn,hj,hd⟩
        rw[hsame.2.2 t hno];refine (iL _ _ _ _ _ fun o ho=>?_).symm;obtain ⟨j,hj⟩:=List.mem_iff_getElem?.1 ho;exact hno j o (cZ hj).1 (by simpa using (cZ hj).2)
   have kd:a.defers=(bK (aC l.toArray a) 0 (l.take n) a0).defers:=by rw[hsz.2,hsame.1]
   exact yT key kd
  have h2:=hfin (aC l.toArray a) w hb hR Q9;rw [←hfr]at h2;have h3:=wpAny_of_seq (P:=P) (ops:=l.toArray) (md:=.any) (Q':=Q) (l.drop n) n listed a w (fun j=>by simp[List.getElem?_drop]) (by rw[Ll];simpa using hseq) h2
  simpa using h3) n (Array.replicate l.toArray.size false) a0 { w0 with drawn:=w0.drawn+1 } inv0 (by
   have:(List.range n).countP (fun i=> !(Array.replicate l.toArray.size false).getD i true)=(List.range n).length:=List.countP_eq_length.2 fun i hi=>by
    have:=List.mem_range.1 hi;simp [Array.getD_eq_getD_getElem?,show i<l.length by omega]
   simpa using this) hb0 ⟨rfl,rfl,fun _ _=>rfl⟩ (fun i _ h=>by rw[getD_replicate_false]at h;cases h) ⟨fun p _ _ h=>(by rw[getD_replicate_false]at h;cases h),fun p q _ _ _ _ _ h=>(by rw[getD_replicate_false]at h;cases h)⟩
 rw[show n+(l.length-n)=l.toArray.size by simp;omega]at H;exact H
end
theorem eP {ks:Nat->Option Nat} {R:Nat->Value->Value->World->Prop} {vs:Nat->Value} {w:World}:∀(l:List Edge),qL ks R vs w l->∀e∈l,Region.binds .any e=true->R e.on (dZ ks vs e.on) (vs e.on) w
 | [],_,e,he,_=>by cases he
 | x :: l,h,e,he,hb=>by
  rcases List.mem_cons.1 he with rfl|he
  · exact h.1 hb
  · exact eP l h.2 e he hb
end Go.Proofs.YtohgjenaclfegaaGreatDoor.RA
namespace Go.Proofs.YtohgjenaclfegaaGreatDoor.RS
open Go.RowKit
structure Cls (K:World->World->Prop):Prop where
 refl:∀w,K w w
 trans:∀ {a b c},K a b->K b c->K a c
 drawn:∀(w:World) n,K w { w with drawn:=n }
abbrev dZ (ks:Nat->Option Nat) (f:Nat->Value) (j:Nat):Value:=RA.dZ ks f j
abbrev qL (ks:Nat->Option Nat) (R:Nat->Value->Value->World->Prop) (vs:Nat->Value) (w:World) (l:List Edge):Prop:=RA.qL ks R vs w l
theorem eP {ks:Nat->Option Nat} {R:Nat->Value->Value->World->Prop} {vs:Nat->Value} {w:World} (l:List Edge) (h:qL ks R vs w l):∀e∈l,Region.binds .any e=true->R e.on (dZ ks vs e.on) (vs e.on) w:=RA.eP l h
def kS (K:World->World->Prop) (ks:Nat->Option Nat) (P:Program) (ops:Array Oper) (R:Nat->Value->Value->World->Prop) (w0:World) (a0:Act) (i:Nat) (o:Oper):Prop :=
 ∀(vs:Nat->Value) (w:World),K w0 w->qL ks R vs w o.after.toList ->
  wpList P ops (fun e a' w'=>e=.normal/\a'.defers=a0.defers/\K w w'/\R i (dZ ks vs i) (lW o a') w') [o] (seen ops vs i a0) w
def aZ (K:World->World->Prop) (ks:Nat->Option Nat) (P:Program) (ops:Array Oper) (R:Nat->Value->Value->World->Prop) (w0:World) (a0:Act):Nat->List Oper->Prop
 | _,[]=>True
 | k,o :: l=>kS K ks P ops R w0 a0 k o/\aZ K ks P ops R w0 a0 (k+1) l
theorem aZ.a {K:World->World->Prop} {ks:Nat->Option Nat} {P:Program} {ops:Array Oper} {R:Nat->Value->Value->World->Prop} {w0:World} {a0:Act}:∀(l:List Oper) (k:Nat),aZ K ks P ops R w0 a0 k l->RA.aZ (fun _ _ _ _=>True) K ks P ops R w0 a0 k l
 | [],_,_=>trivial
 | o :: l,k,h=>⟨fun vs w hb hE=>CG (fun e a w hh=>⟨hh.1,hh.2.1,hh.2.2.1,hh.2.2.2,trivial⟩) (h.1 vs w hb hE),aZ.a l (k+1) h.2⟩
theorem dH {P:Program} {K:World->World->Prop} (hK:Cls K) (ks:Nat->Option Nat) {l:List Oper} {Q:Exit->Act->World->Prop} {a0:Act} {w0:World} (n:Nat) (R:Nat->Value->Value->World->Prop)
 (hB:(iI l.toArray a0.tmps.size&&gW l.toArray n&&(decide (l.length<=n)||(Region.sinkB .any l.toArray n&&Region.chainB .any l.toArray n))&&decide (n<=l.length)&&Region.seqB .any l.toArray (l.length-n) n ((List.range l.length).map fun i=>decide (i<n)).toArray)=true)
 (hks:∀i o k,l.toArray[i]? = some o->ks i=some k->∃e∈o.after,Region.binds .any e=true/\e.on=k) (hst:∀i x v w w',R i x v w->K w w'->R i x v w') (hsteps:aZ K ks P l.toArray R w0 a0 0 (l.take n))
 (hfin:∀vs w',K w0 w'->(∀i,i<n->R i (dZ ks vs i) (vs i) w')->wpList P l.toArray Q (l.drop n) (bK vs 0 (l.take n) a0) w'):wpAny P .any l.toArray Q l.toArray.size (Array.replicate l.toArray.size false) a0 { w0 with drawn:=w0.drawn+1 }:=by
 exact RA.dH (F:=fun _ _ _ _=>True) ⟨hK.refl,hK.trans,hK.drawn⟩ ks n R (fun _=>false) (fun h=>by obtain⟨p,hp⟩:=h;cases hp) (fun p hp=>by cases hp) hB hks hst (aZ.a _ _ hsteps) fun vs w' h1 h2 _=>hfin vs w' h1 h2
end Go.Proofs.YtohgjenaclfegaaGreatDoor.RS
namespace Go.Proofs.YtohgjenaclfegaaGreatDoor
open Go.RowKit
theorem Nl:RS.Cls (fun w w'=>Below w.heap.size w w'):=⟨fun w=>Below.refl _ _,fun h1 h2=>ah h1 h2,fun w n=>⟨rfl,rfl,rfl,Nat.le_refl _,fun _ _=>rfl⟩⟩
theorem wS {ops:Array Oper} {n:Nat} (h:eF ops n=true):gW ops n=true:=by
 unfold eF at h
 unfold gW
 rw[List.all_eq_true]at h ⊢;intro i hi;have h1:=h i hi
 cases ho:ops[i]? with
 | none=>rfl
 | some o =>
  rw[ho]at h1;simp only[Bool.and_eq_true]at h1 ⊢;exact ⟨h1.1.2,h1.2⟩
def b_ (p:Value->World->Prop):Prop:=∀v w w',p v w->Below w.heap.size w w'->p v w'
def ak (u:Value):Value->World->Prop:=fun v _=>v=u
def gU:Value->World->Prop:=fun _ _=>True
theorem aI (u:Value):b_ (ak u):=fun _ _ _ h _=>h
theorem gI:b_ gU:=fun _ _ _ _ _=>trivial
def rel (ps:List (Value->World->Prop)) (i:Nat) (v:Value) (w:World):Prop:=(ps.getD i gU) v w
def aY:List (Value->World->Prop)->Prop
 | []=>True
 | p :: l=>b_ p/\aY l
def bV (vs:Nat->Value) (w:World):Nat->List (Value->World->Prop)->Prop
 | _,[]=>True
 | k,p :: l=>p (vs k) w/\bV vs w (k+1) l
theorem aY.get:∀(ps:List (Value->World->Prop)) (i:Nat),aY ps->b_ (ps.getD i gU)
 | [],i,_=>by simpa using gI
 | p :: l,0,h=>by simpa using h.1
 | p :: l,i+1,h=>by simpa using aY.get l i h.2
theorem dS {vs:Nat->Value} {w:World}:∀(ps:List (Value->World->Prop)) (k:Nat),(∀i,i<ps.length->(ps.getD i gU) (vs (k+i)) w)->bV vs w k ps
 | [],_,_=>trivial
 | p :: l,k,h=>⟨by simpa using h 0 (by simp),dS l (k+1) fun i hi=>by
  have:=h (i+1) (by simp;omega)
  rw[show k+1+i=k+(i+1) by omega];simpa using this⟩
def uF (o:Oper) (j:Nat):Bool:=o.after.toList.any fun e=>Region.binds .any e&&e.on==j
def aN (vs:Nat->Value):Nat->List (Option Tmp)->Act->Act
 | _,[],a=>a
 | k,d :: rest,a=>aN vs (k+1) rest (a.put d (vs k))
theorem bJ (vs:Nat->Value):∀(l:List Oper) (k:Nat) (a:Act),bK vs k l a=aN vs k (l.map (·.dst)) a
 | [],_,_=>rfl
 | o :: l,k,a=>bJ vs l (k+1) _
def Users (P:Program) (ps:List (Value->World->Prop)) (w0:World) (a0:Act):List (Option Tmp)->List Oper->List (Value->World->Prop)->Prop
 | pre,o :: l,q :: qs=>(∀(vs:Nat->Value) (w:World),Below w0.heap.size w0 w->(∀j,uF o j=true->rel ps j (vs j) w) ->
  wpList P #[] (fun e a' w'=>e=.normal/\a'.defers=a0.defers/\Below w.heap.size w w'/\q (lW o a') w') [o] (aN vs 0 pre a0) w)/\Users P ps w0 a0 (pre++[o.dst]) l qs
 | _,_,_=>True
theorem nN {P:Program} {ops ops':Array Oper} {Q:Exit->Act->World->Prop} {o:Oper} {a:Act} {w:World} (hg:o.guard=none) (h:wpList P ops Q [o] a w):wpList P ops' Q [o] a w:=by
 have hw:∀y,Region.wanted o y=true:=fun y=>by simp[Region.wanted,hg]
 simp only[wpList,hw,if_true]at h ⊢;exact h
theorem Users.rg {P:Program} {ps:List (Value->World->Prop)} {w0:World} {a0:Act} {L:List Oper} {n:Nat} (hlk:eF L.toArray n=true) (hnp:n<=ps.length):∀(l:List Oper) (k:Nat),(∀j,l[j]? = (L.take n)[k+j]?)->Users P ps w0 a0 ((L.take k).map (·.dst)) l (ps.drop k)->RS.aZ (fun w w'=>Below w.heap.size w w') (fun _=>none) P L.toArray (fun i _ v w=>rel ps i v w) w0 a0 k l
 | [],_,_,_=>trivial
 | o :: l,k,hl,h=>by
  have h0:(L.take n)[k]? = some o:=by simpa using (hl 0).symm
  obtain⟨hkn,hLo⟩:=cZ h0;have hkp:k<ps.length:=by omega
  rw[List.drop_eq_getElem_cons hkp]at h;refine ⟨fun vs w hb hE=>?_,Users.rg hlk hnp l (k+1) (fun j=>by have:=hl (j+1);simpa [Nat.add_assoc,Nat.add_comm 1 j] using this) ?_⟩
  · have h1:=List.all_eq_true.1 hlk k (List.mem_range.2 hkn);have LZ:L.toArray[k]? = some o:=by simpa using hLo
    simp only[LZ,Bool.and_eq_true]at h1
    have hu:=h.1 vs w hb fun j hj=>by
     obtain⟨e,he,nY⟩:=List.any_eq_true.1 hj;simp only[Bool.and_eq_true,beq_iff_eq]at nY;have:=RS.eP _ hE e he nY.1
     rwa [nY.2]at this
    have hfr:seen L.toArray vs k a0=aN vs 0 ((L.take k).map (·.dst)) a0:=bJ vs _ 0 a0;rw [hfr];refine nN (ops:=#[]) (by simpa using h1.1.1) ?_;have hq:ps[k]=ps.getD k gU:=by simp[List.getD_eq_getElem?_getD,hkp]
    rw[hq]at hu;exact hu
  · have h2:=h.2
    have e1:(L.take k).map (·.dst)++[o.dst]=(L.take (k+1)).map (·.dst):=by
     rw[List.take_add_one,hLo];simp
    rw[e1]at h2;exact h2
theorem bM {P:Program} {l:List Oper} {Q:Exit->Act->World->Prop} {a0:Act} {w0:World} (ps:List (Value->World->Prop)) (n sz:Nat) (hnp:ps.length=n) (hsz:a0.tmps.size=sz)
 (hB:(iI l.toArray sz&&eF l.toArray n&&(decide (l.length<=n)||(Region.sinkB .any l.toArray n&&Region.chainB .any l.toArray n))&&decide (n<=l.length)&&Region.seqB .any l.toArray (l.length-n) n ((List.range l.length).map fun i=>decide (i<n)).toArray)=true)
 (hst:aY ps) (hsteps:Users P ps w0 a0 [] (l.take n) ps)
 (hfin:∀vs w',Below w0.heap.size w0 w'->bV vs w' 0 ps->wpList P l.toArray Q (l.drop n) (aN vs 0 ((l.take n).map (·.dst)) a0) w'):wpAny P .any l.toArray Q l.toArray.size (Array.replicate l.toArray.size false) a0 { w0 with drawn:=w0.drawn+1 }:=by
 subst hnp hsz;have hlk:eF l.toArray ps.length=true:=by simp only[Bool.and_eq_true]at hB;exact hB.1.1.1.2
 replace hB:(iI l.toArray a0.tmps.size&&gW l.toArray ps.length&&(decide (l.length<=ps.length)||(Region.sinkB .any l.toArray ps.length&&Region.chainB .any l.toArray ps.length))&&decide (ps.length<=l.length)&&Region.seqB .any l.toArray (l.length-ps.length) ps.length ((List.range l.length).map fun i=>decide (i<ps.length)).toArray)=true:=by
  simp only[Bool.and_eq_true]at hB ⊢;exact ⟨⟨⟨⟨hB.1.1.1.1,wS hlk⟩,hB.1.1.2⟩,hB.1.2⟩,hB.2⟩
 refine RS.dH Nl (fun _=>none) ps.length (fun i _ v w=>rel ps i v w) hB (fun _ _ _ _ h=>by cases h) (fun i _ v w w' h hb=>aY.get ps i hst v w w' h hb) (Users.rg hlk (Nat.le_refl _) (l.take ps.length) 0 (fun j=>by simp) hsteps) fun vs w' hb hR=>by rw[bJ];exact hfin vs w' hb (dS ps 0 fun i hi=>by rw[Nat.zero_add];exact hR i hi)
theorem au {P:Program} {id:Nat} {l:List Oper} {Q:Exit->Act->World->Prop} {a0:Act} {w0:World} (ps:List (Value->World->Prop)) (n sz:Nat) (hm:P.follows .mixedOrders=true) (hnp:ps.length=n) (hsz:a0.tmps.size=sz)
 (hB:(iI l.toArray sz&&eF l.toArray n&&(decide (l.length<=n)||(Region.sinkB .any l.toArray n&&Region.chainB .any l.toArray n))&&decide (n<=l.length)&&Region.seqB .any l.toArray (l.length-n) n ((List.range l.length).map fun i=>decide (i<n)).toArray)=true)
 (hst:aY ps) (hsteps:Users P ps w0 a0 [] (l.take n) ps)
 (hfin:∀vs w',Below w0.heap.size w0 w'->bV vs w' 0 ps->wpList P l.toArray Q (l.drop n) (aN vs 0 ((l.take n).map (·.dst)) a0) w'):(Code.region id l.toArray true).wp P Q a0 w0 :=
 wp_region_any hm (bM ps n sz hnp hsz hB hst hsteps hfin)
def aT (P:Program) (ops:Array Oper) (ps:List (Value->World->Prop)) (w0:World) (a0:Act):List (Option Tmp)->List Oper->List (Value->World->Prop)->Prop
 | pre,o :: l,q :: qs=>(∀(vs:Nat->Value) (w:World),Below w0.heap.size w0 w->(∀j,uF o j=true->rel ps j (vs j) w) ->
  wpList P ops (fun e a' w'=>e=.normal/\a'.defers=a0.defers/\Below w.heap.size w w'/\q (lW o a') w') [o] (aN vs 0 pre a0) w)/\aT P ops ps w0 a0 (pre++[o.dst]) l qs
 | _,_,_=>True
theorem aT.rg {P:Program} {ps:List (Value->World->Prop)} {w0:World} {a0:Act} {L:List Oper} {n:Nat} (hnp:n<=ps.length):∀(l:List Oper) (k:Nat),(∀j,l[j]? = (L.take n)[k+j]?)->aT P L.toArray ps w0 a0 ((L.take k).map (·.dst)) l (ps.drop k)->RS.aZ (fun w w'=>Below w.heap.size w w') (fun _=>none) P L.toArray (fun i _ v w=>rel ps i v w) w0 a0 k l
 | [],_,_,_=>trivial
 | o :: l,k,hl,h=>by
  have h0:(L.take n)[k]? = some o:=by simpa using (hl 0).symm
  obtain⟨hkn,hLo⟩:=cZ h0;have hkp:k<ps.length:=by omega
  rw[List.drop_eq_getElem_cons hkp]at h;refine ⟨fun vs w hb hE=>?_,aT.rg hnp l (k+1) (fun j=>by have:=hl (j+1);simpa [Nat.add_assoc,Nat.add_comm 1 j] using this) ?_⟩
  · have hu:=h.1 vs w hb fun j hj=>by
     obtain⟨e,he,nY⟩:=List.any_eq_true.1 hj;simp only[Bool.and_eq_true,beq_iff_eq]at nY;have:=RS.eP _ hE e he nY.1
     rwa [nY.2]at this
    have hfr:seen L.toArray vs k a0=aN vs 0 ((L.take k).map (·.dst)) a0:=bJ vs _ 0 a0;rw [hfr];have hq:ps[k]=ps.getD k gU:=by simp[List.getD_eq_getElem?_getD,hkp]
    rw[hq]at hu;exact hu
  · have h2:=h.2
    have e1:(L.take k).map (·.dst)++[o.dst]=(L.take (k+1)).map (·.dst):=by
     rw[List.take_add_one,hLo];simp
    rw[e1]at h2;exact h2
end Go.Proofs.YtohgjenaclfegaaGreatDoor
namespace Go.Proofs.YtohgjenaclfegaaGreatDoor.RS
open Go.RowKit
abbrev Rl:=Value->Value->World->Prop
def b_ (K:World->World->Prop) (p:Rl):Prop:=∀x v w w',p x v w->K w w'->p x v w'
def ak (u:Value):Rl:=fun _ v _=>v=u
def gU:Rl:=fun _ _ _=>True
theorem aI {K:World->World->Prop} (u:Value):b_ K (ak u):=fun _ _ _ _ h _=>h
theorem gI {K:World->World->Prop}:b_ K gU:=fun _ _ _ _ _ _=>trivial
def rel (ps:List Rl) (i:Nat):Rl:=ps.getD i gU
def aY (K:World->World->Prop):List Rl->Prop
 | []=>True
 | p :: l=>b_ K p/\aY K l
def bV (ks:Nat->Option Nat) (vs:Nat->Value) (w:World):Nat->List Rl->Prop
 | _,[]=>True
 | k,p :: l=>p (dZ ks vs k) (vs k) w/\bV ks vs w (k+1) l
theorem aY.get {K:World->World->Prop}:∀(ps:List Rl) (i:Nat),aY K ps->b_ K (ps.getD i gU)
 | [],i,_=>by simpa using gI
 | p :: l,0,h=>by simpa using h.1
 | p :: l,i+1,h=>by simpa using aY.get l i h.2
theorem dS {ks:Nat->Option Nat} {vs:Nat->Value} {w:World}:∀(ps:List Rl) (k:Nat),(∀i,i<ps.length->(ps.getD i gU) (dZ ks vs (k+i)) (vs (k+i)) w)->bV ks vs w k ps
 | [],_,_=>trivial
 | p :: l,k,h=>⟨by simpa using h 0 (by simp),dS l (k+1) fun i hi=>by
  have:=h (i+1) (by simp;omega)
  rw[show k+1+i=k+(i+1) by omega];simpa using this⟩
def uF (o:Oper) (j:Nat):Bool:=o.after.toList.any fun e=>Region.binds .any e&&e.on==j
def aN (vs:Nat->Value):Nat->List (Option Tmp)->Act->Act
 | _,[],a=>a
 | k,d :: rest,a=>aN vs (k+1) rest (a.put d (vs k))
theorem bJ (vs:Nat->Value):∀(l:List Oper) (k:Nat) (a:Act),bK vs k l a=aN vs k (l.map (·.dst)) a
 | [],_,_=>rfl
 | o :: l,k,a=>bJ vs l (k+1) _
def aT (K:World->World->Prop) (ks:Nat->Option Nat) (P:Program) (ops:Array Oper) (ps:List Rl) (w0:World) (a0:Act):Nat->List (Option Tmp)->List Oper->List Rl->Prop
 | k,pre,o :: l,q :: qs=>(∀(vs:Nat->Value) (w:World),K w0 w->(∀j,uF o j=true->rel ps j (dZ ks vs j) (vs j) w) ->
  wpList P ops (fun e a' w'=>e=.normal/\a'.defers=a0.defers/\K w w'/\q (dZ ks vs k) (lW o a') w') [o] (aN vs 0 pre a0) w)/\aT K ks P ops ps w0 a0 (k+1) (pre++[o.dst]) l qs
 | _,_,_,_=>True
theorem aT.rg {K:World->World->Prop} {ks:Nat->Option Nat} {P:Program} {ps:List Rl} {w0:World} {a0:Act} {L:List Oper} {n:Nat} (hnp:n<=ps.length):∀(l:List Oper) (k:Nat),(∀j,l[j]? = (L.take n)[k+j]?)->aT K ks P L.toArray ps w0 a0 k ((L.take k).map (·.dst)) l (ps.drop k)->aZ K ks P L.toArray (rel ps) w0 a0 k l
 | [],_,_,_=>trivial
 | o :: l,k,hl,h=>by
  have h0:(L.take n)[k]? = some o:=by simpa using (hl 0).symm
  obtain⟨hkn,hLo⟩:=cZ h0;have hkp:k<ps.length:=by omega
  rw[List.drop_eq_getElem_cons hkp]at h;refine ⟨fun vs w hb hE=>?_,aT.rg hnp l (k+1) (fun j=>by have:=hl (j+1);simpa [Nat.add_assoc,Nat.add_comm 1 j] using this) ?_⟩
  · have hu:=h.1 vs w hb fun j hj=>by
     obtain⟨e,he,nY⟩:=List.any_eq_true.1 hj;simp only[Bool.and_eq_true,beq_iff_eq]at nY;have:=eP _ hE e he nY.1
     rwa [nY.2]at this
    have hfr:seen L.toArray vs k a0=aN vs 0 ((L.take k).map (·.dst)) a0:=bJ vs _ 0 a0;rw [hfr];have hq:ps[k]=rel ps k:=by simp[rel,List.getD_eq_getElem?_getD,hkp]
    rw[hq]at hu;exact hu
  · have h2:=h.2
    have e1:(L.take k).map (·.dst)++[o.dst]=(L.take (k+1)).map (·.dst):=by
     rw[List.take_add_one,hLo];simp
    rw[e1]at h2;exact h2
def kY (l:List (Nat × Nat)) (i:Nat):Option Nat:=(l.find? (·.1==i)).map (·.2)
def QW (L:List Oper) (l:List (Nat × Nat)):Bool:=l.all fun p=>match L[p.1]? with|some o=>uF o p.2|none=>true
theorem o_ {L:List Oper} {l:List (Nat × Nat)} (h:QW L l=true) (i:Nat) (o:Oper) (k:Nat) (ho:L.toArray[i]? = some o) (hk:kY l i=some k):∃e∈o.after,Region.binds .any e=true/\e.on=k:=by
 unfold kY at hk
 cases hf:l.find? (·.1==i) with
 | none=>rw[hf]at hk;cases hk
 | some p =>
  rw[hf]at hk;have hp:=List.find?_some hf;have hm:=List.mem_of_find?_eq_some hf;have h1:=List.all_eq_true.1 h p hm;have e1:p.1=i:=by simpa using hp
  have e2:p.2=k:=by simpa using hk
  have ho':L[i]? = some o:=by simpa using ho
  rw[e1,ho']at h1;simp only[e2]at h1;obtain ⟨e,he,nY⟩:=List.any_eq_true.1 h1;simp only[Bool.and_eq_true,beq_iff_eq]at nY;exact ⟨e,by simpa using he,nY.1,nY.2⟩
theorem bM {K:World->World->Prop} (hK:Cls K) (kl:List (Nat × Nat)) {P:Program} {l:List Oper} {Q:Exit->Act->World->Prop} {a0:Act} {w0:World} (ps:List Rl) (n sz:Nat) (hnp:ps.length=n) (hsz:a0.tmps.size=sz)
 (hB:(iI l.toArray sz&&gW l.toArray n&&(decide (l.length<=n)||(Region.sinkB .any l.toArray n&&Region.chainB .any l.toArray n))&&decide (n<=l.length)&&Region.seqB .any l.toArray (l.length-n) n ((List.range l.length).map fun i=>decide (i<n)).toArray)=true)
 (hkl:QW l kl=true) (hst:aY K ps) (hsteps:aT K (kY kl) P l.toArray ps w0 a0 0 [] (l.take n) ps)
 (hfin:∀vs w',K w0 w'->bV (kY kl) vs w' 0 ps->wpList P l.toArray Q (l.drop n) (aN vs 0 ((l.take n).map (·.dst)) a0) w'):wpAny P .any l.toArray Q l.toArray.size (Array.replicate l.toArray.size false) a0 { w0 with drawn:=w0.drawn+1 }:=by
 subst hnp hsz;refine dH hK (kY kl) ps.length (rel ps) hB (o_ hkl) (fun i x v w w' h hb=>aY.get ps i hst x v w w' h hb) (aT.rg (Nat.le_refl _) (l.take ps.length) 0 (fun j=>by simp) hsteps) fun vs w' hb hR=>by rw[bJ];exact hfin vs w' hb (dS ps 0 fun i hi=>by rw[Nat.zero_add];exact hR i hi)
theorem au {K:World->World->Prop} (hK:Cls K) (kl:List (Nat × Nat)) {P:Program} {id:Nat} {l:List Oper} {Q:Exit->Act->World->Prop} {a0:Act} {w0:World} (ps:List Rl) (n sz:Nat) (hm:P.follows .mixedOrders=true) (hnp:ps.length=n) (hsz:a0.tmps.size=sz)
 (hB:(iI l.toArray sz&&gW l.toArray n&&(decide (l.length<=n)||(Region.sinkB .any l.toArray n&&Region.chainB .any l.toArray n))&&decide (n<=l.length)&&Region.seqB .any l.toArray (l.length-n) n ((List.range l.length).map fun i=>decide (i<n)).toArray)=true)
 (hkl:QW l kl=true) (hst:aY K ps) (hsteps:aT K (kY kl) P l.toArray ps w0 a0 0 [] (l.take n) ps)
 (hfin:∀vs w',K w0 w'->bV (kY kl) vs w' 0 ps->wpList P l.toArray Q (l.drop n) (aN vs 0 ((l.take n).map (·.dst)) a0) w'):(Code.region id l.toArray true).wp P Q a0 w0 :=
 wp_region_any hm (bM hK kl ps n sz hnp hsz hB hkl hst hsteps hfin)
def KF (B:Nat) (t:TypeId) (cs:Array Value) (w w':World):Prop:=Below B w w'/\w.heap.size<=w'.heap.size/\∀g c,B<=g->Bx w g t c->c.size=cs.size->Bx w' g t c∨Bx w' g t cs
theorem KF.of {B:Nat} {t:TypeId} {cs:Array Value} {w w':World} (hB:B<=w.heap.size) (h:Below w.heap.size w w'):KF B t cs w w':=⟨h.mono hB,h.size,fun g c _ hb _=>.inl (hb.call h)⟩
theorem yN (B:Nat) (t:TypeId) (cs:Array Value):Cls (KF B t cs) :=
 ⟨fun w=>⟨Below.refl _ _,Nat.le_refl _,fun g c _ h _=>.inl h⟩,
  fun h1 h2=>⟨h1.1.trans h2.1,Nat.le_trans h1.2.1 h2.2.1,fun g c hg h hc=>by
   rcases h1.2.2 g c hg h hc with h3|h3
   · exact h2.2.2 g c hg h3 hc
   · rcases h2.2.2 g cs hg h3 rfl with h4|h4 <;> exact .inr h4⟩,
  fun w n=>⟨⟨rfl,rfl,rfl,Nat.le_refl _,fun _ _=>rfl⟩,Nat.le_refl _,fun g c _ h _=>.inl h⟩⟩
def Yh (B:Nat) (t:TypeId) (cs:Array Value):Rl:=fun _ v w=>∃g c,v=.pointer (some ⟨g,0,none⟩)/\B<=g/\c.size=cs.size/\Bx w g t c
end Go.Proofs.YtohgjenaclfegaaGreatDoor.RS
namespace Go.Proofs.YtohgjenaclfegaaGreatDoor.RS
open Go.RowKit
variable {B:Nat} {t:TypeId} {cs:Array Value} {W w w':World}
theorem KF.rf (B:Nat) (t:TypeId) (cs:Array Value) (w:World):KF B t cs w w:=(yN B t cs).refl w
theorem KF.call (h:KF B t cs W w) (hB:B<=W.heap.size) (hb:Below w.heap.size w w'):KF B t cs w w':=KF.of (Nat.le_trans hB h.2.1) hb
theorem KF.new (h:KF B t cs W w) (hB:B<=W.heap.size) (z:Array Value) (hz:z.size=cs.size) (x:Value):KF B t cs w (w.alloc (.cells z t))/\Yh B t cs x (.pointer (some ⟨w.heap.size,0,none⟩)) (w.alloc (.cells z t)) :=
 ⟨h.call hB (bNew (Below.refl w.heap.size w) _),_,z,rfl,Nat.le_trans hB h.2.1,hz,Bx.mk w t z⟩
end Go.Proofs.YtohgjenaclfegaaGreatDoor.RS

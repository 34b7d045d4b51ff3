import Init.Data.Int.Pow
import Derived.WalkKit
import Derived.Lib.Hide
import Derived.Lib.Strings
import Derived.WalkSpells
import Derived.WalkLawsBesides
import Derived.Handy
import Derived.Outline
import Derived.Laws.BytesString
import Derived.Lib.QuietBelow
import Derived.BigQuiet
import Derived.StillTail
import Derived.Deep.DeepFit
import Derived.OwnWalk
import Derived.Laws.OwnMore
import Derived.Test.YtelljijajgiabaaGreatDoorShelf
import Derived.Lib.ItoaNum
import Derived.Lib.AtoiAll
set_option linter.unusedVariables false
set_option linter.unusedSimpArgs false
set_option maxRecDepth 100000
set_option maxHeartbeats 8000000
namespace Tb
def ch:Nat->Nat->Nat
 | _,0=>1
 | 0,_+1=>0
 | n+1,k+1=>ch n k+ch n (k+1)
theorem ch_zero (n:Nat):ch n 0=1:=by cases n <;> rfl
theorem ch_succ (n k:Nat):ch (n+1) (k+1)=ch n k+ch n (k+1):=rfl
theorem ch_over:∀ {n k:Nat},n<k->ch n k=0
 | 0,k+1,_=>rfl
 | n+1,k+1,h=>by rw[ch_succ,ch_over (by omega),ch_over (by omega)]
theorem ch_pos:∀ {n k:Nat},k<=n->0<ch n k
 | n,0,_=>by rw[ch_zero];omega
 | n+1,k+1,h=>by rw[ch_succ];have:=ch_pos (n:=n) (k:=k) (by omega);omega
def sm (f:Nat->Int) (k:Nat):Nat->Int
 | 0=>0
 | m+1=>sm f k m+f (k+m)
theorem sm_congr {f g:Nat->Int} {k:Nat}:∀ {m:Nat},(∀i,k<=i->i<k+m->f i=g i)->sm f k m=sm g k m
 | 0,_=>rfl
 | m+1,h=>by
  show sm f k m+f (k+m)=sm g k m+g (k+m)
  rw[sm_congr (m:=m) (fun i h1 h2=>h i h1 (by omega)),h (k+m) (by omega) (by omega)]
theorem sm_first (f:Nat->Int) (k:Nat):∀m,sm f k (m+1)=f k+sm f (k+1) m
 | 0=>by show 0+f (k+0)=f k+0;rw[Nat.add_zero];omega
 | m+1=>by
  show sm f k (m+1)+f (k+(m+1))=f k+(sm f (k+1) m+f (k+1+m))
  rw[sm_first f k m,show k+(m+1)=k+1+m by omega];omega
theorem sm_lin (c d:Int) (f g:Nat->Int) (k:Nat):∀m,sm (fun i=>c*f i+d*g i) k m=c*sm f k m+d*sm g k m
 | 0=>by show (0:Int)=c*0+d*0;simp
 | m+1=>by
  show sm (fun i=>c*f i+d*g i) k m+(c*f (k+m)+d*g (k+m))=c*(sm f k m+f (k+m))+d*(sm g k m+g (k+m))
  rw[sm_lin c d f g k m,Int.mul_add,Int.mul_add];omega
theorem sm_shift (f:Nat->Int) (k:Nat):∀m,sm (fun i=>f (i+1)) k m=sm f (k+1) m
 | 0=>rfl
 | m+1=>by
  show sm (fun i=>f (i+1)) k m+f (k+m+1)=sm f (k+1) m+f (k+1+m)
  rw[sm_shift f k m,show k+m+1=k+1+m by omega]
def tm (n:Nat) (c d:Int) (i:Nat):Int:=(ch n i:Int)*(c ^ i*d ^ (n-i))
def S (n k:Nat) (c d:Int):Int:=sm (tm n c d) k (n+1-k)
theorem tm_over {n i:Nat} {c d:Int} (h:n<i):tm n c d i=0:=by
 unfold tm;rw[ch_over h];simp
theorem tm_succ (n i:Nat) (c d:Int) (h:i<=n):tm (n+1) c d (i+1)=c*tm n c d i+d*tm n c d (i+1):=by
 unfold tm
 rw[ch_succ,Nat.add_sub_add_right]
 rcases Nat.lt_or_ge i n with h1|h1
 · rw[show n-i=(n-(i+1))+1 by omega,Int.pow_succ,Int.pow_succ]
   push_cast
   grind
 · have:i=n:=by omega
   subst this;rw [ch_over (Nat.lt_succ_self i)];simp only[Nat.sub_self,Int.pow_zero,Int.pow_succ]
   push_cast
   grind
theorem tm_zero (n:Nat) (c d:Int):tm (n+1) c d 0=d*tm n c d 0:=by
 unfold tm
 rw[ch_zero,ch_zero,Nat.sub_zero,Nat.sub_zero,Int.pow_succ];simp only[Int.pow_zero]
 grind
theorem S_over {n k:Nat} {c d:Int} (h:n<k):S n k c d=0:=by
 unfold S
 rw[show n+1-k=0 by omega];rfl
theorem sm_tail {f:Nat->Int} {k m:Nat} (h:f (k+m)=0):sm f k (m+1)=sm f k m:=by
 show sm f k m+f (k+m)=_
 rw[h];omega
theorem S_succ (n k:Nat) (c d:Int):S (n+1) (k+1) c d=c*S n k c d+d*S n (k+1) c d:=by
 rcases Nat.lt_or_ge n k with h|h
 · rw[S_over (by omega),S_over (by omega),S_over (by omega)];simp
 · unfold S
   rw[Nat.add_sub_add_right,←sm_shift];rw [sm_congr (g:=fun i=>c*tm n c d i+d*(fun i=>tm n c d (i+1)) i) (fun i h1 h2=>tm_succ n i c d (by omega))];rw [sm_lin,sm_shift];have e:n+1-k=(n+1-(k+1))+1:=by omega
   rw[e,sm_tail (f:=tm n c d) (k:=k+1) (tm_over (by omega))]
theorem S_all:∀(n:Nat) (c d:Int),S n 0 c d=(c+d) ^ n
 | 0,c,d=>by
  show 0+tm 0 c d 0=_
  simp[tm,ch]
 | n+1,c,d=>by
  have h:=S_succ n 0 c d
  have h1:S (n+1) 0 c d=tm (n+1) c d 0+S (n+1) 1 c d:=by
   unfold S;exact sm_first _ 0 _
  have h2:S n 0 c d=tm n c d 0+S n 1 c d:=by
   unfold S;exact sm_first _ 0 _
  rw[h1,h,tm_zero,Int.pow_succ,←S_all n c d,h2];simp only[Nat.zero_add]
  grind
theorem S_exact {n k:Nat} {c d:Int} (h:k<=n):S n k c d-S n (k+1) c d=tm n c d k:=by
 unfold S
 rw[show n+1-k=(n+1-(k+1))+1 by omega,sm_first];omega
theorem tm_nonneg {n i:Nat} {c d:Int} (hc:0<=c) (hd:0<=d):0<=tm n c d i:=by
 unfold tm
 exact Int.mul_nonneg (Int.natCast_nonneg _) (Int.mul_nonneg (Int.pow_nonneg hc) (Int.pow_nonneg hd))
theorem S_less {n k:Nat} {c d:Int} (hc:0<=c) (hd:0<=d):S n (k+1) c d<=S n k c d:=by
 rcases Nat.lt_or_ge n k with h|h
 · rw[S_over h,S_over (by omega)];exact Int.le_refl _
 · have:=S_exact (c:=c) (d:=d) h;have:=tm_nonneg (n:=n) (i:=k) hc hd;omega
theorem S_chance {c d c' d':Int} (hc:0<=c) (hd:0<=d) (hd':0<=d') (hcc:c<=c') (hs:c+d=c'+d'):∀(n k:Nat),S n k c d<=S n k c' d'
 | 0,0=>by rw[S_all,S_all,hs];exact Int.le_refl _
 | 0,k+1=>by rw[S_over (by omega),S_over (by omega)];exact Int.le_refl _
 | n+1,0=>by rw[S_all,S_all,hs];exact Int.le_refl _
 | n+1,k+1=>by
  rw[S_succ,S_succ];have h1:=Int.mul_le_mul_of_nonneg_left (S_chance hc hd hd' hcc hs n k) (show 0<=c' by omega);have h2:=Int.mul_le_mul_of_nonneg_left (S_chance hc hd hd' hcc hs n (k+1)) hd';have h3:=Int.mul_le_mul_of_nonneg_left (S_less (n:=n) (k:=k) hc hd) (show 0<=c'-c by omega);obtain rfl:d=c'+d'-c:=by omega
  generalize S n k c (c'+d'-c)=X at *;generalize S n (k+1) c (c'+d'-c)=Y at *;have e1:c*X+(c'+d'-c)*Y=c*X+c'*Y+d'*Y-c*Y:=by grind
  have e2:(c'-c)*Y=c'*Y-c*Y:=by grind
  have e3:(c'-c)*X=c'*X-c*X:=by grind
  omega
def vt (a b m i:Nat):Int:=(ch a i:Int)*(ch b (m-i):Int)
def H (t m d k:Nat):Int:=sm (vt m (t-m) d) k (d+1-k)
end Tb
namespace Tb
def ones (s:Nat):Nat->Nat
 | 0=>0
 | n+1=>ones s n+s / 2 ^ n % 2
def cnt (P:Nat->Bool):Nat->Nat
 | 0=>0
 | N+1=>cnt P N+if P N then 1 else 0
theorem cnt_congr {P Q:Nat->Bool}:∀ {N:Nat},(∀s,s<N->P s=Q s)->cnt P N=cnt Q N
 | 0,_=>rfl
 | N+1,h=>by
  show cnt P N+_=cnt Q N+_
  rw[cnt_congr (N:=N) (fun s hs=>h s (by omega)),h N (by omega)]
theorem cnt_add (P:Nat->Bool) (M:Nat):∀N,cnt P (M+N)=cnt P M+cnt (fun s=>P (M+s)) N
 | 0=>rfl
 | N+1=>by
  show cnt P (M+N)+_=cnt P M+(cnt (fun s=>P (M+s)) N+_)
  rw[cnt_add P M N,Nat.add_assoc];rfl
end Tb
namespace Tb
theorem rat_le {a b D:Int} (h:0<D):Rat.divInt a D<=Rat.divInt b D↔a<=b:=by
 rw[Rat.le_iff_sub_nonneg,Rat.divInt_sub_divInt _ _ (by omega) (by omega),←Int.sub_mul,Rat.divInt_mul_right (by omega),Rat.divInt_nonneg_iff_of_pos_right h];omega
def Pq (n k:Nat) (c d:Int):Rat:=Rat.divInt (S n k c d) ((c+d) ^ n)
def Hq (t m d k:Nat):Rat:=Rat.divInt (H t m d k) (ch t d:Int)
section
variable {n k:Nat} {c d:Int} (hc:0<=c) (hd:0<=d) (h1:1<=c+d)
include h1
theorem den_pos:0<(c+d) ^ n:=Int.pow_pos (by omega)
omit h1 in
theorem Pq_none (h:n<k):Pq n k c d=0:=by
 unfold Pq
 rw[S_over h,Rat.zero_divInt]
include hc hd
theorem Pq_chance {c' d':Int} (hd':0<=d') (hcc:c<=c') (hs:c+d=c'+d'):Pq n k c d<=Pq n k c' d':=by
 unfold Pq
 rw[←hs];exact (rat_le (den_pos h1)).2 (S_chance hc hd hd' hcc hs n k)
end
structure Le (n:Nat) (c d:Int) (level:Rat) (k:Nat):Prop where
 le:Pq n k c d<=level
 lt:∀j,j<k->level<Pq n j c d
theorem Le.level {n:Nat} {c d:Int} {lo hi:Rat} {k l:Nat} (h1:Le n c d lo k) (h2:Le n c d hi l) (h:lo<=hi):l<=k:=by
 rcases Nat.lt_or_ge k l with hk|hk
 · exact absurd (Rat.le_trans h1.le h) (Rat.not_le.2 (h2.lt k hk))
 · exact hk
theorem Le.chance {n:Nat} {c d c' d':Int} (hc:0<=c) (hd:0<=d) (hp:1<=c+d) (hd':0<=d') (hcc:c<=c') (hs:c+d=c'+d') {level:Rat} {k l:Nat} (h1:Le n c d level k) (h2:Le n c' d' level l):k<=l:=by
 rcases Nat.lt_or_ge l k with hk|hk
 · exact absurd (Rat.le_trans (Pq_chance hc hd hp hd' hcc hs) h2.le) (Rat.not_le.2 (h1.lt l hk))
 · exact hk
end Tb
namespace Go.Proofs.YtelljijajgiabaaGreatDoor
open Go.RowKit
theorem ba_app (a b:List UInt8):((⟨a.toArray⟩:ByteArray)++⟨b.toArray⟩)=⟨(a++b).toArray⟩:=by
 apply ByteArray.ext
 simp
theorem ba_ext (l:List UInt8) (a b:Nat):(⟨l.toArray⟩:ByteArray).extract a b=⟨((l.drop a).take (b-a)).toArray⟩:=by
 rw[Lib.extract_eq]
theorem ret_int {k:IntKind} {a b:Int} (h:a=b):Ending.returned (.int k a)=.returned (.int k b):=by rw[h]
theorem ret_bool {a b:Bool} (h:a=b):Ending.returned (.bool a)=.returned (.bool b):=by rw[h]
theorem bStart (a:World):Below a.heap.size a a:=Below.refl _ _
theorem bCall {a W w1:World} (h:Below a.heap.size a W) (hb:Below W.heap.size W w1):Below a.heap.size a w1:=h.trans (hb.mono h.size)
theorem bNew {a W:World} (h:Below a.heap.size a W) (o:Obj):Below a.heap.size a (W.alloc o):=h.alloc h.size o
theorem bAgain {a W:World} (h:Below a.heap.size a W) (d:Nat) (os:Array Obj):Below a.heap.size a (Sort.grow (redrawn W d) os):=bCall h (below_regrown W d os)
theorem bSet {a W:World} (h:Below a.heap.size a W) {p:Addr} (hp:a.heap.size<=p.block) (u:Value):Below a.heap.size a (W.setCell p u):=h.setCell hp u
theorem calls_below {P:Program} {f:FuncId} {args:Array Value} {w:World} {v:Value} (h:Calls P f args w fun e w'=>e=.returned v/\w=w'):Calls P f args w fun e w'=>e=.returned v/\Below w.heap.size w w' :=
 h.mono fun _ _ h=>⟨h.1,h.2 ▸ Below.refl _ _⟩
theorem below_drewN {B:Nat} {a w:World} (h:Below B a w) (n:Nat):Below B a (w.drewN n):=⟨h.os,h.tape,h.output,h.size,h.block⟩
theorem ba_get (l:List UInt8) (k:Nat) (h:k<(⟨l.toArray⟩:ByteArray).size):(⟨l.toArray⟩:ByteArray)[k]'h=l[k]'(show k<l.length from h):=rfl
attribute [go_sem] ba_app ba_ext ba_get
def At {α:Type} (size:Nat) (f:α->List Value) (w:World) (B:Nat) (A:Option Addr) (p:List α):Prop :=
 0<p.length->∃b off,A=some ⟨b,off,none⟩/\b<B/\∀i c,p[i]? = some c->∀j u,(f c)[j]? = some u->w.cell? ⟨b,off+i*size+j,none⟩=some u
section
variable {α:Type} {size:Nat} {f:α->List Value} {w w':World} {B B':Nat} {A:Option Addr} {p:List α}
theorem At.keep (h:At size f w B A p) (hk:∀b o,b<B->w'.cell? ⟨b,o,none⟩=w.cell? ⟨b,o,none⟩):At size f w' B A p:=fun h0=>by
 obtain⟨b,off,e,hb,hc⟩:=h h0;exact ⟨b,off,e,hb,fun i c hi j u hj=>(hk b _ hb).trans (hc i c hi j u hj)⟩
theorem At.below (h:At size f w B A p) (hb:Below B w w'):At size f w' B A p:=h.keep fun b o hlt=>hb.cell (p:=⟨b,o,none⟩) hlt
theorem At.more (h:At size f w B A p) (hB:B<=B'):At size f w B' A p:=fun h0=>by
 obtain⟨b,off,e,hb,hc⟩:=h h0;exact ⟨b,off,e,by omega,hc⟩
theorem At.take (h:At size f w B A p) (n:Nat):At size f w B A (p.take n):=fun h0=>by
 obtain⟨b,off,e,hb,hc⟩:=h (by simp at h0;omega);refine ⟨b,off,e,hb,fun i c hi=>hc i c ?_⟩;rw [List.getElem?_take]at hi
 split at hi
 · exact hi
 · cases hi
theorem At.nil:At size f w B A ([]:List α):=fun h=>by simp at h
end
section
variable {P:Program} {ops:Array Oper} {md:Region.Mode} {C:World->Prop}
def headQ (P:Program) (md:Region.Mode) (ops:Array Oper) (C:World->Prop) (n:Nat) (L:Array Bool->Act->Prop):Nat->Array Bool->Act->Prop
 | 0,listed,a=>L listed a
 | f+1,listed,a=>Region.ready md ops listed≠[]/\∀i∈Region.ready md ops listed,i<n/\qOp P ops C i (headQ P md ops C n L f (listed.setIfInBounds i true)) a
theorem any_of_headQ {n g:Nat} {L:Array Bool->Act->Prop} {Q':Exit->Act->World->Prop} (hL:∀listed a w,C w->L listed a->wpAny P md ops Q' g listed a w) :
 ∀(f:Nat) (listed:Array Bool) (a:Act) (w:World),C w->headQ P md ops C n L f listed a->wpAny P md ops Q' (f+g) listed a w
 | 0,listed,a,w,hC,h=>by rw[Nat.zero_add];exact hL _ _ _ hC h
 | f+1,listed,a,w,hC,h=>by
  rw[show f+1+g=(f+g)+1 by omega];exact ⟨fun h0=>absurd h0 h.1,fun i hi=>wpOp_of_qOp hC (fun a' w' hw' h'=>any_of_headQ hL f _ a' w' hw' h') (h.2 i hi).2⟩
theorem headQ_first {n i:Nat} {oi:Oper} {v:Value} {L:Array Bool->Act->Prop} (hi:ops[i]? = some oi) (hsel:∀(j:Nat) (o:Oper) cs b,ops[j]? = some o->o.op≠.select cs b)
 (hs:Region.sinkB md ops n=true) (hc:Region.chainB md ops n=true) (hn:n<ops.size) (hin:i<n) (hdone:∀listed a,L listed a->∀j∈Region.ready md ops listed,n<=j) :
 ∀(f:Nat) (listed:Array Bool) (a:Act),HeadInv md ops n listed ->
  (∀j oj,ops[j]? = some oj->j≠i->listed.getD j true=false->(∀e∈oj.after,Region.binds md e=true->e.on≠i)->oi.apart ops oj=true) ->
  i∈Region.ready md ops listed->YieldsIn P ops C oi v a ->
  headQ P md ops C n L f (listed.setIfInBounds i true) (a.put oi.dst v)->headQ P md ops C n L (f+1) listed a:=by
 intro f
 induction f with
 | zero =>
  intro listed a inv _ hr hy H;have hun:=(mem_ready.1 hr).1;refine ⟨List.ne_nil_of_mem hr,fun j hj=>?_⟩
  have hjn:j<n:=by
   rcases Nat.lt_or_ge j n with h|h
   · exact h
   · exact absurd hj (tail_waits hs hc hn inv _ i rfl hin hun j h)
  refine⟨hjn,?_⟩;by_cases hji:j=i
  · subst hji;exact hy.qOp hi H
  · have:=hdone _ _ H j (ready_mono hj hji);omega
 | succ f ih =>
  intro listed a inv hfree hr hy H;have hun:=(mem_ready.1 hr).1;refine ⟨List.ne_nil_of_mem hr,fun j hj=>?_⟩
  have hjn:j<n:=by
   rcases Nat.lt_or_ge j n with h|h
   · exact h
   · exact absurd hj (tail_waits hs hc hn inv _ i rfl hin hun j h)
  refine⟨hjn,?_⟩;by_cases hji:j=i
  · subst hji;exact hy.qOp hi H
  · have h1:=(H.2 j (ready_mono hj hji)).2;obtain ⟨hjun,oj,hoj,hall⟩:=mem_ready.1 hj
    have hnot:∀e∈oj.after,Region.binds md e=true->e.on≠i:=fun e he hb heq=>by
     have h1:=hall e he hb;rw [heq,getD_both hun]at h1;cases h1
    have h2:=qOp_put hoj (hfree j oj hoj hji hjun hnot) (fun cs b=>hsel i oi cs b hi) (fun cs b=>hsel j oj cs b hoj) hy h1
    have hfree':∀k ok,ops[k]? = some ok->k≠i->(listed.setIfInBounds j true).getD k true=false ->
     (∀e∈ok.after,Region.binds md e=true->e.on≠i)->oi.apart ops ok=true:=fun k ok hk hki hun' hno=>by
     refine hfree k ok hk hki ?_ hno;by_cases hjk:j=k
     · subst hjk;exact hjun
     · rw[getD_set_ne true hjk]at hun';exact hun'
    refine qOp_mono (fun a' h3=>ih (listed.setIfInBounds j true) a' (inv.set hj hjn) hfree' (ready_mono hr (Ne.symm hji)) h3.1 ?_) h2;rw [Array.setIfInBounds_comm _ _ hji];exact h3.2
theorem headQ_lex {n g:Nat} {Lq:Act->Prop} (hsel:Region.noSelect ops=true) (hs:Region.sinkB md ops n=true) (hc:Region.chainB md ops n=true) (hn:n<ops.size) :
 ∀(l:List Oper) (k:Nat) (listed:Array Bool) (a:Act),(∀j,j<l.length->l[j]? = ops[k+j]?)->k+l.length=n->HeadInv md ops n listed ->
 Region.lexHead md ops g l.length k listed=true->wpQuiet P ops C Lq l a ->
 headQ P md ops C n (fun listed' a'=>Region.seqB md ops g n listed'=true/\Lq a') l.length listed a
 | [],k,listed,a,_,hk,_,hB,h=>by
  obtain rfl:k=n:=by simpa using hk
  exact⟨by simpa [Region.lexHead] using hB,h⟩
 | o :: l,k,listed,a,hl,hk,inv,hB,h=>by
  have h0:ops[k]? = some o:=by simpa using (hl 0 (by simp)).symm
  simp only[List.length_cons,Region.lexHead,Bool.and_eq_true]at hB;obtain ⟨⟨hr,hf⟩,hB'⟩:=hB;have hkn:k<n:=by simp only[List.length_cons]at hk;omega
  have hr':k∈Region.ready md ops listed:=by simpa using hr
  have hst:qOp P ops C k (wpQuiet P ops C Lq l) a:=by unfold qOp;simp only[h0];exact h
  obtain⟨v,hy,hK⟩:=yieldsIn_of_qOp h0 hst
  exact headQ_first h0 (Region.noSelect_spec hsel) hs hc hn hkn (fun listed' a' hL=>seqB_ready hL.1) l.length listed a inv (Region.free_spec h0 hf) hr' hy
   (headQ_lex hsel hs hc hn l (k+1) _ _ (fun j hj=>by have:=hl (j+1) (by simp;omega);simpa [Nat.add_assoc,Nat.add_comm 1 j] using this) (by simp only[List.length_cons]at hk;omega) (inv.set hr' hkn) hB' hK)
theorem any_below_tail {Q:Exit->Act->World->Prop} {a:Act} {w:World} {l:List Oper} (n:Nat) (hB:Region.lexTailB .any l.toArray n=true)
 (h:wpQuiet P l.toArray (fun w'=>∃p:Regrown,w'=Sort.grow (redrawn w p.d) p.os) (fun a'=>∀w',(∃p:Regrown,w'=Sort.grow (redrawn w p.d) p.os)->wpList P l.toArray Q (l.drop n) a' w') (l.take n) a) :
 wpAny P .any l.toArray Q l.toArray.size (Array.replicate l.toArray.size false) a { w with drawn:=w.drawn+1 }:=by
 simp only[Region.lexTailB,Bool.and_eq_true,decide_eq_true_eq]at hB;obtain ⟨⟨⟨⟨hsel,hn⟩,hs⟩,hc⟩,hlex⟩:=hB;have hn':n<l.length:=by simpa using hn
 have htl:(l.take n).length=n:=by simp;omega
 have hdl:(l.drop n).length=l.toArray.size-n:=by simp
 have inv0:HeadInv .any l.toArray n (Array.replicate l.toArray.size false) :=
  ⟨by simp,fun j oj _ hl=>(by rw[getD_replicate_false]at hl;cases hl),fun t _ ht=>getD_in (by simpa using ht) (getD_replicate_false _ _)⟩
 have H:=headQ_lex (md:=.any) (g:=l.toArray.size-n) hsel hs hc hn (l.take n) 0 _ a (fun j hj=>by
  have hj':j<n:=by rw[htl]at hj;exact hj
  simp[hj']) (by simpa using htl) inv0 (by rw[htl];exact hlex) h
 have:=any_of_headQ (C:=fun w'=>∃p:Regrown,w'=Sort.grow (redrawn w p.d) p.os) (Q':=Q) (g:=l.toArray.size-n) (fun listed a' w' hC hL=>by
  have:=wpAny_of_seq (md:=.any) (Q':=Q) (l.drop n) n listed a' w' (fun j=>by simp[List.getElem?_drop]) (by rw[hdl];exact hL.1) (hL.2 w' hC)
  rwa [hdl]at this) _ _ _ _ ⟨⟨w.drawn+1,#[]⟩,by rw[Sort.grow_empty]⟩ H
 rw[htl,show n+(l.toArray.size-n)=l.toArray.size by omega]at this;exact this
theorem wp_region_below_tail {id:Nat} {Q:Exit->Act->World->Prop} {a:Act} {w:World} {l:List Oper} (n:Nat) (hm:P.follows .mixedOrders=true) (hB:Region.lexTailB .any l.toArray n=true)
 (h:wpQuiet P l.toArray (fun w'=>∃p:Regrown,w'=Sort.grow (redrawn w p.d) p.os) (fun a'=>∀w',(∃p:Regrown,w'=Sort.grow (redrawn w p.d) p.os)->wpList P l.toArray Q (l.drop n) a' w') (l.take n) a):(Code.region id l.toArray true).wp P Q a w :=
 wp_region_any hm (any_below_tail n hB h)
end
def Env (w : World) : Prop := Lib.TabIs Tryz.prog w "internal/strconv.uint64pow10" .u64 Lib.pow10Tab
theorem Env.below {w w':World} (h:Env w) (hb:Below w.heap.size w w'):Env w':=by
 unfold Env Lib.TabIs at *
 unfold World.var? at *
 cases hg : Tryz.prog.globalNamed "internal/strconv.uint64pow10" with
 | none=>rw[hg]at h;cases h
 | some g =>
  rw[hg]at h;simp only[Option.bind_some]at h ⊢
  have hlt:g<w.heap.size:=by
   rcases Nat.lt_or_ge g w.heap.size with h1|h1
   · exact h1
   · rw[Array.getElem?_eq_none h1]at h;cases h
  rw[hb.block g hlt];exact h
theorem Env.drewN {w:World} (h:Env w) (n:Nat):Env (w.drewN n):=h.below (below_drewN (Below.refl _ _) n)
theorem Env.regrown {w:World} (h:Env w) (d:Nat) (os:Array Obj):Env (Sort.grow (redrawn w d) os):=h.below (below_regrown w d os)
theorem below_grow (w:World) (k:Nat) (os:Array Obj):Below w.heap.size w (Sort.grow (w.drewN k) os):=below_regrown w _ os
theorem Trim_any (s cs:List UInt8) (w:World) (hs:s.length<=1000000) (hc:cs.length<=1000) (ha:∀b∈cs,b.toNat<128) :
 Calls Tryz.prog 177 #[.string ⟨s.toArray⟩,.string ⟨cs.toArray⟩] w fun e w'=>e=.returned (.string ⟨(Lib.trimS s cs).toArray⟩)/\Below w.heap.size w w':=by
 refine (Any.strings_Trim_laid Tryz.laysTrim (by kernel_rfl) ⟨s.toArray⟩ ⟨cs.toArray⟩ w (show s.length<=_ by omega) (show cs.length< _ by omega) (fun j b hb=>ha b ?_)).mono fun e w' h=>h
 exact List.mem_of_getElem? hb
theorem Repeat_any (s:List UInt8) (c:Int) (w:World) (h0:0<=c) (hc:c<=1000000) (hs:s.length<=1000000) :
 Calls Tryz.prog 146 #[.string ⟨s.toArray⟩,.int .i64 c] w fun e w'=>e=.returned (.string ⟨(Lib.repeatL s c.toNat).toArray⟩)/\Below w.heap.size w w':=by
 obtain⟨c,rfl⟩:=Int.eq_ofNat_of_zero_le h0;have:s.length*c<=1000000*1000000:=Nat.mul_le_mul hs (by omega);exact Tryz.strings_Repeat ⟨s.toArray⟩ c w (by omega) (show s.length*c<=_ by omega)
theorem Itoa_any (n:Int) (w:World) (h0: -9223372036854775808<=n) (h1:n<=9223372036854775807) (hE:Env w) :
 Calls Tryz.prog 95 #[.int .i64 n] w fun e w'=>e=.returned (.string ⟨(Lib.itoa n).toArray⟩)/\Below w.heap.size w w' :=
 (Tryz.strconv_Itoa n h0 h1 w hE).mono fun _ _ ⟨he,k,os,hw⟩=>⟨he,by rw[hw];exact below_grow w k os⟩
theorem Atoi_any (s:List UInt8) (v:Int) (w:World) (hs:s.length<=1000000) (h:Lib.atoiAll s=.ok v) :
 Calls Tryz.prog 179 #[.string ⟨s.toArray⟩] w fun e w'=>e=.returned (.tuple #[.int .i64 v,.nilIface])/\Below w.heap.size w w' :=
 (Tryz.strconv_Atoi_ok ⟨s.toArray⟩ (show s.length<=_ by omega) v h w).mono fun _ _ ⟨he,hw⟩=>⟨he,by
  rcases hw with rfl|⟨t,rfl⟩
  · exact Below.refl _ _
  · exact Lib.bytesWorld_below _ _ _⟩
theorem trim_digits (s cs:List UInt8):Lib.trimS s cs=[]↔∀b∈s,b∈cs:=by
 have hd:∀l:List UInt8,l.dropWhile (cs.contains ·)=[]↔∀b∈l,b∈cs:=by
  intro l
  induction l with
  | nil=>simp
  | cons x l ih =>
   rw[List.dropWhile_cons];by_cases hx:x∈cs
   · simp[hx];simpa using ih
   · simp[hx]
 unfold Lib.trimS Lib.trimLeftS
 rw[hd]
 unfold Lib.trimRightS
 constructor
 · intro h b hb;by_cases hall:∀b∈s,b∈cs
   · exact hall b hb
   · have hne:s.reverse.dropWhile (cs.contains ·)≠[]:=fun he=>hall (fun b hb=>((hd s.reverse).1 he) b (by simpa using hb))
     obtain⟨x,l,hl⟩:=List.exists_cons_of_ne_nil hne;have hx:=h x (by rw[hl];simp);have:cs.contains x=true:=by simpa using hx
     have h2:=List.head?_dropWhile_not (cs.contains ·) s.reverse;rw [hl]at h2;simp at h2
     exact absurd hx h2
 · intro h b hb
   exact h b (by
    have:=(List.dropWhile_suffix (cs.contains ·) (l:=s.reverse)).subset (by simpa using hb)
    simpa using this)
def numOf (s:List UInt8):Nat:=s.foldl (fun n c=>10*n+(c.toNat-48)) 0
def numFrom (n:Nat) (s:List UInt8):Nat:=s.foldl (fun n c=>10*n+(c.toNat-48)) n
theorem numFrom_lt:∀(s:List UInt8) (n:Nat),(∀c∈s,c.toNat<=57)->numFrom n s<(n+1)*10 ^ s.length
 | [],n,_=>by simp[numFrom]
 | c :: s,n,h=>by
  have h1:=numFrom_lt s (10*n+(c.toNat-48)) (fun d hd=>h d (by simp[hd]));have h2:=h c (by simp);have h3:(10*n+(c.toNat-48)+1)*10 ^ s.length<=((n+1)*10)*10 ^ s.length:=Nat.mul_le_mul_right _ (by omega)
  show numFrom (10*n+(c.toNat-48)) s< _
  rw[List.length_cons,Nat.pow_succ,Nat.mul_comm (10 ^ s.length) 10,←Nat.mul_assoc];omega
theorem numOf_lt (s:List UInt8) (h:∀c∈s,c.toNat<=57):numOf s<10 ^ s.length:=by
 have:=numFrom_lt s 0 h
 show numFrom 0 s< _
 simpa using this
theorem numFrom_ge:∀(s:List UInt8) (n:Nat),n<=numFrom n s
 | [],n=>Nat.le_refl _
 | c :: s,n=>Nat.le_trans (by omega) (numFrom_ge s (10*n+(c.toNat-48)))
theorem parse_digits:∀(s:List UInt8) (n:Nat),(∀c∈s,48<=c.toNat/\c.toNat<=57)->numFrom n s<1000000000000000000->Lib.parseUint10 n s=.ok (numFrom n s)
 | [],n,_,_=>rfl
 | c :: s,n,h,hb=>by
  have hc:=h c (by simp);have hge:=numFrom_ge s (10*n+(c.toNat-48));have hb':numFrom (10*n+(c.toNat-48)) s<1000000000000000000:=hb;have e:n*10+(c.toNat-48)=10*n+(c.toNat-48):=by omega
  rw[Lib.parseUint10,if_pos hc,if_neg (by omega),if_neg (by omega),e];exact parse_digits s _ (fun d hd=>h d (by simp[hd])) hb'
theorem atoi_digits (s:List UInt8) (h:∀c∈s,48<=c.toNat/\c.toNat<=57) (hne:s≠[]) (hl:s.length<=18):Lib.atoiAll s=.ok (numOf s:Int):=by
 have hlt:=numOf_lt s (fun c hc=>(h c hc).2);have h18:10 ^ s.length<=10 ^ 18:=Nat.pow_le_pow_right (by decide) hl;have hp:=parse_digits s 0 h (by show numOf s< _;omega)
 match s,hne with
 | c :: r,_ =>
  have hc:=h c (by simp);have hm:Lib.parseMag (c :: r)=.ok (numOf (c :: r)):=by unfold Lib.parseMag;rw[if_neg (by simp)];exact hp
  have e1:(if c.toNat=43∨c.toNat=45 then r else c :: r)=c :: r:=if_neg (by omega);have hb:numOf (c :: r)<1000000000000000000:=by omega
  rw[Lib.atoiAll];simp only[e1,hm];rw [if_neg (by omega),if_neg (by omega),if_neg (by omega)]
end Go.Proofs.YtelljijajgiabaaGreatDoor
namespace Ig
def gval:List Int->Int
 | []=>0
 | g :: l=>g+10000*gval l
def Gr (l:List Int):Prop:=∀g∈l,0<=g/\g<10000
def grp (n:Nat):List Int:=if h:n=0 then [] else ((n % 10000:Nat):Int) :: grp (n / 10000)
 termination_by n
 decreasing_by omega
theorem grp_zero:grp 0=[]:=by rw[grp,dif_pos rfl]
theorem grp_pos {n:Nat} (h:n≠0):grp n=((n % 10000:Nat):Int) :: grp (n / 10000):=by rw[grp,dif_neg h]
theorem gval_grp (n:Nat):gval (grp n)=n:=by
 induction n using Nat.strongRecOn with
 | _ n ih =>
  by_cases h:n=0
  · subst h;rw[grp_zero];rfl
  · rw[grp_pos h,gval,ih (n / 10000) (by omega)];omega
theorem gr_grp (n:Nat):Gr (grp n):=by
 induction n using Nat.strongRecOn with
 | _ n ih =>
  by_cases h:n=0
  · subst h;rw[grp_zero];intro g hg;cases hg
  · rw[grp_pos h];intro g hg
    rcases List.mem_cons.1 hg with rfl|hg
    · omega
    · exact ih (n / 10000) (by omega) g hg
theorem grp_nil {n:Nat}:grp n=[]↔n=0:=by
 constructor
 · intro h;by_cases h0:n=0
   · exact h0
   · rw[grp_pos h0]at h;cases h
 · rintro rfl;exact grp_zero
theorem gval_nonneg {l:List Int} (h:Gr l):0<=gval l:=by
 induction l with
 | nil=>exact Int.le_refl _
 | cons g l ih =>
  have h1:=h g (by simp);have h2:=ih (fun x hx=>h x (by simp[hx]))
  unfold gval;omega
theorem gval_append (a b:List Int):gval (a++b)=gval a+10000 ^ a.length*gval b:=by
 induction a with
 | nil=>simp[gval]
 | cons g a ih =>
  rw[List.cons_append,gval,ih,gval,List.length_cons,Int.pow_succ];rw [Int.mul_add,←Int.mul_assoc,Int.mul_comm 10000 (10000 ^ a.length)];omega
theorem gval_lt {l:List Int} (h:Gr l):gval l<10000 ^ l.length:=by
 induction l with
 | nil=>decide
 | cons g l ih =>
  have h1:=h g (by simp);have h2:=ih (fun x hx=>h x (by simp[hx]));rw [gval,List.length_cons,Int.pow_succ];omega
theorem grp_of:∀ {l:List Int},Gr l->l.getLast? ≠ some 0->l=grp (gval l).toNat
 | [],_,_=>by rw[gval];exact grp_zero.symm
 | g :: l,h,ht=>by
  have h1:=h g (by simp);have h2:Gr l:=fun x hx=>h x (by simp[hx])
  have h3:=gval_nonneg h2
  have ht2:l.getLast? ≠ some 0:=by
   cases l with
   | nil=>simp
   | cons a l=>simpa [List.getLast?_cons_cons] using ht
  have ih:=grp_of h2 ht2
  have hne:(gval (g :: l)).toNat≠0:=by
   rw[gval];intro h0;have hl0:gval l=0:=by omega
   rw[hl0]at ih;rw [show (0:Int).toNat=0 from rfl,grp_zero]at ih;subst ih;have hg:g=0:=by omega
   subst hg;simp at ht
  rw[grp_pos hne];have e1:((gval (g :: l)).toNat / 10000)=(gval l).toNat:=by rw[gval];omega
  have e2:(((gval (g :: l)).toNat % 10000:Nat):Int)=g:=by rw[gval];omega
  rw[e1,e2,←ih]
def trimG (l:List Int):List Int:=(l.reverse.dropWhile (·==0)).reverse
theorem trimG_snoc_zero (l:List Int):trimG (l++[0])=trimG l:=by simp[trimG]
theorem trimG_snoc {l:List Int} {g:Int} (h:g≠0):trimG (l++[g])=l++[g]:=by simp[trimG,h]
theorem snoc_cases (l:List Int):l=[]∨∃m g,l=m++[g]:=by
 rcases List.eq_nil_or_concat l with h|⟨m,g,h⟩
 · exact .inl h
 · exact .inr ⟨m,g,by simpa using h⟩
theorem trimG_grp:∀(n:Nat) {l:List Int},l.length=n->Gr l->trimG l=grp (gval l).toNat
 | 0,l,hn,_=>by
  obtain rfl:l=[]:=List.length_eq_zero_iff.1 hn;exact grp_zero.symm
 | n+1,l,hn,h=>by
  rcases snoc_cases l with rfl|⟨m,g,rfl⟩
  · simp at hn
  · have hm:Gr m:=fun x hx=>h x (by simp[hx])
    by_cases hg:g=0
    · subst hg;rw [trimG_snoc_zero,trimG_grp n (by simpa using hn) hm,gval_append];simp [gval]
    · rw[trimG_snoc hg];exact grp_of h (by simp[hg])
theorem trimG_of {l:List Int} (h:Gr l):trimG l=grp (gval l).toNat:=trimG_grp _ rfl h
theorem grp_getLast (n:Nat):(grp n).getLast? ≠ some 0:=by
 induction n using Nat.strongRecOn with
 | _ n ih =>
  by_cases h:n=0
  · subst h;rw[grp_zero];simp
  · rw[grp_pos h]
    cases hl:grp (n / 10000) with
    | nil =>
     have h0:=grp_nil.1 hl;simp;omega
    | cons a l =>
     rw[List.getLast?_cons_cons,←hl];exact ih (n / 10000) (by omega)
theorem grp_len {n k:Nat} (h:n<10000 ^ k):(grp n).length<=k:=by
 induction k generalizing n with
 | zero =>
  have:n=0:=by simpa using h
  subst this;rw[grp_zero];simp
 | succ k ih =>
  by_cases h0:n=0
  · subst h0;rw[grp_zero];simp
  · rw[grp_pos h0,List.length_cons]
    have:n / 10000<10000 ^ k:=by
     rw[Nat.pow_succ]at h;exact Nat.div_lt_of_lt_mul (by rw[Nat.mul_comm];exact h)
    have:=ih this;omega
theorem grp_lt (n:Nat):n<10000 ^ (grp n).length:=by
 have h1:=gval_lt (gr_grp n);rw [gval_grp]at h1;have h2:((10000 ^ (grp n).length:Nat):Int)=(10000:Int) ^ (grp n).length:=by simp
 omega
def atG (l:List Int) (i:Nat):Int:=l[i]?.getD 0
theorem atG_lt {l:List Int} {i:Nat} (h:i<l.length):atG l i=l[i]:=by simp[atG,h]
theorem atG_ge {l:List Int} {i:Nat} (h:l.length<=i):atG l i=0:=by simp[atG,h]
theorem gval_at (l:List Int) (k:Nat):gval (l.take (k+1))=gval (l.take k)+10000 ^ k*atG l k:=by
 by_cases h:k<l.length
 · rw[List.take_succ_eq_append_getElem h,gval_append,atG_lt h];simp [gval,Nat.min_eq_left (Nat.le_of_lt h)]
 · rw[List.take_of_length_le (by omega),List.take_of_length_le (by omega),atG_ge (by omega)];simp
def dsum (d:Nat->Int):Nat->Int
 | 0=>0
 | n+1=>dsum d n+10000 ^ n*d n
structure FoldAt (d:Nat->Int) (i:Nat) (out:List Int) (carry:Int):Prop where
 len:out.length=i
 gr:Gr out
 eq:gval out+10000 ^ i*carry=dsum d i
theorem fold_start (d:Nat->Int):FoldAt d 0 [] 0:=⟨rfl,(fun g h=>by cases h),by simp[gval,dsum]⟩
theorem fold_step {d:Nat->Int} {i:Nat} {out:List Int} {carry:Int} (h:FoldAt d i out carry):FoldAt d (i+1) (out++[(d i+carry) % 10000]) ((d i+carry) / 10000):=by
 refine⟨by simp[h.len],fun g hg=>?_,?_⟩
 · rcases List.mem_append.1 hg with hg|hg
   · exact h.gr g hg
   · obtain rfl:g=(d i+carry) % 10000:=by simpa using hg
     omega
 · rw[gval_append,h.len,dsum,←h.eq,Int.pow_succ];have e:(d i+carry) % 10000+10000*((d i+carry) / 10000)=d i+carry:=by omega
   simp only[gval];rw [Int.mul_zero,Int.add_zero,Int.mul_assoc,Int.add_assoc,←Int.mul_add,e,Int.mul_add];omega
theorem fold_carry {d:Nat->Int} {i:Nat} {out:List Int} {carry:Int} (h:FoldAt d i out carry) (h0:0<=dsum d i):0<=carry:=by
 have h1:=gval_lt h.gr;rw [h.len]at h1;have h2:=h.eq
 rcases Int.lt_or_le carry 0 with hc|hc
 · have h3:(10000:Int) ^ i*carry<=10000 ^ i*(-1):=Int.mul_le_mul_of_nonneg_left (by omega) (Int.le_of_lt (Int.pow_pos (by decide)));omega
 · exact hc
theorem fold_end {d:Nat->Int} {i:Nat} {out:List Int} (h:FoldAt d i out 0):trimG out=grp (dsum d i).toNat:=by
 rw[trimG_of h.gr];have:=h.eq;rw [Int.mul_zero,Int.add_zero]at this;rw [this]
theorem dsum_add (a b:Nat->Int) (n:Nat):dsum (fun i=>a i+b i) n=dsum a n+dsum b n:=by
 induction n with
 | zero=>rfl
 | succ n ih=>simp only[dsum,ih,Int.mul_add];omega
theorem dsum_sub (a b:Nat->Int) (n:Nat):dsum (fun i=>a i-b i) n=dsum a n-dsum b n:=by
 induction n with
 | zero=>rfl
 | succ n ih=>simp only[dsum,ih,Int.mul_sub];omega
theorem dsum_mul (a:Nat->Int) (c:Int) (n:Nat):dsum (fun i=>a i*c) n=dsum a n*c:=by
 induction n with
 | zero=>simp[dsum]
 | succ n ih=>simp only[dsum,ih,Int.add_mul,Int.mul_assoc]
theorem dsum_at (l:List Int) (n:Nat):dsum (atG l) n=gval (l.take n):=by
 induction n with
 | zero=>rfl
 | succ n ih=>rw[dsum,ih,gval_at]
theorem dsum_all {l:List Int} {n:Nat} (h:l.length<=n):dsum (atG l) n=gval l:=by rw[dsum_at,List.take_of_length_le h]
theorem atG_in {l:List Int} (h:Gr l) (i:Nat):0<=atG l i/\atG l i<10000:=by
 by_cases hi:i<l.length
 · rw[atG_lt hi];exact h _ (List.getElem_mem hi)
 · rw[atG_ge (by omega)];omega
theorem len_order {a b:Nat} (h:(grp a).length<(grp b).length):a<b:=by
 rcases Nat.lt_or_ge a b with h1|h1
 · exact h1
 · have h2:=grp_lt a;have:b<10000 ^ (grp a).length:=by omega
   have:=grp_len this;omega
theorem gval_order {l m:List Int} (hl:Gr l) (hm:Gr m) (hlen:l.length=m.length) (k:Nat) (hk:k<l.length) (hd:l.drop (k+1)=m.drop (k+1)) (hlt:atG l k<atG m k):gval l<gval m:=by
 have e:∀ {x:List Int} (hx:k<x.length),x=x.take k++(atG x k :: x.drop (k+1)):=fun {x} hx=>by
  rw[atG_lt hx,←List.drop_eq_getElem_cons hx,List.take_append_drop]
 rw[e hk,e (show k<m.length by omega),gval_append,gval_append,gval,gval,hd];have h1:=gval_lt (l:=l.take k) (fun g hg=>hl g (List.mem_of_mem_take hg));have h2:=gval_nonneg (l:=m.take k) (fun g hg=>hm g (List.mem_of_mem_take hg));have e1:(l.take k).length=k:=by simp;omega
 have e2:(m.take k).length=k:=by simp;omega
 rw[e1]at h1;rw [e1,e2]
 have h3:(10000:Int) ^ k*(atG l k+10000*gval (m.drop (k+1)))+10000 ^ k<=10000 ^ k*(atG m k+10000*gval (m.drop (k+1))):=by
  have:(10000:Int) ^ k*(atG l k+10000*gval (m.drop (k+1)))+10000 ^ k=10000 ^ k*(atG l k+10000*gval (m.drop (k+1))+1):=by rw[Int.mul_add (10000 ^ k) (_+_) 1,Int.mul_one]
  rw[this];exact Int.mul_le_mul_of_nonneg_left (by omega) (Int.le_of_lt (Int.pow_pos (by decide)))
 omega
end Ig
namespace Ig
def dg (k:Nat):UInt8:=UInt8.ofNat (48+k)
theorem dec_small {n:Nat} (h:n<10):Go.Lib.decDigits n=[dg n]:=by rw[Go.Lib.decDigits,dif_pos h];rfl
theorem dec_big {n:Nat} (h:¬n<10):Go.Lib.decDigits n=Go.Lib.decDigits (n / 10)++[dg (n % 10)]:=by rw[Go.Lib.decDigits,dif_neg h];rfl
def four (g:Nat):List UInt8:=[dg (g / 1000),dg (g / 100 % 10),dg (g / 10 % 10),dg (g % 10)]
theorem pad_four {g:Nat} (h:g<10000):List.replicate (4-Go.Lib.nDigits g) 48++Go.Lib.decDigits g=four g:=by
 have z:dg 0=48:=rfl;by_cases h1:g<10
 · rw[Go.Lib.nDigits_small h1,dec_small h1,four,show g / 1000=0 by omega,show g / 100 % 10=0 by omega,show g / 10 % 10=0 by omega,show g % 10=g by omega,z];rfl
 · by_cases h2:g<100
   · rw[Go.Lib.nDigits_big h1,Go.Lib.nDigits_small (by omega),dec_big h1,dec_small (by omega),four,show g / 1000=0 by omega,show g / 100 % 10=0 by omega,show g / 10 % 10=g / 10 by omega,z];rfl
   · by_cases h3:g<1000
     · rw[Go.Lib.nDigits_big h1,Go.Lib.nDigits_big (by omega),Go.Lib.nDigits_small (by omega),dec_big h1,dec_big (by omega),dec_small (by omega),four,show g / 1000=0 by omega,show g / 100 % 10=g / 10 / 10 by omega,z];rfl
     · rw[Go.Lib.nDigits_big h1,Go.Lib.nDigits_big (by omega),Go.Lib.nDigits_big (by omega),Go.Lib.nDigits_small (by omega),dec_big h1,dec_big (by omega),dec_big (by omega),dec_small (by omega),four,show g / 1000=g / 10 / 10 / 10 by omega,show g / 100 % 10=g / 10 / 10 % 10 by omega];rfl
theorem dec_groups {n:Nat} (h:10000<=n):Go.Lib.decDigits n=Go.Lib.decDigits (n / 10000)++four (n % 10000):=by
 rw[dec_big (by omega),dec_big (show ¬n / 10<10 by omega),dec_big (show ¬n / 10 / 10<10 by omega),dec_big (show ¬n / 10 / 10 / 10<10 by omega),four];rw [show n / 10 / 10 / 10 / 10=n / 10000 by omega,show n / 10 / 10 / 10 % 10=n % 10000 / 1000 by omega,show n / 10 / 10 % 10=n % 10000 / 100 % 10 by omega,show n / 10 % 10=n % 10000 / 10 % 10 by omega,show n % 10=n % 10000 % 10 by omega];simp
theorem dec_len (n:Nat):(Go.Lib.decDigits n).length=Go.Lib.nDigits n:=by
 induction n using Nat.strongRecOn with
 | _ n ih =>
  by_cases h:n<10
  · rw[dec_small h,Go.Lib.nDigits_small h];rfl
  · rw[dec_big h,Go.Lib.nDigits_big h,List.length_append,ih (n / 10) (by omega)];rfl
theorem nd_pos (n:Nat):1<=Go.Lib.nDigits n:=by
 by_cases h:n<10
 · rw[Go.Lib.nDigits_small h];omega
 · rw[Go.Lib.nDigits_big h];omega
theorem nd_le {n k:Nat} (hk:1<=k):Go.Lib.nDigits n<=k↔n<10 ^ k:=by
 induction k generalizing n with
 | zero=>omega
 | succ k ih =>
  by_cases h:n<10
  · rw[Go.Lib.nDigits_small h];have:10 ^ 1<=10 ^ (k+1):=Nat.pow_le_pow_right (by decide) (by omega)
    constructor
    · intro _;omega
    · intro _;omega
  · rw[Go.Lib.nDigits_big h];by_cases hk0:k=0
    · subst hk0;have:=nd_pos (n / 10);simp;omega
    · have:=ih (n:=n / 10) (by omega);rw [Nat.pow_succ];omega
def isD (c:UInt8):Bool:=decide (48<=c.toNat)&&decide (c.toNat<=57)
theorem dg_nat {k:Nat} (h:k<10):(dg k).toNat=48+k:=by
 have:∀k:Fin 10,(dg k.val).toNat=48+k.val:=by decide
 exact this ⟨k,h⟩
theorem isD_dg {k:Nat} (h:k<10):isD (dg k)=true:=by simp[isD,dg_nat h];omega
theorem dec_digits (n:Nat):(Go.Lib.decDigits n).all isD=true:=by
 induction n using Nat.strongRecOn with
 | _ n ih =>
  by_cases h:n<10
  · rw[dec_small h];simp[isD_dg h]
  · rw[dec_big h,List.all_append,ih (n / 10) (by omega)];simp[isD_dg (show n % 10<10 by omega)]
theorem dec_ne (n:Nat):Go.Lib.decDigits n≠[]:=by
 intro h;have:=dec_len n;rw [h]at this;have:=nd_pos n;simp at *;omega
theorem dec_head {n:Nat} (h:n≠0):(Go.Lib.decDigits n).head? ≠ some 48:=by
 induction n using Nat.strongRecOn with
 | _ n ih =>
  by_cases h1:n<10
  · rw[dec_small h1];intro he;simp at he
    have:=dg_nat h1;rw [he]at this;have:(48:UInt8).toNat=48:=rfl;omega
  · rw[dec_big h1]
    cases hd:Go.Lib.decDigits (n / 10) with
    | nil=>exact absurd hd (dec_ne _)
    | cons a l =>
     have:=ih (n / 10) (by omega) (by omega);rw [hd]at this;simpa using this
def nv (s:List UInt8):Nat:=s.foldl (fun n c=>10*n+(c.toNat-48)) 0
theorem nv_snoc (s:List UInt8) (c:UInt8):nv (s++[c])=10*nv s+(c.toNat-48):=by simp[nv,List.foldl_append]
theorem nv_dec (n:Nat):nv (Go.Lib.decDigits n)=n:=by
 induction n using Nat.strongRecOn with
 | _ n ih =>
  by_cases h:n<10
  · rw[dec_small h];simp[nv,dg_nat h]
  · rw[dec_big h,nv_snoc,ih (n / 10) (by omega),dg_nat (show n % 10<10 by omega)];omega
theorem dec_inj {a b:Nat} (h:Go.Lib.decDigits a=Go.Lib.decDigits b):a=b:=by rw[←nv_dec a,h,nv_dec]
theorem dec_of:∀(k:Nat) {s:List UInt8},s.length=k->s≠[]->s.all isD=true->(s=[48]∨s.head? ≠ some 48)->Go.Lib.decDigits (nv s)=s
 | 0,s,hk,hne,_,_=>absurd (List.length_eq_zero_iff.1 hk) hne
 | k+1,s,hk,hne,hd,hz=>by
  rcases List.eq_nil_or_concat s with h|⟨m,c,h⟩
  · exact absurd h hne
  · obtain rfl:s=m++[c]:=by simpa using h
    rw[List.all_append,Bool.and_eq_true]at hd;have hc:48<=c.toNat/\c.toNat<=57:=by simpa [isD] using hd.2
    have hcd:dg (c.toNat-48)=c:=by
     apply UInt8.toNat_inj.1
     rw[dg_nat (by omega)];omega
    by_cases hm:m=[]
    · subst hm;rw [nv_snoc];simp only[nv,List.foldl_nil,Nat.mul_zero,Nat.zero_add,List.nil_append];rw [dec_small (by omega),hcd]
    · have hz2:m.head? ≠ some 48:=by
       rcases hz with h|h
       · have:(m++[c]).length=1:=by rw[h];rfl
         simp at this
         exact absurd this hm
       · cases m with
         | nil=>exact absurd rfl hm
         | cons a l=>simpa using h
      have ih:=dec_of k (s:=m) (by simpa using hk) hm hd.1 (.inr hz2)
      have hpos:nv m≠0:=by
       intro h0;rw [h0,dec_small (by decide)]at ih;rw [←ih]at hz2;exact hz2 rfl
      rw[nv_snoc,dec_big (by omega),show (10*nv m+(c.toNat-48)) / 10=nv m by omega,ih,show (10*nv m+(c.toNat-48)) % 10=c.toNat-48 by omega,hcd]
def unsg (s:List UInt8):List UInt8:=if [45].isPrefixOf s then s.drop 1 else s
def validS (s:List UInt8):Bool:= !(unsg s).isEmpty&&decide ((unsg s).length<=200)&&(unsg s).all isD&&(s==[48]|| !((unsg s).head? == some 48))
def fits (z:Int):Prop:=z.natAbs<10 ^ 200
theorem itoa_nonneg {z:Int} (h:0<=z):Go.Lib.itoa z=Go.Lib.decDigits z.natAbs:=by
 unfold Go.Lib.itoa
 rw[if_neg (by omega),show z.toNat=z.natAbs by omega]
theorem itoa_neg {z:Int} (h:z<0):Go.Lib.itoa z=45 :: Go.Lib.decDigits z.natAbs:=by
 unfold Go.Lib.itoa
 rw[if_pos h]
theorem dec_nosign (n:Nat):[45].isPrefixOf (Go.Lib.decDigits n)=false:=by
 cases hd:Go.Lib.decDigits n with
 | nil=>rfl
 | cons a l =>
  have h:=dec_digits n;rw [hd,List.all_cons,Bool.and_eq_true]at h
  have ha:48<=a.toNat:=by
   have:=h.1;simp [isD]at this
   omega
  have hne:¬(45:UInt8)=a:=by
   rintro rfl;have:(45:UInt8).toNat=45:=rfl;omega
  simp[List.isPrefixOf,hne]
theorem unsg_itoa (z:Int):unsg (Go.Lib.itoa z)=Go.Lib.decDigits z.natAbs:=by
 unfold unsg
 by_cases h:0<=z
 · rw[itoa_nonneg h,dec_nosign];rfl
 · rw[itoa_neg (by omega)];rfl
theorem valid_itoa {z:Int} (h:fits z):validS (Go.Lib.itoa z)=true:=by
 unfold validS
 rw[unsg_itoa,dec_digits];have h1:(Go.Lib.decDigits z.natAbs).length<=200:=by rw[dec_len,nd_le (by decide)];exact h
 have h2:=dec_ne z.natAbs
 have h3:(Go.Lib.itoa z==[48]|| !((Go.Lib.decDigits z.natAbs).head? == some 48))=true:=by
  by_cases hz:z=0
  · subst hz;rw [itoa_nonneg (by decide),show (0:Int).natAbs=0 from rfl,dec_small (by decide)];rfl
  · have:=dec_head (n:=z.natAbs) (by omega);rw [Bool.or_eq_true];right;simpa using this
 rw[h3];simp [h2,h1]
theorem valid_is {s:List UInt8} (h:validS s=true):∃z,s=Go.Lib.itoa z/\fits z:=by
 simp only[validS,Bool.and_eq_true,Bool.or_eq_true,decide_eq_true_eq,Bool.not_eq_true',beq_iff_eq]at h;obtain ⟨⟨⟨h1,h2⟩,h3⟩,h4⟩:=h
 have hne:unsg s≠[]:=by
  intro he;rw[he]at h1;cases h1
 by_cases hs:[45].isPrefixOf s=true
 · have hu:unsg s=s.drop 1:=by unfold unsg;rw[if_pos hs]
   have hcons:s=45 :: unsg s:=by
    rw[hu]
    cases s with
    | nil=>cases hs
    | cons a l =>
     simp[List.isPrefixOf]at hs
     rw[←hs];rfl
   have hhd:(unsg s).head? ≠ some 48:=by
    rcases h4 with h4|h4
    · rw[h4]at hcons;cases hcons
    · simpa using h4
   have hd:=dec_of _ rfl hne h3 (.inr hhd)
   have hpos:nv (unsg s)≠0:=by
    intro h0;rw [h0,dec_small (by decide)]at hd;rw [←hd]at hhd;exact hhd rfl
   refine⟨-(nv (unsg s):Int),?_,?_⟩
   · rw[itoa_neg (by omega),Int.natAbs_neg,Int.natAbs_natCast,hd];exact hcons
   · unfold fits
     rw[Int.natAbs_neg,Int.natAbs_natCast,←nd_le (by decide),←dec_len,hd];exact h2
 · have hu:unsg s=s:=by unfold unsg;rw[if_neg hs]
   rw[hu]at h2 h3 hne h4
   have hd:=dec_of _ rfl hne h3 (by
    rcases h4 with h4|h4
    · exact .inl h4
    · exact .inr (by simpa using h4))
   refine⟨(nv s:Int),?_,?_⟩
   · rw[itoa_nonneg (by omega),Int.natAbs_natCast,hd]
   · unfold fits
     rw[Int.natAbs_natCast,←nd_le (by decide),←dec_len,hd];exact h2
theorem itoa_inj {a b:Int} (h:Go.Lib.itoa a=Go.Lib.itoa b):a=b:=by
 have h1:a.natAbs=b.natAbs:=dec_inj (by rw[←unsg_itoa,h,unsg_itoa]);by_cases ha:0<=a <;> by_cases hb:0<=b
 · omega
 · rw[itoa_nonneg ha,itoa_neg (by omega)]at h;have:=dec_nosign a.natAbs;rw [h]at this;simp[List.isPrefixOf]at this
 · rw[itoa_neg (by omega),itoa_nonneg hb]at h;have:=dec_nosign b.natAbs;rw [←h]at this;simp[List.isPrefixOf]at this
 · omega
end Ig
namespace Ig
theorem grp_shift {v:Nat} (h:v≠0):(0:Int) :: grp v=grp (10000*v):=by
 rw[grp_pos (n:=10000*v) (by omega),show 10000*v % 10000=0 by omega,show 10000*v / 10000=v by omega];rfl
theorem grp_eq_nil {v:Nat}:(grp v).length=0↔v=0:=by rw[List.length_eq_zero_iff,grp_nil]
def from_ (l:List Int) (i:Nat):Int:=gval (l.drop i)
theorem from_step {l:List Int} {i:Nat} (h:i<l.length):from_ l i=l[i]+10000*from_ l (i+1):=by
 unfold from_
 rw[List.drop_eq_getElem_cons h];rfl
theorem from_zero (l:List Int):from_ l 0=gval l:=rfl
theorem from_end {l:List Int} {i:Nat} (h:l.length<=i):from_ l i=0:=by unfold from_;rw[List.drop_eq_nil_of_le h];rfl
theorem from_nonneg {l:List Int} (h:Gr l) (i:Nat):0<=from_ l i:=gval_nonneg fun g hg=>h g (List.mem_of_mem_drop hg)
theorem div_step {g R M:Nat} (hM:0<M) (hg:g<10000):(g+10000*(R % M)) / M<10000/\(g+10000*R) / M=(g+10000*(R % M)) / M+10000*(R / M)/\(g+10000*R) % M=(g+10000*(R % M)) % M:=by
 have h1:=Nat.mod_lt R hM;have h2:=Nat.mod_add_div R M;refine ⟨?_,?_,?_⟩
 · rw[Nat.div_lt_iff_lt_mul hM];have:10000*(R % M)+10000<=10000*M:=by omega
   omega
 · have e:g+10000*R=(g+10000*(R % M))+M*(10000*(R / M)):=by
    conv=>lhs;rw[←h2]
    rw[Nat.mul_add,←Nat.mul_assoc,←Nat.mul_assoc,Nat.mul_comm M 10000];omega
   rw[e,Nat.add_mul_div_left _ _ hM]
 · have e:g+10000*R=(g+10000*(R % M))+M*(10000*(R / M)):=by
    conv=>lhs;rw[←h2]
    rw[Nat.mul_add,←Nat.mul_assoc,←Nat.mul_assoc,Nat.mul_comm M 10000];omega
   rw[e,Nat.add_mul_mod_self_left]
theorem div_found {R M d:Nat} (hM:0<M):M*(d+1)<=R↔d<R / M:=by
 rw[Nat.lt_iff_add_one_le,Nat.le_div_iff_mul_le hM,Nat.mul_comm]
def cmpI (a b:Nat):Int:=if a<b then -1 else if a=b then 0 else 1
theorem cmpI_lt {a b:Nat} (h:a<b):cmpI a b= -1:=by unfold cmpI;rw[if_pos h]
theorem cmpI_eq (a:Nat):cmpI a a=0:=by unfold cmpI;rw[if_neg (by omega),if_pos rfl]
theorem cmpI_gt {a b:Nat} (h:b<a):cmpI a b=1:=by unfold cmpI;rw[if_neg (by omega),if_neg (by omega)]
theorem cmp_len {a b:Nat} (h:(grp a).length≠(grp b).length):cmpI a b=if (grp a).length<(grp b).length then -1 else 1:=by
 by_cases h1:(grp a).length<(grp b).length
 · rw[if_pos h1,cmpI_lt (len_order h1)]
 · rw[if_neg h1,cmpI_gt (len_order (by omega))]
theorem cmp_at {a b:Nat} (hlen:(grp a).length=(grp b).length) (k:Nat) (hk:k<(grp a).length) (hd:(grp a).drop (k+1)=(grp b).drop (k+1)) (hne:atG (grp a) k≠atG (grp b) k):cmpI a b=if atG (grp a) k<atG (grp b) k then -1 else 1:=by
 have va:=gval_grp a;have vb:=gval_grp b;by_cases h:atG (grp a) k<atG (grp b) k
 · have:=gval_order (gr_grp a) (gr_grp b) hlen k hk hd h;rw [if_pos h,cmpI_lt (by omega)]
 · have:=gval_order (gr_grp b) (gr_grp a) hlen.symm k (by omega) hd.symm (by omega);rw [if_neg h,cmpI_gt (by omega)]
theorem cmp_same {a b:Nat} (h:grp a=grp b):cmpI a b=0:=by
 have va:=gval_grp a;have vb:=gval_grp b;rw [h,vb]at va;have:a=b:=by omega
 subst this;exact cmpI_eq a
theorem dsum_gap {d:Nat->Int} {n m:Nat} (h:∀i,n<=i->d i=0) (hm:n<=m):dsum d m=dsum d n:=by
 induction m with
 | zero =>
  have:n=0:=by omega
  subst this;rfl
 | succ m ih =>
  by_cases hn:n=m+1
  · subst hn;rfl
  · rw[dsum,h m (by omega),ih (by omega)];simp
end Ig
namespace Go.Proofs.YtelljijajgiabaaGreatDoor
open Go.RowKit
structure Kp (p:Prop):Prop where
 out:p
def Bx (w:World) (g:Nat) (t:TypeId) (cs:Array Value):Prop:=w.heap[g]? = some (.cells cs t (0,0))
section
variable {w w':World} {g:Nat} {t:TypeId} {cs:Array Value}
theorem Bx.lt (h:Bx w g t cs):g<w.heap.size:=by
 rcases Nat.lt_or_ge g w.heap.size with h1|h1
 · exact h1
 · unfold Bx at h;rw[Array.getElem?_eq_none h1]at h;cases h
theorem Bx.mk (w:World) (t:TypeId) (cs:Array Value):Bx (w.alloc (.cells cs t)) w.heap.size t cs:=by
 show (w.heap.push _)[w.heap.size]? = _
 simp
theorem Bx.new (h:Bx w g t cs) (o:Obj):Bx (w.alloc o) g t cs:=(Below.heap_alloc w o g h.lt).trans h
theorem Bx.below {B:Nat} (h:Bx w g t cs) (hb:Below B w w') (hg:g<B):Bx w' g t cs:=(hb.block g hg).trans h
theorem Bx.call (h:Bx w g t cs) (hb:Below w.heap.size w w'):Bx w' g t cs:=h.below hb h.lt
theorem Bx.again (h:Bx w g t cs) (d:Nat) (os:Array Obj):Bx (Sort.grow (redrawn w d) os) g t cs:=h.call (below_regrown w d os)
theorem Bx.drewN (h:Bx w g t cs) (n:Nat):Bx (w.drewN n) g t cs:=h
theorem Bx.cell (h:Bx w g t cs) (i:Nat) {v:Value} (hv:cs[i]? = some v):w.cell? ⟨g,i,none⟩=some v:=by
 unfold Bx at h
 simp[World.cell?,h,hv]
theorem Bx.frozen (h:Bx w g t cs) (i:Nat):w.frozen? ⟨g,i,none⟩=false:=by
 unfold Bx at h
 simp[World.frozen?,h]
theorem Bx.p3 {w:World} {g:Nat} {t:TypeId} {x0 x1 x2:Value} {l:List Value} (h:Bx w g t (x0 :: x1 :: x2 :: l).toArray):w.cell? ⟨g,0,none⟩=some x0/\w.cell? ⟨g,1,none⟩=some x1/\w.cell? ⟨g,2,none⟩=some x2:=⟨h.cell 0 rfl,h.cell 1 rfl,h.cell 2 rfl⟩
theorem Bx.p4 {w:World} {g:Nat} {t:TypeId} {x0 x1 x2 x3:Value} {l:List Value} (h:Bx w g t (x0 :: x1 :: x2 :: x3 :: l).toArray):w.cell? ⟨g,0,none⟩=some x0/\w.cell? ⟨g,1,none⟩=some x1/\w.cell? ⟨g,2,none⟩=some x2/\w.cell? ⟨g,3,none⟩=some x3:=⟨h.cell 0 rfl,h.cell 1 rfl,h.cell 2 rfl,h.cell 3 rfl⟩
theorem Bx.p5 {w:World} {g:Nat} {t:TypeId} {x0 x1 x2 x3 x4:Value} {l:List Value} (h:Bx w g t (x0 :: x1 :: x2 :: x3 :: x4 :: l).toArray):w.cell? ⟨g,0,none⟩=some x0/\w.cell? ⟨g,1,none⟩=some x1/\w.cell? ⟨g,2,none⟩=some x2/\w.cell? ⟨g,3,none⟩=some x3/\w.cell? ⟨g,4,none⟩=some x4:=⟨h.cell 0 rfl,h.cell 1 rfl,h.cell 2 rfl,h.cell 3 rfl,h.cell 4 rfl⟩
theorem Bx.p6 {w:World} {g:Nat} {t:TypeId} {x0 x1 x2 x3 x4 x5:Value} {l:List Value} (h:Bx w g t (x0 :: x1 :: x2 :: x3 :: x4 :: x5 :: l).toArray):w.cell? ⟨g,0,none⟩=some x0/\w.cell? ⟨g,1,none⟩=some x1/\w.cell? ⟨g,2,none⟩=some x2/\w.cell? ⟨g,3,none⟩=some x3/\w.cell? ⟨g,4,none⟩=some x4/\w.cell? ⟨g,5,none⟩=some x5:=⟨h.cell 0 rfl,h.cell 1 rfl,h.cell 2 rfl,h.cell 3 rfl,h.cell 4 rfl,h.cell 5 rfl⟩
theorem Bx.p7 {w:World} {g:Nat} {t:TypeId} {x0 x1 x2 x3 x4 x5 x6:Value} {l:List Value} (h:Bx w g t (x0 :: x1 :: x2 :: x3 :: x4 :: x5 :: x6 :: l).toArray):w.cell? ⟨g,0,none⟩=some x0/\w.cell? ⟨g,1,none⟩=some x1/\w.cell? ⟨g,2,none⟩=some x2/\w.cell? ⟨g,3,none⟩=some x3/\w.cell? ⟨g,4,none⟩=some x4/\w.cell? ⟨g,5,none⟩=some x5/\w.cell? ⟨g,6,none⟩=some x6:=⟨h.cell 0 rfl,h.cell 1 rfl,h.cell 2 rfl,h.cell 3 rfl,h.cell 4 rfl,h.cell 5 rfl,h.cell 6 rfl⟩
theorem Bx.p8 {w:World} {g:Nat} {t:TypeId} {x0 x1 x2 x3 x4 x5 x6 x7:Value} {l:List Value} (h:Bx w g t (x0 :: x1 :: x2 :: x3 :: x4 :: x5 :: x6 :: x7 :: l).toArray):w.cell? ⟨g,0,none⟩=some x0/\w.cell? ⟨g,1,none⟩=some x1/\w.cell? ⟨g,2,none⟩=some x2/\w.cell? ⟨g,3,none⟩=some x3/\w.cell? ⟨g,4,none⟩=some x4/\w.cell? ⟨g,5,none⟩=some x5/\w.cell? ⟨g,6,none⟩=some x6/\w.cell? ⟨g,7,none⟩=some x7:=⟨h.cell 0 rfl,h.cell 1 rfl,h.cell 2 rfl,h.cell 3 rfl,h.cell 4 rfl,h.cell 5 rfl,h.cell 6 rfl,h.cell 7 rfl⟩
theorem Bx.p9 {w:World} {g:Nat} {t:TypeId} {x0 x1 x2 x3 x4 x5 x6 x7 x8:Value} {l:List Value} (h:Bx w g t (x0 :: x1 :: x2 :: x3 :: x4 :: x5 :: x6 :: x7 :: x8 :: l).toArray):w.cell? ⟨g,0,none⟩=some x0/\w.cell? ⟨g,1,none⟩=some x1/\w.cell? ⟨g,2,none⟩=some x2/\w.cell? ⟨g,3,none⟩=some x3/\w.cell? ⟨g,4,none⟩=some x4/\w.cell? ⟨g,5,none⟩=some x5/\w.cell? ⟨g,6,none⟩=some x6/\w.cell? ⟨g,7,none⟩=some x7/\w.cell? ⟨g,8,none⟩=some x8:=⟨h.cell 0 rfl,h.cell 1 rfl,h.cell 2 rfl,h.cell 3 rfl,h.cell 4 rfl,h.cell 5 rfl,h.cell 6 rfl,h.cell 7 rfl,h.cell 8 rfl⟩
theorem Bx.p10 {w:World} {g:Nat} {t:TypeId} {x0 x1 x2 x3 x4 x5 x6 x7 x8 x9:Value} {l:List Value} (h:Bx w g t (x0 :: x1 :: x2 :: x3 :: x4 :: x5 :: x6 :: x7 :: x8 :: x9 :: l).toArray):w.cell? ⟨g,0,none⟩=some x0/\w.cell? ⟨g,1,none⟩=some x1/\w.cell? ⟨g,2,none⟩=some x2/\w.cell? ⟨g,3,none⟩=some x3/\w.cell? ⟨g,4,none⟩=some x4/\w.cell? ⟨g,5,none⟩=some x5/\w.cell? ⟨g,6,none⟩=some x6/\w.cell? ⟨g,7,none⟩=some x7/\w.cell? ⟨g,8,none⟩=some x8/\w.cell? ⟨g,9,none⟩=some x9:=⟨h.cell 0 rfl,h.cell 1 rfl,h.cell 2 rfl,h.cell 3 rfl,h.cell 4 rfl,h.cell 5 rfl,h.cell 6 rfl,h.cell 7 rfl,h.cell 8 rfl,h.cell 9 rfl⟩
theorem Bx.set (h:Bx w g t cs) (i:Nat) (u:Value):Bx (w.setCell ⟨g,i,none⟩ u) g t (cs.setIfInBounds i u):=by
 unfold Bx at h ⊢
 simp[World.setCell,Array.getElem?_modify,h]
theorem Bx.far (h:Bx w g t cs) {p:Addr} (hp:g≠p.block) (u:Value):Bx (w.setCell p u) g t cs:=(Below.heap_setCell w p u g hp).trans h
end
def I64 (x:Int):Prop:= -9223372036854775808<=x/\x<=9223372036854775807
theorem alloc_size (w:World) (o:Obj):(w.alloc o).heap.size=w.heap.size+1:=by
 show (w.heap.push o).size=_
 simp
def intC (c:Int):List Value:=[.int .i64 c]
theorem intI:∃i z,Tryz.prog.info? 3=some i/\i.zero=some z/\i.size=1/\z.cells.size=1/\i.bytes=8:=by
 have h:(Tryz.prog.info? 3).map (fun i=>(i.size,i.bytes,i.zero.map (·.cells.size)))=some (1,8,some 1):=by kernel_rfl
 cases hi:Tryz.prog.info? 3 with
 | none=>rw[hi]at h;cases h
 | some i =>
  rw[hi]at h;simp only[Option.map_some,Option.some.injEq,Prod.mk.injEq]at h;obtain ⟨h1,h2,h3⟩:=h
  cases hz:i.zero with
  | none=>rw[hz]at h3;cases h3
  | some z=>rw[hz]at h3;exact⟨i,z,rfl,hz,h1,by simpa using h3,h2⟩
theorem bNewW (W:World) (o:Obj):Below W.heap.size W (W.alloc o):=(Below.refl W.heap.size W).alloc (Nat.le_refl _) o
theorem exK {α:Type} (a:α):∃b,Kp (a=b):=⟨a,⟨rfl⟩⟩
theorem TrimPrefix_any (s:List UInt8) (w:World):Calls Tryz.prog 176 #[.string ⟨s.toArray⟩,.string ⟨#[45]⟩] w fun e w'=>e=.returned (.string ⟨(Ig.unsg s).toArray⟩)/\w=w' :=
 (Tryz.strings_TrimPrefix ⟨s.toArray⟩ ⟨#[45]⟩ w).mono fun e w' ⟨h1,h2⟩=>⟨by
  rw[h1]
  have:Lib.trimPrefix s [45]=Ig.unsg s:=by
   unfold Lib.trimPrefix Ig.unsg
   rfl
  simp only[this],h2.symm⟩
def tenD:List UInt8:=[48,49,50,51,52,53,54,55,56,57]
theorem mem_ten (b:UInt8):b∈tenD↔Ig.isD b=true:=by
 have:∀b:Fin 256,(UInt8.ofNat b.val)∈tenD↔Ig.isD (UInt8.ofNat b.val)=true:=by decide +kernel
 have h:=this ⟨b.toNat,b.toNat_lt⟩;simpa using h
theorem digits_trim (s:List UInt8):(Lib.trimS s tenD).isEmpty=s.all Ig.isD:=by
 rw[Bool.eq_iff_iff,List.isEmpty_iff,trim_digits];simp only[List.all_eq_true,mem_ten]
theorem isValid_any (s:List UInt8) (hs:s.length<=1000000) (w:World) :
 Calls Tryz.prog 134 #[.string ⟨s.toArray⟩] w fun e w'=>e=.returned (.bool (Ig.validS s))/\Below w.heap.size w w':=by
 have hT:=fun w0=>TrimPrefix_any s w0
 have hul:(Ig.unsg s).length<=1000000:=by
  unfold Ig.unsg
  split
  · rw[List.length_drop];omega
  · omega
 have hD:=fun w0=>Trim_any (Ig.unsg s) tenD w0 hul (by decide) (by decide)
 have hdt:=digits_trim (Ig.unsg s);have hdef:Kp (Ig.validS s=(!(Ig.unsg s).isEmpty&&decide ((Ig.unsg s).length<=200)&&(Ig.unsg s).all Ig.isD&&(s==[48]|| !((Ig.unsg s).head? == some 48)))):=⟨rfl⟩
 generalize Ig.unsg s=d at *;by_cases h0:d=[]
 · subst h0;have hfin:Kp (Ig.validS s=false):=⟨by rw[hdef.out];rfl⟩
   clear hdt hdef hD
   go_enter Tryz.func134,Tryz.ntmps134
   go_wp2_with (go_at_call 176;refine (hT _).mono ?_;rintro _ _ ⟨rfl,rfl⟩)
   go_ret;exact ⟨ret_bool hfin.out.symm,Below.refl _ _⟩
 · have e0:d.isEmpty=false:=by simpa using h0
   by_cases hl:d.length<=200
   · have t1:decide ((d.length:Int) > 200)=false:=by simp;omega
     cases hdd:d.all Ig.isD
     · have hfin:Kp (Ig.validS s=false):=⟨by rw[hdef.out,hdd];simp⟩
       rw[hdd]at hdt;clear hdef h0 hdd
       go_enter Tryz.func134,Tryz.ntmps134
       go_wp2_with (first
        | (go_at_call 176;refine (hT _).mono ?_;rintro _ _ ⟨rfl,rfl⟩)
        | (go_at_call 177;refine (hD _).mono ?_;rintro _ w1 ⟨rfl,hb⟩))
       go_ret;exact ⟨ret_bool hfin.out.symm,hb⟩
     · rw[hdd]at hdt;by_cases hz:s=[48]
       · have hfin:Kp (Ig.validS s=true):=⟨by rw[hdef.out,hdd,e0,decide_eq_true hl,hz];rfl⟩
         subst hz;clear hdef h0 hdd
         go_enter Tryz.func134,Tryz.ntmps134
         go_wp2_with (first
          | (go_at_call 176;refine (hT _).mono ?_;rintro _ _ ⟨rfl,rfl⟩)
          | (go_at_call 177;refine (hD _).mono ?_;rintro _ w1 ⟨rfl,hb⟩))
         go_ret;exact ⟨ret_bool hfin.out.symm,hb⟩
       · have hpos:0<d.length:=by
          cases d with
          | nil=>exact absurd rfl h0
          | cons a l=>simp
         have hhd:d.head? = some d[0]:=by
          cases d with
          | nil=>exact absurd rfl h0
          | cons a l=>rfl
         have hzb:(s==[48])=false:=by simpa using hz
         by_cases hc:d[0]=48
         · have hfin:Kp (Ig.validS s=false):=⟨by rw[hdef.out,hdd,e0,hhd,hc,hzb];simp⟩
           have t2:(((d[0].toNat:Nat):Int) != 48)=false:=by rw[hc];rfl
           clear hdef h0 hdd hhd hc
           go_enter Tryz.func134,Tryz.ntmps134
           go_wp2_with (first
            | (go_at_call 176;refine (hT _).mono ?_;rintro _ _ ⟨rfl,rfl⟩)
            | (go_at_call 177;refine (hD _).mono ?_;rintro _ w1 ⟨rfl,hb⟩))
           go_ret;exact ⟨ret_bool hfin.out.symm,hb⟩
         · have hfin:Kp (Ig.validS s=true):=⟨by rw[hdef.out,hdd,e0,hhd,hzb,decide_eq_true hl];simp[hc]⟩
           have hne:¬d[0].toNat=48:=fun h=>hc (by apply UInt8.toNat_inj.1;exact h)
           have t2:(((d[0].toNat:Nat):Int) != 48)=true:=by simp;omega
           clear hdef h0 hdd hhd hc
           go_enter Tryz.func134,Tryz.ntmps134
           go_wp2_with (first
            | (go_at_call 176;refine (hT _).mono ?_;rintro _ _ ⟨rfl,rfl⟩)
            | (go_at_call 177;refine (hD _).mono ?_;rintro _ w1 ⟨rfl,hb⟩))
           go_ret;exact ⟨ret_bool hfin.out.symm,hb⟩
   · have t1:decide ((d.length:Int) > 200)=true:=by simp;omega
     have hfin:Kp (Ig.validS s=false):=⟨by rw[hdef.out,decide_eq_false hl];simp⟩
     clear hdt hdef hD h0
     go_enter Tryz.func134,Tryz.ntmps134
     go_wp2_with (go_at_call 176;refine (hT _).mono ?_;rintro _ _ ⟨rfl,rfl⟩)
     go_ret;exact ⟨ret_bool hfin.out.symm,Below.refl _ _⟩
end Go.Proofs.YtelljijajgiabaaGreatDoor

import Derived.Lib.SlicesCompact
import Derived.Lib.QuietBelow
import Derived.BigQuiet
import Derived.Test.YtelljijajgiabaaGreatDoorQ06
import Derived.RangeFuncWrites
set_option linter.unusedVariables false
set_option linter.unusedSimpArgs false
set_option maxRecDepth 100000
set_option maxHeartbeats 8000000
namespace Tp
structure vV where
 days:Int
 lo:Int
 hi:Int
 price:Int
def within (n lo hi:Int):Bool:=decide (lo<=n)&&decide (n<=hi)
theorem within_iff {n lo hi:Int}:within n lo hi=true↔lo<=n/\n<=hi:=by simp[within]
def XE (r:vV):Bool:=within r.days 1 127&&decide (0<=r.lo)&&within r.hi (r.lo+1) 86400&&decide (r.lo<86400)&&within r.price 0 1000000
structure Ok (r:vV):Prop where
 d1:1<=r.days
 d2:r.days<=127
 l0:0<=r.lo
 lh:r.lo<r.hi
 h1:r.hi<=86400
 p0:0<=r.price
 p1:r.price<=1000000
def valid (base:Int) (l:List vV):Bool:=within base 0 1000000&&decide (l.length<=10)&&l.all XE
def sec (off t:Int):Int:=(t+off+604800) % 604800
def bit (days:Int) (k:Nat):Bool:=decide (days / 2 ^ k % 2=1)
def hits (s:Int) (r:vV):Bool:=bit r.days (s / 86400).toNat&&within (s % 86400) r.lo (r.hi-1)
def CU (base:Int) (l:List vV) (s:Int):Int:=match l.find? (hits s) with|some r=>r.price|none=>base
def price (base:Int) (l:List vV) (off t:Int):Int:=CU base l (sec off t)
def ZC (f:Int->Int) (a:Int):Nat->Int
 | 0=>0
 | n+1=>ZC f a n+f (a+n)
def sumF (f:Int->Int) (a b:Int):Int:=ZC f a (b-a).toNat
def ZK (C:List Int) (d:Int):Int:=match C.find? (fun c=>decide (d<c)) with|some c=>c|none=>86400
structure Cuts (l:List vV) (C:List Int):Prop where
 los:∀r∈l,r.lo∈C
 his:∀r∈l,r.hi % 86400∈C
 rg:∀c∈C,0<=c/\c<86400
 so:C.Pairwise (·< ·)
def stop (C:List Int) (off a b:Int):Int:=min (a+ZK C (sec off a % 86400)-sec off a % 86400) b
structure Pc where
 lo:Int
 hi:Int
 price:Int
def pieces (base:Int) (l:List vV) (C:List Int) (off:Int):Nat->Int->Int->List Pc
 | 0,_,_=>[]
 | n+1,a,b=>if a<b then ⟨a,stop C off a b,price base l off a⟩ :: pieces base l C off n (stop C off a b) b else []
section
variable {W:Int->Int} {T:Int->Prop} {A B:Int} (hA:T A) (hB:T B) (hlin:∀t,A<t->t<B->¬T t->W (t+1)-W t=W t-W (t-1))
include hA hB hlin
end
def Uo (W:Int->Int) (A B:Int) (s:Int × Int) (t:Int):Int × Int:=if within t A B then (if W t<s.2∨(W t=s.2/\t<s.1) then (t,W t) else s) else s
structure Tried (W:Int->Int) (A B:Int) (T:Int->Prop) (s:Int × Int):Prop where
 w:s.2=W s.1
 a:A<=s.1
 b:s.1<=B
 le:∀u,T u->A<=u->u<=B->W s.1<W u∨(W s.1=W u/\s.1<=u)
theorem Tried.step {W:Int->Int} {A B:Int} {T:Int->Prop} {s:Int × Int} (h:Tried W A B T s) (t:Int):Tried W A B (fun u=>T u∨u=t) (Uo W A B s t):=by
 unfold Uo
 obtain⟨hw,ha,hb,hle⟩:=h
 split
 · next hin =>
   obtain⟨i1,i2⟩:=within_iff.1 hin
   split
   · next hlt =>
     refine⟨rfl,i1,i2,fun u hu h1 h2=>?_⟩
     rcases hu with hu|rfl
     · have:=hle u hu h1 h2;simp only;omega
     · exact .inr ⟨rfl,Int.le_refl _⟩
   · next hge =>
     refine⟨hw,ha,hb,fun u hu h1 h2=>?_⟩
     rcases hu with hu|rfl
     · exact hle u hu h1 h2
     · omega
 · next hin =>
   refine⟨hw,ha,hb,fun u hu h1 h2=>?_⟩
   rcases hu with hu|rfl
   · exact hle u hu h1 h2
   · exact absurd (within_iff.2 ⟨h1,h2⟩) hin
theorem Tried.all {W:Int->Int} {A B:Int}:∀(L:List Int) {T:Int->Prop} {s:Int × Int},Tried W A B T s->Tried W A B (fun u=>T u∨u∈L) (L.foldl (Uo W A B) s)
 | [],T,s,h=>⟨h.w,h.a,h.b,fun u hu h1 h2=>h.le u (by simpa using hu) h1 h2⟩
 | t :: L,T,s,h=>by
  have:=Tried.all L (h.step t);exact ⟨this.w,this.a,this.b,fun u hu h1 h2=>this.le u (by rcases hu with h|h;exact .inl (.inl h);rcases List.mem_cons.1 h with h|h;exact .inl (.inr h);exact .inr h) h1 h2⟩
def win (f:Int->Int) (n:Int) (t:Int):Int:=sumF f t (t+n)
def tries (L:List Pc) (n last:Int):List Int:=L.flatMap (fun p=>[p.lo,p.lo-n])++[last]
def cheapest (base:Int) (l:List vV) (C:List Int) (off a b n:Int):Int × Int :=
 (tries (pieces base l C off (b-a).toNat a b) n (b-n)).foldl (Uo (win (price base l off) n) a (b-n)) (a,win (price base l off) n a)
def push (out:List Pc) (p:Pc):List Pc:=match out.getLast? with
 | some q=>if q.price=p.price then out.dropLast++[⟨q.lo,p.hi,q.price⟩] else out++[p]
 | none=>[p]
def splits (L:List Pc):List Pc:=L.foldl push []
def Chain (f:Int->Int):Int->List Pc->Int->Prop
 | a,[],b=>a=b
 | a,p :: L,b=>p.lo=a/\a<p.hi/\(∀t,a<=t->t<p.hi->f t=p.price)/\Chain f p.hi L b
theorem Chain.snoc {f:Int->Int} {p:Pc} {b c:Int}:∀ {L:List Pc} {a:Int},Chain f a L b->p.lo=b->b<p.hi->(∀t,b<=t->t<p.hi->f t=p.price)->c=p.hi->Chain f a (L++[p]) c
 | [],a,h,h1,h2,h3,h4=>by
  have h:a=b:=h;subst h;subst h4;exact ⟨h1,h2,h3,rfl⟩
 | q :: L,a,⟨e1,e2,e3,e4⟩,h1,h2,h3,h4=>⟨e1,e2,e3,e4.snoc h1 h2 h3 h4⟩
theorem Chain.le {f:Int->Int}:∀ {L:List Pc} {a b:Int},Chain f a L b->a<=b
 | [],a,b,h=>by have h:a=b:=h;omega
 | p :: L,a,b,⟨h1,h2,h3,h4⟩=>by have:=h4.le;omega
def Alt:List Int->Prop
 | []=>True
 | [_]=>True
 | x :: y :: L=>x≠y/\Alt (y :: L)
theorem Alt.tail {x:Int} {L:List Int} (h:Alt (x :: L)):Alt L:=by
 cases L with
 | nil=>trivial
 | cons y L=>exact h.2
theorem Alt.snoc {y:Int}:∀ {L:List Int} {x:Int},Alt (L++[x])->x≠y->Alt (L++[x]++[y])
 | [],x,_,h=>⟨h,trivial⟩
 | [z],x,h1,h=>⟨h1.1,h,trivial⟩
 | z :: u :: L,x,h1,h=>⟨h1.1,Alt.snoc (L:=u :: L) h1.2 h⟩
theorem Pc.eq {p q:Pc} (h1:p.lo=q.lo) (h2:p.hi=q.hi) (h3:p.price=q.price):p=q:=by
 cases p;cases q;simp_all
def first (off a:Int):Int:=a+(86400-sec off a % 86400) % 86400
end Tp
namespace Tp
end Tp
namespace Tp
def pick (c n:Int):Int:=(if c<0 then -(c+1) else c) % n
theorem aZ (c:Int) {n:Int} (h:0<n):0<=pick c n/\pick c n<n:=⟨Int.emod_nonneg _ (by omega),Int.emod_lt_of_pos _ h⟩
structure Y4 where
 a:Int
 b:Int
 c:Int
 d:Int
def XQ (y:Y4):vV :=
 if pick (y.b.tdiv 24) 4=3 then ⟨1+pick y.a 127,pick y.b 86400,pick y.b 86400+1+pick y.c (86400-pick y.b 86400),pick y.d 1000⟩
 else ⟨1+pick y.a 127,3600*pick y.b 24,min (3600*pick y.b 24+3600*(1+pick y.c 24)) 86400,pick y.d 1000⟩
def made (x:List Y4):List vV:=(x.take 6).map XQ
structure Like (l m:List vV) (g:Int->Int->Prop):Prop where
 len:l.length=m.length
 at_:∀(i:Nat) (r q:vV),l[i]? = some r->m[i]? = some q->r.days=q.days/\r.lo=q.lo/\r.hi=q.hi/\g r.price q.price
theorem Like.CU {g:Int->Int->Prop} {b c:Int} (hb:g b c) (s:Int):∀ {l m:List vV},Like l m g->g (CU b l s) (CU c m s)
 | [],[],h=>hb
 | [],q :: m,h=>by have:=h.len;simp at this
 | r :: l,[],h=>by have:=h.len;simp at this
 | r :: l,q :: m,h=>by
  obtain⟨h1,h2,h3,h4⟩:=h.at_ 0 r q rfl rfl;have hs:hits s r=hits s q:=by unfold hits;rw[h1,h2,h3]
  have ht:Like l m g:=⟨by have:=h.len;simpa using this,fun i x y hx hy=>h.at_ (i+1) x y hx hy⟩
  have ih:=ht.CU hb s
  unfold Tp.CU at ih ⊢
  rw[List.find?_cons,List.find?_cons,hs];cases hits s q
  · exact ih
  · exact h4
end Tp
namespace Tb
def lt (l:List Int) (x:Int):Nat:=l.countP fun y=>decide (y<x)
def cw (l:List Int) (s w:Int):Nat:=l.countP fun y=>decide (s<=y)&&decide (y<s+w)
theorem ZM (l:List Int) (x:Int):lt l x<=l.length:=List.countP_le_length
theorem WG (s w:Int) (hw:0<=w):∀l:List Int,lt l (s+w)=lt l s+cw l s w
 | []=>rfl
 | y :: l=>by
  have ih:=WG s w hw l
  unfold lt cw at *
  rw[List.countP_cons,List.countP_cons,List.countP_cons,ih];by_cases h1:y<s
  · have a1:decide (y<s+w)=true:=by simp;omega
    have a2:decide (y<s)=true:=by simp;omega
    have a3:decide (s<=y)=false:=by simp;omega
    rw[a1,a2,a3];simp;omega
  · have a2:decide (y<s)=false:=by simp;omega
    have a3:decide (s<=y)=true:=by simp;omega
    rw[a2,a3];by_cases h2:y<s+w
    · have a1:decide (y<s+w)=true:=by simp;omega
      rw[a1];simp;omega
    · have a1:decide (y<s+w)=false:=by simp;omega
      rw[a1];simp
def So (l:List Int):Prop:=l.Pairwise (·<=·)
theorem lt_iff:∀ {l:List Int} (h:So l) (x:Int) (i:Nat) (hi:i<l.length),l[i]<x↔i<lt l x
 | y :: l,h,x,i,hi=>by
  obtain⟨h1,h2⟩:=List.pairwise_cons.1 h
  have e:lt (y :: l) x=lt l x+if y<x then 1 else 0:=by
   unfold lt;rw[List.countP_cons];simp
  by_cases hy:y<x
  · rw[if_pos hy]at e
    cases i with
    | zero=>simp only[List.getElem_cons_zero];omega
    | succ i =>
     have:=lt_iff h2 x i (by simpa using hi);simp only[List.getElem_cons_succ];omega
  · rw[if_neg hy]at e
    have h0:lt l x=0:=by
     unfold lt
     rw[List.countP_eq_zero];intro z hz;have:=h1 z hz;simp;omega
    have hle:∀z∈y :: l,¬z<x:=fun z hz=>by
     rcases List.mem_cons.1 hz with rfl|hz
     · exact hy
     · have:=h1 z hz;omega
    have:=hle _ (List.getElem_mem hi);omega
theorem Py {l:List Int} (h:So l) {i j:Nat} (hij:i<=j) (hj:j<l.length):l[i]'(by omega)<=l[j]:=by
 rcases Nat.lt_or_ge i j with h1|h1
 · exact List.pairwise_iff_getElem.1 h i j (by omega) hj h1
 · have:i=j:=by omega
   subst this;exact Int.le_refl _
theorem ZN {l:List Int} (h:So l) {i:Nat} (hi:i<l.length):lt l l[i]<=i:=by
 have:=(lt_iff h l[i] i hi)
 have:¬i<lt l l[i]:=fun h1=>by have:=this.2 h1;omega
 omega
structure Bw (l:List Int) (w:Int) (k:Nat) (best at_:Int):Prop where
 z:k=0->best=0/\at_=0
 wh:0<k->∃(j:Nat) (hj:j<l.length),j<k/\l[j]=at_/\(cw l at_ w:Int)=best
 le:∀(j:Nat) (hj:j<l.length),j<k->(cw l l[j] w:Int)<=best/\(l[j]<at_->(cw l l[j] w:Int)<best)
theorem Bw.start (l:List Int) (w:Int):Bw l w 0 0 0:=⟨fun _=>⟨rfl,rfl⟩,fun h=>by omega,fun j hj h=>by omega⟩
theorem YQ {l:List Int} {w:Int} (hw:1<=w) {i:Nat} (hi:i<l.length):0<cw l l[i] w:=by
 unfold cw
 rw[List.countP_pos_iff];exact ⟨l[i],List.getElem_mem hi,by simp;omega⟩
theorem Bw.next {l:List Int} {w:Int} (hs:So l) (hw:1<=w) {k:Nat} {best at_:Int} (h:Bw l w k best at_) (hk:k<l.length) :
 (best<(cw l l[k] w:Int)->Bw l w (k+1) (cw l l[k] w) l[k])/\(¬best<(cw l l[k] w:Int)->Bw l w (k+1) best at_):=by
 constructor
 · intro hb;refine ⟨fun h=>by omega,fun _=>⟨k,hk,by omega,rfl,rfl⟩,fun j hj hjk=>?_⟩
   rcases Nat.lt_or_ge j k with h1|h1
   · have:=h.le j hj h1;omega
   · have:j=k:=by omega
     subst this;omega
 · intro hb
   have hk0:0<k:=by
    rcases Nat.eq_zero_or_pos k with h0|h0
    · have:=(h.z h0).1;have:=YQ (l:=l) hw hk;omega
    · exact h0
   refine⟨fun h=>by omega,fun _=>?_,fun j hj hjk=>?_⟩
   · obtain⟨j,hj,h1,h2,h3⟩:=h.wh hk0;exact ⟨j,hj,by omega,h2,h3⟩
   · rcases Nat.lt_or_ge j k with h1|h1
     · exact h.le j hj h1
     · have:j=k:=by omega
       subst this;obtain ⟨m,hm,h1,h2,h3⟩:=h.wh hk0;have:=Py hs (show m<=j by omega) hj;omega
theorem Bw.step {l:List Int} {w:Int} (hs:So l) (hw:1<=w) {k:Nat} {best at_:Int} (h:Bw l w k best at_) (hk:k<l.length) :
 (best<(lt l (l[k]+w):Int)-k->Bw l w (k+1) ((lt l (l[k]+w):Int)-k) l[k])/\(¬best<(lt l (l[k]+w):Int)-k->Bw l w (k+1) best at_):=by
 have e:=WG l[k] w (by omega) l;have hle:=ZN hs hk;obtain ⟨n1,n2⟩:=h.next hs hw hk;by_cases hf:lt l l[k]=k
 · have e2:(lt l (l[k]+w):Int)-k=(cw l l[k] w:Int):=by omega
   rw[e2];exact ⟨n1,n2⟩
 · -- the same time stands before it
   have hlt:lt l l[k]<k:=by omega
   have hj:lt l l[k]<l.length:=by omega
   have h1:¬l[lt l l[k]]<l[k]:=fun h0=>by have:=(lt_iff hs l[k] _ hj).1 h0;omega
   have h2:=Py hs (show lt l l[k]<=k by omega) hk;have h3:l[lt l l[k]]=l[k]:=by omega
   have h4:=(h.le _ hj hlt).1;rw [h3]at h4;exact ⟨fun h0=>by omega,fun _=>n2 (by omega)⟩
theorem Bw.unique {l:List Int} {w:Int} {b1 a1 b2 a2:Int} (h1:Bw l w l.length b1 a1) (h2:Bw l w l.length b2 a2):b1=b2/\a1=a2:=by
 rcases Nat.eq_zero_or_pos l.length with h0|h0
 · have:=h1.z h0;have:=h2.z h0;omega
 · obtain⟨i,hi,i1,i2,i3⟩:=h1.wh h0;obtain ⟨j,hj,j1,j2,j3⟩:=h2.wh h0;have p1:=h1.le j hj hj;have p2:=h2.le i hi hi;rw [j2,j3]at p1;rw [i2,i3]at p2;omega
theorem LW {l:List Int} {s s' w w':Int} (h:∀y∈l,s<=y->y<s+w->s'<=y/\y<s'+w'):cw l s w<=cw l s' w':=by
 unfold cw
 refine List.countP_mono_left fun y hy h1=>?_
 simp only[Bool.and_eq_true,decide_eq_true_eq]at *;exact h y hy h1.1 h1.2
theorem Bw.all {l:List Int} {w best at_:Int} (hs:So l) (h:Bw l w l.length best at_) (h0:0<l.length) (s:Int):(cw l s w:Int)<=best:=by
 rcases Nat.lt_or_ge (lt l s) l.length with h1|h1
 · have h2:=(h.le _ h1 h1).1;have h3:¬l[lt l s]<s:=fun h0=>by have:=(lt_iff hs s _ h1).1 h0;omega
   have:cw l s w<=cw l l[lt l s] w:=LW fun y hy y1 y2=>by
    obtain⟨j,hj,rfl⟩:=List.mem_iff_getElem.1 hy;have h4:¬j<lt l s:=fun h5=>by have:=(lt_iff hs s j hj).2 h5;omega
    have:=Py hs (show lt l s<=j by omega) hj;omega
   omega
 · have:cw l s w=0:=by
    unfold cw
    rw[List.countP_eq_zero];intro y hy;obtain ⟨j,hj,rfl⟩:=List.mem_iff_getElem.1 hy;have:=(lt_iff hs s j hj).2 (by omega);simp;omega
   obtain⟨i,hi,i1,i2,i3⟩:=h.wh h0;omega
theorem Bw.wide {l:List Int} {w w' b1 a1 b2 a2:Int} (hs:So l) (h1:Bw l w l.length b1 a1) (h2:Bw l w' l.length b2 a2) (hw:w<=w') (h0:0<l.length):b1<=b2:=by
 obtain⟨i,hi,i1,i2,i3⟩:=h1.wh h0;have e1:=h2.all hs h0 a1;have:cw l a1 w<=cw l a1 w':=LW fun y _ _ _=>by omega
 omega
theorem Bw.more {l m:List Int} {w t b1 a1 b2 a2:Int} (hs:So l) (hm:So m) (h1:Bw l w l.length b1 a1) (h2:Bw m w m.length b2 a2) (hlen:m.length=l.length+1) (h0:0<l.length)
 (hc:∀s,cw m s w=cw l s w+if s<=t/\t<s+w then 1 else 0):b1<=b2/\b2<=b1+1:=by
 obtain⟨i,hi,i1,i2,i3⟩:=h1.wh h0;obtain ⟨j,hj,j1,j2,j3⟩:=h2.wh (by omega);have e1:=h2.all hm (by omega) a1;have e2:=h1.all hs h0 a2;have f1:=hc a1;have f2:=hc a2
 constructor
 · split at f1 <;> omega
 · split at f2 <;> omega
end Tb
namespace Tb
def V9 (y:Int):Int:=if Tp.pick y 8=7 then Tp.pick (y.tdiv 8) 1000 else Tp.pick (y.tdiv 8) 12
theorem Jc (y:Int):0<=V9 y/\V9 y<1000:=by
 unfold V9
 have h1:=Tp.aZ (y.tdiv 8) (show (0:Int)<1000 by decide);have h2:=Tp.aZ (y.tdiv 8) (show (0:Int)<12 by decide)
 split <;> omega
def tk (x:List Int):Nat->Int
 | 0=>0
 | k+1=>tk x k+V9 (x[k]?.getD 0)
theorem yV (x:List Int):∀k:Nat,0<=tk x k/\tk x k<=999*k
 | 0=>by simp[tk]
 | k+1=>by
  have h:=yV x k;have h2:=Jc (x[k]?.getD 0)
  show 0<=tk x k+_/\tk x k+_<=_
  push_cast
  omega
theorem KG (x:List Int):∀ {i j:Nat},i<=j->tk x i<=tk x j
 | i,0,h=>by
  have:i=0:=by omega
  subst this;exact Int.le_refl _
 | i,j+1,h=>by
  rcases Nat.lt_or_ge i (j+1) with h1|h1
  · have h2:=Jc (x[j]?.getD 0);have:=KG x (i:=i) (j:=j) (by omega)
    show _<=tk x j+_
    omega
  · have:i=j+1:=by omega
    subst this;exact Int.le_refl _
def tks (x:List Int) (k:Nat):List Int:=(List.range k).map fun i=>tk x (i+1)
theorem O7 (x:List Int) (k:Nat):tks x (k+1)=tks x k++[tk x (k+1)]:=by
 unfold tks
 rw[List.range_succ,List.map_append];rfl
theorem yG (x:List Int) (k:Nat):(tks x k).length=k:=by simp[tks]
theorem Xy (x:List Int) (k:Nat):So (tks x k):=by
 unfold So tks
 rw[List.pairwise_map];exact List.pairwise_lt_range.imp (fun h=>KG x (by omega))
theorem Xz {x:List Int} {k:Nat} {t:Int} (h:t∈tks x k):0<=t/\t<=999*k:=by
 unfold tks at h
 obtain⟨i,hi,rfl⟩:=List.mem_map.1 h;have:=yV x (i+1);rw [List.mem_range]at hi
 push_cast at this
 omega
def jw (x:List Int):List Int:=tks x (min x.length 60)
theorem Qo (x:List Int):So (jw x)/\(jw x).length<=60/\∀t∈jw x,0<=t/\t<=59940:=by
 refine⟨Xy _ _,by unfold jw;rw[yG];omega,fun t ht=>?_⟩;have:=Xz ht;omega
end Tb
namespace Tb
theorem XA {l:List Int} (h:∀j (hj:j+1<l.length),l[j]<=l[j+1]):So l:=by
 unfold So
 rw[List.pairwise_iff_getElem];intro i j
 induction j with
 | zero=>intro _ _ hij;omega
 | succ j ih =>
  intro hi hj hij
  rcases Nat.lt_or_ge i j with h1|h1
  · exact Int.le_trans (ih hi (by omega) h1) (h j hj)
  · have:i=j:=by omega
    subst this;exact h i hj
theorem TF {l:List Int} (h:So l) {j:Nat} (hj:j+1<l.length):l[j]<=l[j+1]:=List.pairwise_iff_getElem.1 h j (j+1) (by omega) hj (by omega)
def VI (l:List Int):Prop:=l.length<=60/\So l/\∀t∈l,0<=t/\t<=10000000
noncomputable def ZG (l:List Int):Bool:=@decide (So l) (Classical.propDecidable _)
noncomputable def Ja (l:List Int):Bool:=@decide (VI l) (Classical.propDecidable _)
theorem V_ {l:List Int} (h:So l):ZG l=true:=@decide_eq_true _ (Classical.propDecidable _) h
theorem Wh {l:List Int} (h:¬So l):ZG l=false:=@decide_eq_false _ (Classical.propDecidable _) h
theorem O5 {l:List Int} (h:VI l):Ja l=true:=@decide_eq_true _ (Classical.propDecidable _) h
theorem I_ {l:List Int} (h:¬VI l):Ja l=false:=@decide_eq_false _ (Classical.propDecidable _) h
theorem O6 {l:List Int}:Ja l=true↔VI l:=by
 by_cases h:VI l
 · rw[O5 h];simp[h]
 · rw[I_ h];simp[h]
end Tb
namespace Go.Proofs.YtelljijajgiabaaGreatDoor
open Go.RowKit
theorem mV (n lo hi:Int) (w:World) :
 Calls Tryz.prog 152 #[.int .i64 n,.int .i64 lo,.int .i64 hi] w fun e w'=>e=.returned (.bool (Tp.within n lo hi))/\w=w':=by
 by_cases h1:lo<=n <;> by_cases h2:n<=hi
 all_goals
  go_enter Tryz.func152,Tryz.ntmps152
  go_wp2;go_ret;exact ⟨by simp[Tp.within, *] <;> omega,rfl⟩
theorem Iu (t:Int) (w:World) :
 Calls Tryz.prog 215 #[.int .i64 t] w fun e w'=>e=.returned (.bool (!Tp.within t 0 10000000))/\w=w':=by
 go_enter Tryz.func215,Tryz.ntmps215
 go_wp2_with (go_at_call 152;refine (mV _ _ _ _).mono ?_;rintro e w' ⟨rfl,rfl⟩)
 go_ret;exact ⟨rfl,rfl⟩
theorem Nw (x:Int) (w:World):Calls Tryz.prog 186 #[.int .i64 x] w fun e w'=>e=.returned (.bool false)/\w=w':=by
 go_enter Tryz.func186,Tryz.ntmps186
 go_wp2;go_ret;exact ⟨by simp,rfl⟩
theorem yj (x y:Int) (w:World):Calls Tryz.prog 235 #[.int .i64 x,.int .i64 y] w fun e w'=>e=.returned (.bool (decide (x<y)))/\w=w':=by
 go_enter Tryz.func235,Tryz.ntmps235
 go_wp2_with (go_at_call 186;refine (Nw _ _).mono ?_;rintro e w' ⟨rfl,rfl⟩)
 go_ret;exact ⟨by simp,rfl⟩
theorem Iz {W:World} {b off:Nat} {l:List Int} (hcell:∀i c,l[i]? = some c->∀j u,(aO c)[j]? = some u->W.cell? ⟨b,off+i*1+j,none⟩=some u) (hb:b<W.heap.size) {t:Nat} (ht:t<l.length) :
 ∀d os,(Sort.grow (redrawn W d) os).cell? ⟨b,off+t,none⟩=some (.int .i64 l[t]):=fun d os=>by
 have h1:=hcell t _ (List.getElem?_eq_getElem ht) 0 _ rfl;rw [Nat.mul_one,Nat.add_zero]at h1;exact ((below_regrown W d os).cell (p:=⟨b,off+t,none⟩) hb).trans h1
theorem Je (l:List Int) (A:Option Addr) (cap:Nat) (w:World) (hA:At 1 aO w w.heap.size A l) (hn:l.length<=cap) (hl:l.length<=9223372036854775807) :
 aW 216 #[.slice A l.length cap] w (.bool (Tb.ZG l)):=by
 go_enter Tryz.func216,Tryz.ntmps216
 go_wp2
 go_loopw [3] (fun s3 wr=>∃k:Int,s3=.int .i64 k/\ -1<=k/\k<l.length/\Kp (∀j (hj:j+1<l.length),k<=j->l[j]<=l[j+1])/\Below w.heap.size w wr) (fun s3 _=>(intOf s3).toNat)
 case atStart=>exact⟨(l.length:Int)-1,rfl,by omega,by omega,⟨fun j hj h=>by omega⟩,gq _⟩
 case round =>
  obtain⟨k,rfl,hk0,hk1,hall,hb⟩:=hrel;by_cases hp:0<k
  · obtain⟨m,rfl⟩:∃m:Nat,k=((m+1:Nat):Int):=⟨(k-1).toNat,by omega⟩
    have hm1:m+1<l.length:=by omega
    obtain⟨b,off,rfl,hbB,hcell⟩:=(hA.below hb) (by omega)
    have k1:=Iz hcell (Nat.lt_of_lt_of_le hbB hb.size) hm1;have k2:=Iz hcell (Nat.lt_of_lt_of_le hbB hb.size) (show m<l.length by omega);have hcast:((m+1:Nat):Int)-1=(m:Int):=by omega
    have hstep:l[m]<=l[m+1]->Kp (∀j (hj:j+1<l.length),(m:Int)<=j->l[j]<=l[j+1]):=fun h=>⟨fun j hj hmj=>by
     rcases (show j=m∨m+1<=j by omega) with h1|h1
     · subst h1;exact h
     · exact hall.out j hj (by omega)⟩
    have hno:¬l[m]<=l[m+1]->Kp (Tb.ZG l=false):=fun h=>⟨Tb.Wh fun hs=>h (Tb.TF hs hm1)⟩
    clear hcell hall;generalize l[m]=x at *;generalize l[m+1]=y at *;by_cases hxy:x<=y
    · have hn2:=hstep hxy;have t0:decide (y<x)=false:=by simp;omega
      clear hstep hno;go_wp2;refine wp_region_quiet_below (by kernel_rfl) (by kernel_rfl) ?_
      repeat (go_big_quiet_step (first|(go_at_call 235;with_reducible exact Calls.regrown_of (aB (yj _ _ _)))))
      refine wpQuiet_nil ?_;rintro _ ⟨z,rfl⟩;have hbz:=gu hb z.d z.os;clear k1 k2;generalize Sort.grow (redrawn wr z.d) z.os=W2 at *;go_wp2;exact ⟨⟨m,by go_num,by omega,by omega,hn2,hbz⟩,by simp[intOf] <;> omega⟩
    · have hn2:=hno hxy;have t0:decide (y<x)=true:=by simp;omega
      clear hstep hno;go_wp2;refine wp_region_quiet_below (by kernel_rfl) (by kernel_rfl) ?_
      repeat (go_big_quiet_step (first|(go_at_call 235;with_reducible exact Calls.regrown_of (aB (yj _ _ _)))))
      refine wpQuiet_nil ?_;rintro _ ⟨z,rfl⟩;have hbz:=gu hb z.d z.os;clear k1 k2;generalize Sort.grow (redrawn wr z.d) z.os=W2 at *;go_wp2;go_ret;exact ⟨aH hn2.out.symm,hbz⟩
  · have hfin:Kp (Tb.ZG l=true):=⟨Tb.V_ (Tb.XA fun j hj=>hall.out j hj (by omega))⟩
    have t0:decide (k > 0)=false:=by simp;omega
    clear hall;go_wp2;go_ret;exact ⟨aH hfin.out.symm,hb⟩
def qw {α:Type} (p:α->Bool) (l:List α):Int:=match l.findIdx? p with|some i=>(i:Int)|none=> -1
theorem Eu {α:Type} {p:α->Bool} {l:List α} {k:Nat} (hk:k<l.length) (h1:p l[k]=true) (h2:∀(j:Nat) (hj:j<k),p (l[j]'(by omega))=false):qw p l=k:=by
 unfold qw
 have:l.findIdx? p=some k:=by
  rw[List.findIdx?_eq_some_iff_getElem];exact ⟨hk,h1,fun j hj=>by rw[h2 j hj];simp⟩
 rw[this]
theorem zH {α:Type} {p:α->Bool} {l:List α} (h:∀(j:Nat) (hj:j<l.length),p l[j]=false):qw p l= -1:=by
 unfold qw
 have:l.findIdx? p=none:=by
  rw[List.findIdx?_eq_none_iff];intro c hc;obtain ⟨j,hj,rfl⟩:=List.mem_iff_getElem.1 hc;exact h j hj
 rw[this]
theorem Ew {α:Type} (p:α->Bool) (l:List α):decide (0<=qw p l)=l.any p:=by
 unfold qw
 cases h:l.findIdx? p with
 | some i =>
  obtain⟨h1,h2,h3⟩:=List.findIdx?_eq_some_iff_getElem.1 h;have:l.any p=true:=List.any_eq_true.2 ⟨l[i],List.getElem_mem h1,h2⟩;rw [this];simp
 | none =>
  have:l.any p=false:=by
   rw[List.any_eq_false];intro x hx;have:=List.findIdx?_eq_none_iff.1 h x hx;simp [this]
  rw[this];simp
theorem ZV (l:List Int) (A:Option Addr) (cap:Nat) (w:World) (hA:At 1 aO w w.heap.size A l) (hn:l.length<=cap) (hl:l.length<=9223372036854775807) :
 aW 236 #[.slice A l.length cap,.func (.func 215) #[] #[]] w (.int .i64 (qw (fun t=> !Tp.within t 0 10000000) l)):=by
 obtain⟨p,hp⟩:∃p:Int->Bool,p=fun t=> !Tp.within t 0 10000000:=⟨_,rfl⟩
 have hP:=fun t w0=>Iu t w0
 rw[←hp];have hP':∀t w0,Calls Tryz.prog 215 #[.int .i64 t] w0 fun e w'=>e=.returned (.bool (p t))/\w0=w':=fun t w0=>by rw[hp];exact Iu t w0
 clear hP hp
 go_enter Tryz.func236,Tryz.ntmps236
 go_wp2
 go_loopw [8] (fun s8 wr=>∃k:Nat,k<=l.length/\s8=.int .i64 k/\Kp (∀(j:Nat) (hj:j<l.length),j<k->p l[j]=false)/\Below w.heap.size w wr) (fun s8 _=>l.length-(intOf s8).toNat)
 case atStart=>exact⟨0,Nat.zero_le _,rfl,⟨fun j hj h=>by omega⟩,gq _⟩
 case round =>
  obtain⟨k,hk,rfl,hno,hb⟩:=hrel;by_cases hlt:k<l.length
  · obtain⟨b,off,rfl,hbB,hcell⟩:=hA (by omega);have hck:l[k]? = some l[k]:=List.getElem?_eq_getElem hlt;have hP:=hP' l[k] wr;have hh:=fun (h:p l[k]=true)=>Eu hlt h (fun j hj=>hno.out j (by omega) hj)
    have hnx:Kp (p l[k]=false->∀(j:Nat) (hj:j<l.length),j<k+1->p l[j]=false):=⟨fun h j hj hjk=>by
     rcases Nat.lt_or_ge j k with h1|h1
     · exact hno.out j hj h1
     · obtain rfl:j=k:=by omega
       exact h⟩
    have c0:wr.cell? ⟨b,off+k,none⟩=some (.int .i64 l[k]):=(hb.cell (p:=⟨b,_,none⟩) hbB).trans (by have:=hcell k _ hck 0 _ rfl;rwa [Nat.mul_one,Nat.add_zero]at this);have hfin:Kp (p l[k]=true->qw p l=k):=⟨hh⟩
    generalize p l[k]=t at *;generalize l[k]=x0 at *;clear hcell hA hck hno hh hP';cases t
    · go_wp2_with (refine hP.mono ?_;rintro _ w1 ⟨rfl,rfl⟩;clear hP)
      exact⟨⟨k+1,by omega,by go_num,⟨by first|exact hnx.out rfl|exact hnx.out trivial⟩,hb⟩,by simp[intOf];omega⟩
    · go_wp2_with (refine hP.mono ?_;rintro _ w1 ⟨rfl,rfl⟩;clear hP)
      go_ret;exact ⟨cu (by first|exact (hfin.out rfl).symm|exact (hfin.out trivial).symm),hb⟩
  · have hfin:Kp (qw p l= -1):=⟨zH fun j hj=>hno.out j hj (by omega)⟩
    clear hno hP';go_wp2;go_ret;exact ⟨cu hfin.out.symm,hb⟩
theorem con_t (l:List Int) (A:Option Addr) (cap:Nat) (w:World) (hA:At 1 aO w w.heap.size A l) (hn:l.length<=cap) (hl:l.length<=9223372036854775807) :
 aW 217 #[.slice A l.length cap,.func (.func 215) #[] #[]] w (.bool (l.any (fun t=> !Tp.within t 0 10000000))):=by
 have hI:=ZV l A cap w hA hn hl;have hd:=Ew (fun t=> !Tp.within t 0 10000000) l;generalize qw (fun t=> !Tp.within t 0 10000000) l=i at *;generalize l.any (fun t=> !Tp.within t 0 10000000)=r at *;clear hA;by_cases h:0<=i
 all_goals
  have t0:decide (0<=i)=r:=hd;first|rw[decide_eq_true h]at t0|rw[decide_eq_false h]at t0
  subst t0;clear hd
  go_enter Tryz.func217,Tryz.ntmps217
  go_wp2_with (go_at_call 236;refine hI.mono ?_;rintro _ w1 ⟨rfl,hb1⟩;clear hI)
  go_ret;exact ⟨aH (by simp <;> omega),hb1⟩
theorem Ur (l:List Int) (A:Option Addr) (cap:Nat) (w:World) (hA:At 1 aO w w.heap.size A l) (hn:l.length<=cap) (hl:l.length<=9223372036854775807) :
 aW 187 #[.slice A l.length cap] w (.bool (Tb.Ja l)):=by
 have hS:=Je l A cap w hA hn hl;have hC:=fun w1 (hb:Below w.heap.size w w1)=>con_t l A cap w1 ((hA.below hb).more hb.size) hn hl
 by_cases h60:l.length<=60
 · have t0:decide ((l.length:Int)<=60)=true:=by simp;omega
   by_cases hs:Tb.So l
   · rw[Tb.V_ hs]at hS
     have hfin:Kp (Tb.Ja l= !(l.any (fun t=> !Tp.within t 0 10000000))):=⟨by
      rw[Bool.eq_iff_iff,Tb.O6];simp only[Bool.not_eq_true',List.any_eq_false,Bool.not_eq_false,Tp.within_iff]
      constructor
      · intro h t ht;have:=h.2.2 t ht;simp [Tp.within_iff,this]
      · intro h;refine ⟨h60,hs,fun t ht=>?_⟩;have:=h t ht
        simpa [Tp.within_iff] using this⟩
     generalize l.any (fun t=> !Tp.within t 0 10000000)=r at *
     go_enter Tryz.func187,Tryz.ntmps187
     go_wp2_with (first|(go_at_call 216;refine hS.mono ?_;rintro _ w1 ⟨rfl,hb1⟩;clear hS;have qj:=hC w1 hb1;clear hC)|(go_at_call 217;refine qj.mono ?_;rintro _ w2 ⟨rfl,hb2⟩;clear qj))
     go_ret;exact ⟨aH hfin.out.symm,aj hb1 hb2⟩
   · rw[Tb.Wh hs]at hS;have hfin:Kp (Tb.Ja l=false):=⟨Tb.I_ fun h=>hs h.2.1⟩
     clear hC
     go_enter Tryz.func187,Tryz.ntmps187
     go_wp2_with (go_at_call 216;refine hS.mono ?_;rintro _ w1 ⟨rfl,hb1⟩;clear hS)
     go_ret;exact ⟨aH hfin.out.symm,hb1⟩
 · have t0:decide ((l.length:Int)<=60)=false:=by simp;omega
   have hfin:Kp (Tb.Ja l=false):=⟨Tb.I_ fun h=>h60 h.1⟩
   clear hS hC
   go_enter Tryz.func187,Tryz.ntmps187
   go_wp2;go_ret;exact ⟨aH hfin.out.symm,gq _⟩
theorem Ol (l:List Int) (A:Option Addr) (cap:Nat) (width:Int) (w:World) (hA:At 1 aO w w.heap.size A l) (hn:l.length<=cap) (ht:Tb.VI l) (hw1:1<=width) (hw2:width<=10000000) :
 Calls Tryz.prog 150 #[.slice A l.length cap,.int .i64 width] w fun e w'=>(∃best at_:Int,e=.returned (.tuple #[.int .i64 best,.int .i64 at_,.int .i64 0])/\Tb.Bw l width l.length best at_/\0<=best/\best<=l.length/\0<=at_/\at_<=10000000)/\Below w.heap.size w w':=by
 obtain⟨h60,hso,hin⟩:=ht;have hT:=Ur l A cap w hA hn (by omega);rw [Tb.O5 ⟨h60,hso,hin⟩]at hT;have hI:=fun w0=>mV width 1 10000000 w0
 rw[Tp.within_iff.2 ⟨hw1,hw2⟩]at hI;have hB0:=Tb.Bw.start l width
 go_enter Tryz.func150,Tryz.ntmps150
 go_wp2_with (first|(go_at_call 187;refine hT.mono ?_;rintro _ w1 ⟨rfl,hb1⟩;clear hT)|(go_at_call 152;refine (hI _).mono ?_;rintro _ w2 ⟨rfl,rfl⟩;clear hI))
 go_loopw [7,8,9,22] (fun s7 s8 s9 s22 wr=>∃(k e:Nat) (best at_:Int),s7=.int .i64 best/\s8=.int .i64 at_/\s9=.int .i64 e/\s22=.int .i64 k/\k<=l.length/\e<=l.length/\Tb.Bw l width k best at_/\(0<=best/\best<=l.length/\0<=at_/\at_<=10000000)/\Kp (∀(hk:k<l.length),e<=Tb.lt l (l[k]+width))/\wr=w1) (fun _ _ _ s22 _=>l.length-(intOf s22).toNat)
 case atStart=>exact⟨0,0,0,0,rfl,rfl,rfl,rfl,Nat.zero_le _,Nat.zero_le _,hB0,by omega,⟨fun _=>Nat.zero_le _⟩,rfl⟩
 case round =>
  obtain⟨k,e,best,at_,rfl,rfl,rfl,rfl,hk,he,hB,hbd,hle,hwr⟩:=hrel;obtain rfl:=hwr.symm;by_cases hlt:k<l.length
  · have t0:decide ((k:Int)<(l.length:Int))=true:=by simp;omega
    have hAk:=hA.below hb1;obtain ⟨b,off,rfl,hbB,hcell⟩:=hAk (by omega);have hcl:=fun (j:Nat) (hj:j<l.length)=>(by have:=hcell j _ (List.getElem?_eq_getElem hj) 0 _ rfl;rwa [Nat.mul_one,Nat.add_zero]at this:w1.cell? ⟨b,off+j,none⟩=some (.int .i64 l[j]))
    have ck:=hcl k hlt;have hstep:=hB.step hso hw1 hlt;have hmk:=hin l[k] (List.getElem_mem hlt);have hiff:=fun j (hj:j<l.length)=>Tb.lt_iff hso (l[k]+width) j hj
    have hll:=Tb.ZM l (l[k]+width)
    have hmono:=fun (h1:k+1<l.length)=>(by
     have h2:=Tb.TF hso h1
     have h3:Tb.lt l (l[k]+width)<=Tb.lt l (l[k+1]+width):=by
      unfold Tb.lt
      exact List.countP_mono_left fun y _ hy=>by simp only[decide_eq_true_eq]at *;omega
     exact h3:Tb.lt l (l[k]+width)<=Tb.lt l (l[k+1]+width))
    replace hle:=hle.out hlt;replace hstep:=Kp.mk hstep;replace hmono:=Kp.mk hmono;replace hiff:=Kp.mk hiff;replace hcl:=Kp.mk hcl;clear hcell hAk;generalize l[k]=x at *;generalize Tb.lt l (x+width)=m at *;go_wp2_with fail
    go_loopw [9] (fun s9 wr'=>∃e:Nat,s9=.int .i64 e/\e<=m/\wr'=w1) (fun s9 _=>l.length-(intOf s9).toNat)
    case atStart=>exact⟨e,rfl,hle,rfl⟩
    case round =>
     clear hle he;obtain ⟨e,rfl,hle,hwr⟩:=hrel;obtain rfl:=hwr.symm;by_cases hel:e<l.length
     · have t1:decide ((e:Int)<(l.length:Int))=true:=by simp;omega
       have ce:=hcl.out e hel;have hi2:=hiff.out e hel;generalize l[e]=y at *;by_cases hem:e<m
       · have t2:decide (y<x+width)=true:=by simp;omega
         clear hi2;go_wp2;exact ⟨⟨e+1,by go_num,by omega,trivial⟩,by simp[intOf];omega⟩
       · have t2:decide (y<x+width)=false:=by simp;omega
         obtain rfl:e=m:=by omega
         clear hi2 hem;by_cases aaq:best<(e:Int)-k
         · have t3:decide ((e:Int)-k > best)=true:=by simp;omega
           have hn2:=hstep.out.1 (by omega);go_wp2;exact ⟨⟨k+1,e,_,_,rfl,rfl,rfl,by go_num,by omega,by omega,hn2,by omega,⟨fun h=>hmono.out h⟩,trivial⟩,by simp[intOf];omega⟩
         · have t3:decide ((e:Int)-k > best)=false:=by simp;omega
           have hn2:=hstep.out.2 (by omega);go_wp2;exact ⟨⟨k+1,e,_,_,rfl,rfl,rfl,by go_num,by omega,by omega,hn2,by omega,⟨fun h=>hmono.out h⟩,trivial⟩,by simp[intOf];omega⟩
     · have t1:decide ((e:Int)<(l.length:Int))=false:=by simp;omega
       obtain rfl:e=m:=by omega
       by_cases aaq:best<(e:Int)-k
       · have t3:decide ((e:Int)-k > best)=true:=by simp;omega
         have hn2:=hstep.out.1 (by omega);go_wp2;exact ⟨⟨k+1,e,_,_,rfl,rfl,rfl,by go_num,by omega,by omega,hn2,by omega,⟨fun h=>hmono.out h⟩,trivial⟩,by simp[intOf];omega⟩
       · have t3:decide ((e:Int)-k > best)=false:=by simp;omega
         have hn2:=hstep.out.2 (by omega);go_wp2;exact ⟨⟨k+1,e,_,_,rfl,rfl,rfl,by go_num,by omega,by omega,hn2,by omega,⟨fun h=>hmono.out h⟩,trivial⟩,by simp[intOf];omega⟩
  · obtain rfl:k=l.length:=by omega
    go_wp2;refine bodyPost_ret (results_tmp3 rfl _ _ _) rfl ⟨⟨best,at_,rfl,hB,hbd⟩,hb1⟩
open Go.RowKit Go.Shelf
def Ix (z:Int) (s:List UInt8):Prop:=Kp (Lib.itoa z=s)
theorem Ix.ex (z:Int):∃s,Ix z s:=⟨_,⟨rfl⟩⟩
theorem Jt {x y z:Int} {sx sy sz:List UInt8} (w:World) (hx:Ix x sx) (hy:Ix y sy) (hz:Ix z sz) (h:Kp (x+y=z)) {j k l:Nat} (fx:Rq.Sz j x) (fy:Rq.Sz k y) (fz:Rq.Sz l z) (hj:j<=200) (hk:k<=200) (hl:l<=200) (hE:Env w) :
 aW 193 #[.string ⟨sx.toArray⟩,.string ⟨sy.toArray⟩] w (.string ⟨sz.toArray⟩):=by
 have hC:=MC x y w (fx.fits hj) (fy.fits hk) hE;rw [h.out,Ig.dh (fz.fits hl),Ig.dO (fz.fits hl),hx.out,hy.out,hz.out]at hC;clear fx fy fz hx hy hz h
 go_enter Tryz.func193,Tryz.ntmps193
 go_wp2_with fail;refine hC.mono ?_;rintro _ w1 ⟨rfl,hb⟩;clear hC;go_wp2;go_ret;exact ⟨rfl,hb⟩
theorem yH {x y z:Int} {sx sy sz:List UInt8} (w:World) (hx:Ix x sx) (hy:Ix y sy) (hz:Ix z sz) (h:Kp (x*y=z)) {j k l:Nat} (fx:Rq.Sz j x) (fy:Rq.Sz k y) (fz:Rq.Sz l z) (hj:j<=200) (hk:k<=200) (hl:l<=200) (hE:Env w) :
 aW 156 #[.string ⟨sx.toArray⟩,.string ⟨sy.toArray⟩] w (.string ⟨sz.toArray⟩):=by
 have hC:=MB x y w (fx.fits hj) (fy.fits hk) hE;rw [h.out,Ig.dh (fz.fits hl),Ig.dO (fz.fits hl),hx.out,hy.out,hz.out]at hC;clear fx fy fz hx hy hz h
 go_enter Tryz.func156,Tryz.ntmps156
 go_wp2_with fail;refine hC.mono ?_;rintro _ w1 ⟨rfl,hb⟩;clear hC;go_wp2;go_ret;exact ⟨rfl,hb⟩
structure Fr (B:Nat) (W W':World):Prop where
 size:W.heap.size<=W'.heap.size
 keep:∀b o,B<=b->W.heap[b]? = some o->W'.heap[b]? = some o
theorem Fr.below {B:Nat} {W W':World} (h:Below W.heap.size W W'):Fr B W W':=⟨h.size,fun b o _ ho=>(h.block b (Array.getElem?_eq_some_iff.1 ho).1).trans ho⟩
theorem Fr.trans {B:Nat} {X Y Z:World} (h:Fr B X Y) (k:Fr B Y Z):Fr B X Z:=⟨Nat.le_trans h.size k.size,fun b o hb ho=>k.keep b o hb (h.keep b o hb ho)⟩
theorem Fr.more {B B':Nat} {X Y:World} (h:Fr B X Y) (hB:B<=B'):Fr B' X Y:=⟨h.size,fun b o hb ho=>h.keep b o (Nat.le_trans hB hb) ho⟩
theorem Fr.put {B:Nat} {W:World} {l:Nat} (o:Obj) (hl:l<B):Fr B W (W.putObj l o):=⟨by simp,fun b o' hb ho=>(World.putObj_heap_other (by omega)).trans ho⟩
def Lo {α:Type} (B:Nat) (I:List α->World->Prop):Prop:=∀s X Y,I s X->Below B X Y->I s Y
theorem iV {B l:Nat} {X:World} {o o':Obj} (hl:B<=l) (h:X.heap[l]? = some o):Below B X (X.putObj l o') :=
 ⟨rfl,rfl,rfl,by simp,fun k hk=>World.putObj_heap_other (by omega)⟩
def VJ {α:Type} (n:Nat) (P:Program) (gf:Nat) (lb:Array Value) (encs:α->Array Value) (S:List α->Prop) (N:Nat) (w0:World):Prop :=
 ∀(l:Nat) (J Jx:List α->World->Prop) (W:World),Below w0.heap.size w0 W->Lo W.heap.size J->Lo W.heap.size Jx->(∀s X,J s X->Below w0.heap.size w0 X) ->
  (∀pre x X,J pre X->pre.length<N->YieldAt Fence.wide (n-1) P l (encs x) X fun e Y=>(e=.returned (.bool true)/\J (pre++[x]) Y/\Fr W.heap.size X Y)∨(e=.returned (.bool false)/\Jx (pre++[x]) Y)) ->
  J [] W->CallsIn Fence.wide n P gf (#[.func (.yield l) #[] #[]]++lb) W fun e Y=>(∃v,e=.returned v)/\((∃xs,S xs/\J xs Y)∨∃pre,Jx pre Y)
def bodyC {α:Type} (B:Nat) (I Ix:List α->World->Prop) (xs:List α) (W:World):Exit->Act->World->Prop
 | .normal,_,Y=>Fr B W Y/\I xs Y
 | .ret,_,Y=>Fr B W Y/\Ix xs Y
 | _,_,_=>False
theorem uD {α:Type} {n:Nat} {P:Program} {g:Operand} {ps:Array Tmp} {assign body:Code} {Q:Exit->Act->World->Prop} {a:Act} {w w0:World} (h1:1<=n) {gf:Nat} {lb:Array Value} (hg:a.eval g=.func (.func gf) #[] lb)
 (eg:∀args w,(callFunc gf args).run P w=.ok (.enter gf args) w) {encs:α->Array Value} {S:List α->Prop} {N:Nat} (hseq:VJ (n-1) P gf lb encs S N w0) (hb0:Below w0.heap.size w0 w) (hps:∀x,(encs x).size=ps.size)
 (I Ix:List α->World->Prop) (hI:Lo w.heap.size I) (hIx:Lo w.heap.size Ix) (OQ:∀s X,I s X->Below w0.heap.size w0 X) (hz:I [] w) (Ax:α->Act->World->Prop) (hAx:∀x a' X l o o',Ax x a' X->X.heap[l]? = some o->o.isCells=false->Ax x a' (X.putObj l o'))
 (hassign:∀(l:Nat) (x:α) (W:World) (K:Act->World->Prop),(∀a' W',Below W.heap.size W W'->Ax x a' W'->K a' W') ->
  assign.wpIn (Fence.wide.inRound l) (n-1-1) P (Exit.then K (fun _ _ _=>False)) { tmps:=(ps.zip (encs x)).foldl (fun t (p,v)=>t.setIfInBounds p v) a.tmps,defers:=[] } W)
 (hbody:∀(l:Nat) (pre:List α) (x:α) (a':Act) (W:World),I pre W->Ax x a' W->pre.length<N->body.wpIn (Fence.wide.inRound l) (n-1-1) P (bodyC w.heap.size I Ix (pre++[x]) W) a' W)
 (hdone:∀(D:Nat) (xs:List α) (W:World),w.heap.size<=D->S xs->I xs W->W.heap[D]? = some (.deferred (some []))->Q .normal { a with defers:={ target:=.collected D,args:=#[] } :: a.defers } W)
 (hstop:∀(D:Nat) (pre:List α) (W:World),w.heap.size<=D->Ix pre W->W.heap[D]? = some (.deferred (some []))->Code.ret.wpIn Fence.wide n P Q { a with defers:={ target:=.collected D,args:=#[] } :: a.defers } W) :
 (Code.rangeFunc g ps assign body).wpIn Fence.wide n P Q a w:=by
 refine wpIn_rangeFunc fun fn hfn=>?_
 obtain⟨mk,hmk⟩:∃mk:LoopState->Option Code->Loop,mk=fun st pe=>{ state:=st,pending:=pe,fn:=fn,tmps:=a.tmps,params:=ps,assign:=assign,body:=body,defers:=w.heap.size }:=⟨_,rfl⟩
 obtain⟨V,hV⟩:∃V,V=(w.alloc (.deferred (some []))).alloc (.loop (mk .ready none)):=⟨_,rfl⟩
 have hbV:Below w.heap.size w V:=by rw[hV];exact bNew (bNew (gq w) _) _
 have hsV:V.heap.size=w.heap.size+2:=by rw[hV,World.size_alloc,World.size_alloc]
 have hLV:V.heap[w.heap.size+1]? = some (.loop (mk .ready none)):=by
  have h:=World.alloc_heap_new (w.alloc (.deferred (some []))) (.loop (mk .ready none));rw [World.size_alloc]at h;rw [hV];exact h
 have hDV:V.heap[w.heap.size]? = some (.deferred (some [])):=by
  rw[hV];exact (Below.heap_alloc _ _ _ (by rw[World.size_alloc];omega)).trans (World.alloc_heap_new w _)
 refine⟨w.heap.size+1,[{ target:=.collected w.heap.size,args:=#[] }],V,{ target:=.fn (.func gf) lb,args:=#[.func (.yield (w.heap.size+1)) #[] #[]] },V,gf,#[.func (.yield (w.heap.size+1)) #[] #[]]++lb,V,?_,?_,fun _ _=>trivial,?_,fun _=>h1,?_⟩
 · rw[hV,hmk];exact run_enterLoop_outer _ _ _ _ _
 · simp only[resolve,hg];simp [go_sem]
 · simp[invoke,go_sem,eg]
 have two:∀(st:LoopState) (pe:Option Code) (X Y:World),X.heap[w.heap.size+1]? = some (.loop (mk st pe))/\X.heap[w.heap.size]? = some (.deferred (some []))->Below V.heap.size X Y->Y.heap[w.heap.size+1]? = some (.loop (mk st pe))/\Y.heap[w.heap.size]? = some (.deferred (some [])):=fun st pe X Y h hb =>
  ⟨(hb.block _ (by omega)).trans h.1,(hb.block _ (by omega)).trans h.2⟩
 refine (hseq (w.heap.size+1) (fun s X=>I s X/\X.heap[w.heap.size+1]? = some (.loop (mk .ready none))/\X.heap[w.heap.size]? = some (.deferred (some [])))
  (fun s X=>Ix s X/\X.heap[w.heap.size+1]? = some (.loop (mk .done (some .ret)))/\X.heap[w.heap.size]? = some (.deferred (some []))) V (aj hb0 hbV)
  (fun s X Y h hb=>⟨hI s X Y h.1 (hb.mono (by omega)),two _ _ X Y h.2 hb⟩) (fun s X Y h hb=>⟨hIx s X Y h.1 (hb.mono (by omega)),two _ _ X Y h.2 hb⟩) (fun s X h=>OQ s X h.1) ?_ ⟨hI _ _ _ hz hbV,hLV,hDV⟩).mono ?_
 · intro pre x X hX hlen;obtain ⟨hi,hl,hd⟩:=hX;have hlt:w.heap.size+1<X.heap.size:=(Array.getElem?_eq_some_iff.1 hl).1;have hy:=run_yield (P:=P) (args:=encs x) hl (by rw[hmk];exact hps x);rw [hmk]at hy;refine ⟨fn,_,assign,body,hy,roundIn_of_wpIn hfn (hassign _ x X _ fun a' X0 hb0 ha0=>⟨_,run_beginRound ((hb0.block _ hlt).trans hl) (by rw[hmk]),?_⟩)⟩;have hf0:Fr V.heap.size X X0:=Fr.below hb0;have hsz0:=hb0.size;replace hi:=hI _ _ _ hi (hb0.mono (by omega));replace hl:=(hb0.block _ hlt).trans hl;replace hd:=(hb0.block _ (show w.heap.size<X.heap.size by omega)).trans hd;replace hlt:w.heap.size+1<X0.heap.size:=by omega
   obtain⟨X1,hX1⟩:∃X1,X1=X0.putObj (w.heap.size+1) (.loop { mk .ready none with state:=.busy }):=⟨_,rfl⟩
   rw[←hX1];have hl1:X1.heap[w.heap.size+1]? = some (.loop { mk .ready none with state:=.busy }):=by rw[hX1];exact World.putObj_heap_same hlt
   have hd1:X1.heap[w.heap.size]? = some (.deferred (some [])):=by rw[hX1];exact (World.putObj_heap_other (by omega)).trans hd
   have hf1:Fr V.heap.size X X1:=by rw[hX1];exact hf0.trans (Fr.put _ (by omega))
   have ha1:Ax x a' X1:=by rw[hX1];exact hAx _ _ _ _ _ _ ha0 hl rfl
   have hi1:I pre X1:=by rw[hX1];exact hI _ _ _ hi (iV (by omega) hl)
   refine wpIn_mono (hbody _ pre x a' X1 hi1 ha1 hlen) ?_
   have fin:∀(jump:Option Code) (Y:World),Fr w.heap.size X1 Y ->
    ∃Z,(Instr.endRound (w.heap.size+1) jump).run P Y=.ok (.bool jump.isNone) Z/\Below w.heap.size Y Z/\Fr V.heap.size X Z/\Z.heap[w.heap.size+1]? = some (.loop (mk (if jump.isNone then .ready else .done) jump))/\Z.heap[w.heap.size]? = some (.deferred (some [])):=fun jump Y hk=>by
    have hl2:=hk.keep _ _ (by omega) hl1;have hd2:=hk.keep _ _ (by omega) hd1;have he:=run_endRound (P:=P) jump hl2;have hlt2:=(Array.getElem?_eq_some_iff.1 hl2).1;refine ⟨_,he,iV (by omega) hl2,(hf1.trans (hk.more (by omega))).trans (Fr.put _ (by omega)),?_,(World.putObj_heap_other (by omega)).trans hd2⟩;rw [World.putObj_heap_same hlt2,hmk]
   rintro e a3 Y hp
   cases e with
   | normal =>
    obtain⟨Z,hr,hbZ,hfZ,hlZ,hdZ⟩:=fin none Y hp.1;exact ⟨_,_,hr,.inl ⟨rfl,⟨hI _ _ _ hp.2 hbZ,hlZ,hdZ⟩,hfZ⟩⟩
   | ret =>
    obtain⟨Z,hr,hbZ,hfZ,hlZ,hdZ⟩:=fin (some .ret) Y hp.1;exact ⟨_,_,hr,.inr ⟨rfl,hIx _ _ _ hp.2 hbZ,hlZ,hdZ⟩⟩
   | _=>exact hp.elim
 · rintro e Y ⟨⟨v,rfl⟩,(⟨xs,hS,hi,hl,hd⟩|⟨pre,hi,hl,hd⟩)⟩
   · have hr:=run_endLoop (P:=P) hl (by rw[hmk];simp);refine ⟨none,_,by rw[hr,hmk],hdone _ xs _ (Nat.le_refl _) hS (hI _ _ _ hi (iV (by omega) hl)) ((World.putObj_heap_other (by omega)).trans hd)⟩
   · have hr:=run_endLoop (P:=P) hl (by rw[hmk];simp);refine ⟨some .ret,_,by rw[hr,hmk],hstop _ pre _ (Nat.le_refl _) (hIx _ _ _ hi (iV (by omega) hl)) ((World.putObj_heap_other (by omega)).trans hd)⟩
end Go.Proofs.YtelljijajgiabaaGreatDoor

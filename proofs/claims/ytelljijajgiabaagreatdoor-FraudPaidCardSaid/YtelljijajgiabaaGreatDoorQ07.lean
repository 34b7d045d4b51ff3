import Derived.Lib.SlicesCompact
import Derived.Test.YtelljijajgiabaaGreatDoorProg
import Derived.Lib.QuietBelow
import Derived.BigQuiet
import Derived.Test.YtelljijajgiabaaGreatDoorQ06
import Derived.RangeFuncWrites
set_option linter.unusedVariables false
set_option linter.unusedSimpArgs false
set_option maxRecDepth 100000
set_option maxHeartbeats 8000000
namespace Tp
structure Rate where
 days:Int
 lo:Int
 hi:Int
 price:Int
def within (n lo hi:Int):Bool:=decide (lo<=n)&&decide (n<=hi)
theorem within_iff {n lo hi:Int}:within n lo hi=true↔lo<=n/\n<=hi:=by simp[within]
def okRate (r:Rate):Bool:=within r.days 1 127&&decide (0<=r.lo)&&within r.hi (r.lo+1) 86400&&decide (r.lo<86400)&&within r.price 0 1000000
structure Ok (r:Rate):Prop where
 d1:1<=r.days
 d2:r.days<=127
 l0:0<=r.lo
 lh:r.lo<r.hi
 h1:r.hi<=86400
 p0:0<=r.price
 p1:r.price<=1000000
def valid (base:Int) (l:List Rate):Bool:=within base 0 1000000&&decide (l.length<=10)&&l.all okRate
def sec (off t:Int):Int:=(t+off+604800) % 604800
def bit (days:Int) (k:Nat):Bool:=decide (days / 2 ^ k % 2=1)
def hits (s:Int) (r:Rate):Bool:=bit r.days (s / 86400).toNat&&within (s % 86400) r.lo (r.hi-1)
def rated (base:Int) (l:List Rate) (s:Int):Int:=match l.find? (hits s) with|some r=>r.price|none=>base
def price (base:Int) (l:List Rate) (off t:Int):Int:=rated base l (sec off t)
def sumN (f:Int->Int) (a:Int):Nat->Int
 | 0=>0
 | n+1=>sumN f a n+f (a+n)
def sumF (f:Int->Int) (a b:Int):Int:=sumN f a (b-a).toNat
def nextC (C:List Int) (d:Int):Int:=match C.find? (fun c=>decide (d<c)) with|some c=>c|none=>86400
structure Cuts (l:List Rate) (C:List Int):Prop where
 los:∀r∈l,r.lo∈C
 his:∀r∈l,r.hi % 86400∈C
 rg:∀c∈C,0<=c/\c<86400
 so:C.Pairwise (·< ·)
def stop (C:List Int) (off a b:Int):Int:=min (a+nextC C (sec off a % 86400)-sec off a % 86400) b
structure Pc where
 lo:Int
 hi:Int
 price:Int
def pieces (base:Int) (l:List Rate) (C:List Int) (off:Int):Nat->Int->Int->List Pc
 | 0,_,_=>[]
 | n+1,a,b=>if a<b then ⟨a,stop C off a b,price base l off a⟩ :: pieces base l C off n (stop C off a b) b else []
section
variable {W:Int->Int} {T:Int->Prop} {A B:Int} (hA:T A) (hB:T B) (hlin:∀t,A<t->t<B->¬T t->W (t+1)-W t=W t-W (t-1))
include hA hB hlin
end
def tryS (W:Int->Int) (A B:Int) (s:Int × Int) (t:Int):Int × Int:=if within t A B then (if W t<s.2∨(W t=s.2/\t<s.1) then (t,W t) else s) else s
structure Tried (W:Int->Int) (A B:Int) (T:Int->Prop) (s:Int × Int):Prop where
 w:s.2=W s.1
 a:A<=s.1
 b:s.1<=B
 le:∀u,T u->A<=u->u<=B->W s.1<W u∨(W s.1=W u/\s.1<=u)
theorem Tried.step {W:Int->Int} {A B:Int} {T:Int->Prop} {s:Int × Int} (h:Tried W A B T s) (t:Int):Tried W A B (fun u=>T u∨u=t) (tryS W A B s t):=by
 unfold tryS
 obtain⟨hw,ha,hb,hle⟩:=h
 split
 · next hin =>
   obtain⟨i1,i2⟩:=within_iff.1 hin
   split
   · next hlt =>
     refine⟨rfl,i1,i2,fun u hu h1 h2=>?_⟩
     rcases hu with hu|rfl
     · have:=hle u hu h1 h2;simp only;omega
     · exact .inr ⟨rfl,Int.le_refl _⟩
   · next hge =>
     refine⟨hw,ha,hb,fun u hu h1 h2=>?_⟩
     rcases hu with hu|rfl
     · exact hle u hu h1 h2
     · omega
 · next hin =>
   refine⟨hw,ha,hb,fun u hu h1 h2=>?_⟩
   rcases hu with hu|rfl
   · exact hle u hu h1 h2
   · exact absurd (within_iff.2 ⟨h1,h2⟩) hin
theorem Tried.all {W:Int->Int} {A B:Int}:∀(L:List Int) {T:Int->Prop} {s:Int × Int},Tried W A B T s->Tried W A B (fun u=>T u∨u∈L) (L.foldl (tryS W A B) s)
 | [],T,s,h=>⟨h.w,h.a,h.b,fun u hu h1 h2=>h.le u (by simpa using hu) h1 h2⟩
 | t :: L,T,s,h=>by
  have:=Tried.all L (h.step t);exact ⟨this.w,this.a,this.b,fun u hu h1 h2=>this.le u (by rcases hu with h|h;exact .inl (.inl h);rcases List.mem_cons.1 h with h|h;exact .inl (.inr h);exact .inr h) h1 h2⟩
def win (f:Int->Int) (n:Int) (t:Int):Int:=sumF f t (t+n)
def tries (L:List Pc) (n last:Int):List Int:=L.flatMap (fun p=>[p.lo,p.lo-n])++[last]
def cheapest (base:Int) (l:List Rate) (C:List Int) (off a b n:Int):Int × Int :=
 (tries (pieces base l C off (b-a).toNat a b) n (b-n)).foldl (tryS (win (price base l off) n) a (b-n)) (a,win (price base l off) n a)
def push (out:List Pc) (p:Pc):List Pc:=match out.getLast? with
 | some q=>if q.price=p.price then out.dropLast++[⟨q.lo,p.hi,q.price⟩] else out++[p]
 | none=>[p]
def splits (L:List Pc):List Pc:=L.foldl push []
def Chain (f:Int->Int):Int->List Pc->Int->Prop
 | a,[],b=>a=b
 | a,p :: L,b=>p.lo=a/\a<p.hi/\(∀t,a<=t->t<p.hi->f t=p.price)/\Chain f p.hi L b
theorem Chain.snoc {f:Int->Int} {p:Pc} {b c:Int}:∀ {L:List Pc} {a:Int},Chain f a L b->p.lo=b->b<p.hi->(∀t,b<=t->t<p.hi->f t=p.price)->c=p.hi->Chain f a (L++[p]) c
 | [],a,h,h1,h2,h3,h4=>by
  have h:a=b:=h;subst h;subst h4;exact ⟨h1,h2,h3,rfl⟩
 | q :: L,a,⟨e1,e2,e3,e4⟩,h1,h2,h3,h4=>⟨e1,e2,e3,e4.snoc h1 h2 h3 h4⟩
theorem Chain.le {f:Int->Int}:∀ {L:List Pc} {a b:Int},Chain f a L b->a<=b
 | [],a,b,h=>by have h:a=b:=h;omega
 | p :: L,a,b,⟨h1,h2,h3,h4⟩=>by have:=h4.le;omega
def Alt:List Int->Prop
 | []=>True
 | [_]=>True
 | x :: y :: L=>x≠y/\Alt (y :: L)
theorem Alt.tail {x:Int} {L:List Int} (h:Alt (x :: L)):Alt L:=by
 cases L with
 | nil=>trivial
 | cons y L=>exact h.2
theorem Alt.snoc {y:Int}:∀ {L:List Int} {x:Int},Alt (L++[x])->x≠y->Alt (L++[x]++[y])
 | [],x,_,h=>⟨h,trivial⟩
 | [z],x,h1,h=>⟨h1.1,h,trivial⟩
 | z :: u :: L,x,h1,h=>⟨h1.1,Alt.snoc (L:=u :: L) h1.2 h⟩
theorem Pc.eq {p q:Pc} (h1:p.lo=q.lo) (h2:p.hi=q.hi) (h3:p.price=q.price):p=q:=by
 cases p;cases q;simp_all
def first (off a:Int):Int:=a+(86400-sec off a % 86400) % 86400
end Tp
namespace Tp
end Tp
namespace Tp
def pick (c n:Int):Int:=(if c<0 then -(c+1) else c) % n
theorem pick_lt (c:Int) {n:Int} (h:0<n):0<=pick c n/\pick c n<n:=⟨Int.emod_nonneg _ (by omega),Int.emod_lt_of_pos _ h⟩
structure Y4 where
 a:Int
 b:Int
 c:Int
 d:Int
def mkRate (y:Y4):Rate :=
 if pick (y.b.tdiv 24) 4=3 then ⟨1+pick y.a 127,pick y.b 86400,pick y.b 86400+1+pick y.c (86400-pick y.b 86400),pick y.d 1000⟩
 else ⟨1+pick y.a 127,3600*pick y.b 24,min (3600*pick y.b 24+3600*(1+pick y.c 24)) 86400,pick y.d 1000⟩
def made (x:List Y4):List Rate:=(x.take 6).map mkRate
structure Like (l m:List Rate) (g:Int->Int->Prop):Prop where
 len:l.length=m.length
 at_:∀(i:Nat) (r q:Rate),l[i]? = some r->m[i]? = some q->r.days=q.days/\r.lo=q.lo/\r.hi=q.hi/\g r.price q.price
theorem Like.rated {g:Int->Int->Prop} {b c:Int} (hb:g b c) (s:Int):∀ {l m:List Rate},Like l m g->g (rated b l s) (rated c m s)
 | [],[],h=>hb
 | [],q :: m,h=>by have:=h.len;simp at this
 | r :: l,[],h=>by have:=h.len;simp at this
 | r :: l,q :: m,h=>by
  obtain⟨h1,h2,h3,h4⟩:=h.at_ 0 r q rfl rfl;have hs:hits s r=hits s q:=by unfold hits;rw[h1,h2,h3]
  have ht:Like l m g:=⟨by have:=h.len;simpa using this,fun i x y hx hy=>h.at_ (i+1) x y hx hy⟩
  have ih:=ht.rated hb s
  unfold Tp.rated at ih ⊢
  rw[List.find?_cons,List.find?_cons,hs];cases hits s q
  · exact ih
  · exact h4
end Tp
namespace Tb
def lt (l:List Int) (x:Int):Nat:=l.countP fun y=>decide (y<x)
def cw (l:List Int) (s w:Int):Nat:=l.countP fun y=>decide (s<=y)&&decide (y<s+w)
theorem lt_cw (s w:Int) (hw:0<=w):∀l:List Int,lt l (s+w)=lt l s+cw l s w
 | []=>rfl
 | y :: l=>by
  have ih:=lt_cw s w hw l
  unfold lt cw at *
  rw[List.countP_cons,List.countP_cons,List.countP_cons,ih];by_cases h1:y<s
  · have a1:decide (y<s+w)=true:=by simp;omega
    have a2:decide (y<s)=true:=by simp;omega
    have a3:decide (s<=y)=false:=by simp;omega
    rw[a1,a2,a3];simp;omega
  · have a2:decide (y<s)=false:=by simp;omega
    have a3:decide (s<=y)=true:=by simp;omega
    rw[a2,a3];by_cases h2:y<s+w
    · have a1:decide (y<s+w)=true:=by simp;omega
      rw[a1];simp;omega
    · have a1:decide (y<s+w)=false:=by simp;omega
      rw[a1];simp
def So (l:List Int):Prop:=l.Pairwise (·<=·)
theorem lt_iff:∀ {l:List Int} (h:So l) (x:Int) (i:Nat) (hi:i<l.length),l[i]<x↔i<lt l x
 | y :: l,h,x,i,hi=>by
  obtain⟨h1,h2⟩:=List.pairwise_cons.1 h
  have e:lt (y :: l) x=lt l x+if y<x then 1 else 0:=by
   unfold lt;rw[List.countP_cons];simp
  by_cases hy:y<x
  · rw[if_pos hy]at e
    cases i with
    | zero=>simp only[List.getElem_cons_zero];omega
    | succ i =>
     have:=lt_iff h2 x i (by simpa using hi);simp only[List.getElem_cons_succ];omega
  · rw[if_neg hy]at e
    have h0:lt l x=0:=by
     unfold lt
     rw[List.countP_eq_zero];intro z hz;have:=h1 z hz;simp;omega
    have hle:∀z∈y :: l,¬z<x:=fun z hz=>by
     rcases List.mem_cons.1 hz with rfl|hz
     · exact hy
     · have:=h1 z hz;omega
    have:=hle _ (List.getElem_mem hi);omega
theorem so_le {l:List Int} (h:So l) {i j:Nat} (hij:i<=j) (hj:j<l.length):l[i]'(by omega)<=l[j]:=by
 rcases Nat.lt_or_ge i j with h1|h1
 · exact List.pairwise_iff_getElem.1 h i j (by omega) hj h1
 · have:i=j:=by omega
   subst this;exact Int.le_refl _
theorem lt_at {l:List Int} (h:So l) {i:Nat} (hi:i<l.length):lt l l[i]<=i:=by
 have:=(lt_iff h l[i] i hi)
 have:¬i<lt l l[i]:=fun h1=>by have:=this.2 h1;omega
 omega
structure Bw (l:List Int) (w:Int) (k:Nat) (best at_:Int):Prop where
 z:k=0->best=0/\at_=0
 wh:0<k->∃(j:Nat) (hj:j<l.length),j<k/\l[j]=at_/\(cw l at_ w:Int)=best
 le:∀(j:Nat) (hj:j<l.length),j<k->(cw l l[j] w:Int)<=best/\(l[j]<at_->(cw l l[j] w:Int)<best)
theorem Bw.start (l:List Int) (w:Int):Bw l w 0 0 0:=⟨fun _=>⟨rfl,rfl⟩,fun h=>by omega,fun j hj h=>by omega⟩
theorem cw_pos {l:List Int} {w:Int} (hw:1<=w) {i:Nat} (hi:i<l.length):0<cw l l[i] w:=by
 unfold cw
 rw[List.countP_pos_iff];exact ⟨l[i],List.getElem_mem hi,by simp;omega⟩
theorem Bw.next {l:List Int} {w:Int} (hs:So l) (hw:1<=w) {k:Nat} {best at_:Int} (h:Bw l w k best at_) (hk:k<l.length) :
 (best<(cw l l[k] w:Int)->Bw l w (k+1) (cw l l[k] w) l[k])/\(¬best<(cw l l[k] w:Int)->Bw l w (k+1) best at_):=by
 constructor
 · intro hb;refine ⟨fun h=>by omega,fun _=>⟨k,hk,by omega,rfl,rfl⟩,fun j hj hjk=>?_⟩
   rcases Nat.lt_or_ge j k with h1|h1
   · have:=h.le j hj h1;omega
   · have:j=k:=by omega
     subst this;omega
 · intro hb
   have hk0:0<k:=by
    rcases Nat.eq_zero_or_pos k with h0|h0
    · have:=(h.z h0).1;have:=cw_pos (l:=l) hw hk;omega
    · exact h0
   refine⟨fun h=>by omega,fun _=>?_,fun j hj hjk=>?_⟩
   · obtain⟨j,hj,h1,h2,h3⟩:=h.wh hk0;exact ⟨j,hj,by omega,h2,h3⟩
   · rcases Nat.lt_or_ge j k with h1|h1
     · exact h.le j hj h1
     · have:j=k:=by omega
       subst this;obtain ⟨m,hm,h1,h2,h3⟩:=h.wh hk0;have:=so_le hs (show m<=j by omega) hj;omega
theorem Bw.step {l:List Int} {w:Int} (hs:So l) (hw:1<=w) {k:Nat} {best at_:Int} (h:Bw l w k best at_) (hk:k<l.length) :
 (best<(lt l (l[k]+w):Int)-k->Bw l w (k+1) ((lt l (l[k]+w):Int)-k) l[k])/\(¬best<(lt l (l[k]+w):Int)-k->Bw l w (k+1) best at_):=by
 have e:=lt_cw l[k] w (by omega) l;have hle:=lt_at hs hk;obtain ⟨n1,n2⟩:=h.next hs hw hk;by_cases hf:lt l l[k]=k
 · have e2:(lt l (l[k]+w):Int)-k=(cw l l[k] w:Int):=by omega
   rw[e2];exact ⟨n1,n2⟩
 · -- the same time stands before it
   have hlt:lt l l[k]<k:=by omega
   have hj:lt l l[k]<l.length:=by omega
   have h1:¬l[lt l l[k]]<l[k]:=fun h0=>by have:=(lt_iff hs l[k] _ hj).1 h0;omega
   have h2:=so_le hs (show lt l l[k]<=k by omega) hk;have h3:l[lt l l[k]]=l[k]:=by omega
   have h4:=(h.le _ hj hlt).1;rw [h3]at h4;exact ⟨fun h0=>by omega,fun _=>n2 (by omega)⟩
theorem cw_mono {l:List Int} {s s' w w':Int} (h:∀y∈l,s<=y->y<s+w->s'<=y/\y<s'+w'):cw l s w<=cw l s' w':=by
 unfold cw
 refine List.countP_mono_left fun y hy h1=>?_
 simp only[Bool.and_eq_true,decide_eq_true_eq]at *;exact h y hy h1.1 h1.2
theorem Bw.all {l:List Int} {w best at_:Int} (hs:So l) (h:Bw l w l.length best at_) (h0:0<l.length) (s:Int):(cw l s w:Int)<=best:=by
 rcases Nat.lt_or_ge (lt l s) l.length with h1|h1
 · have h2:=(h.le _ h1 h1).1;have h3:¬l[lt l s]<s:=fun h0=>by have:=(lt_iff hs s _ h1).1 h0;omega
   have:cw l s w<=cw l l[lt l s] w:=cw_mono fun y hy y1 y2=>by
    obtain⟨j,hj,rfl⟩:=List.mem_iff_getElem.1 hy;have h4:¬j<lt l s:=fun h5=>by have:=(lt_iff hs s j hj).2 h5;omega
    have:=so_le hs (show lt l s<=j by omega) hj;omega
   omega
 · have:cw l s w=0:=by
    unfold cw
    rw[List.countP_eq_zero];intro y hy;obtain ⟨j,hj,rfl⟩:=List.mem_iff_getElem.1 hy;have:=(lt_iff hs s j hj).2 (by omega);simp;omega
   obtain⟨i,hi,i1,i2,i3⟩:=h.wh h0;omega
theorem Bw.wide {l:List Int} {w w' b1 a1 b2 a2:Int} (hs:So l) (h1:Bw l w l.length b1 a1) (h2:Bw l w' l.length b2 a2) (hw:w<=w') (h0:0<l.length):b1<=b2:=by
 obtain⟨i,hi,i1,i2,i3⟩:=h1.wh h0;have e1:=h2.all hs h0 a1;have:cw l a1 w<=cw l a1 w':=cw_mono fun y _ _ _=>by omega
 omega
theorem Bw.more {l m:List Int} {w t b1 a1 b2 a2:Int} (hs:So l) (hm:So m) (h1:Bw l w l.length b1 a1) (h2:Bw m w m.length b2 a2) (hlen:m.length=l.length+1) (h0:0<l.length)
 (hc:∀s,cw m s w=cw l s w+if s<=t/\t<s+w then 1 else 0):b1<=b2/\b2<=b1+1:=by
 obtain⟨i,hi,i1,i2,i3⟩:=h1.wh h0;obtain ⟨j,hj,j1,j2,j3⟩:=h2.wh (by omega);have e1:=h2.all hm (by omega) a1;have e2:=h1.all hs h0 a2;have f1:=hc a1;have f2:=hc a2
 constructor
 · split at f1 <;> omega
 · split at f2 <;> omega
end Tb
namespace Tb
end Tb
namespace Tb
end Tb
namespace Go.Proofs.YtelljijajgiabaaGreatDoor
open Go.RowKit
theorem isIn_any (n lo hi:Int) (w:World) :
 Calls Tryz.prog 152 #[.int .i64 n,.int .i64 lo,.int .i64 hi] w fun e w'=>e=.returned (.bool (Tp.within n lo hi))/\w=w':=by
 by_cases h1:lo<=n <;> by_cases h2:n<=hi
 all_goals
  go_enter Tryz.func152,Tryz.ntmps152
  go_wp2;go_ret;exact ⟨by simp[Tp.within, *] <;> omega,rfl⟩
def idxI {α:Type} (p:α->Bool) (l:List α):Int:=match l.findIdx? p with|some i=>(i:Int)|none=> -1
theorem idx_hit {α:Type} {p:α->Bool} {l:List α} {k:Nat} (hk:k<l.length) (h1:p l[k]=true) (h2:∀(j:Nat) (hj:j<k),p (l[j]'(by omega))=false):idxI p l=k:=by
 unfold idxI
 have:l.findIdx? p=some k:=by
  rw[List.findIdx?_eq_some_iff_getElem];exact ⟨hk,h1,fun j hj=>by rw[h2 j hj];simp⟩
 rw[this]
theorem idx_none {α:Type} {p:α->Bool} {l:List α} (h:∀(j:Nat) (hj:j<l.length),p l[j]=false):idxI p l= -1:=by
 unfold idxI
 have:l.findIdx? p=none:=by
  rw[List.findIdx?_eq_none_iff];intro c hc;obtain ⟨j,hj,rfl⟩:=List.mem_iff_getElem.1 hc;exact h j hj
 rw[this]
theorem idx_any {α:Type} (p:α->Bool) (l:List α):decide (0<=idxI p l)=l.any p:=by
 unfold idxI
 cases h:l.findIdx? p with
 | some i =>
  obtain⟨h1,h2,h3⟩:=List.findIdx?_eq_some_iff_getElem.1 h;have:l.any p=true:=List.any_eq_true.2 ⟨l[i],List.getElem_mem h1,h2⟩;rw [this];simp
 | none =>
  have:l.any p=false:=by
   rw[List.any_eq_false];intro x hx;have:=List.findIdx?_eq_none_iff.1 h x hx;simp [this]
  rw[this];simp
open Go.RowKit Go.Shelf
def Ix (z:Int) (s:List UInt8):Prop:=Kp (Lib.itoa z=s)
theorem Ix.ex (z:Int):∃s,Ix z s:=⟨_,⟨rfl⟩⟩
theorem plus_s {x y z:Int} {sx sy sz:List UInt8} (w:World) (hx:Ix x sx) (hy:Ix y sy) (hz:Ix z sz) (h:Kp (x+y=z)) {j k l:Nat} (fx:Rq.Sz j x) (fy:Rq.Sz k y) (fz:Rq.Sz l z) (hj:j<=200) (hk:k<=200) (hl:l<=200) (hE:Env w) :
 Calls Tryz.prog 193 #[.string ⟨sx.toArray⟩,.string ⟨sy.toArray⟩] w fun e w'=>e=.returned (.string ⟨sz.toArray⟩)/\Below w.heap.size w w':=by
 have hC:=Add_any x y w (fx.fits hj) (fy.fits hk) hE;rw [h.out,Ig.resS_fits (fz.fits hl),Ig.resE_fits (fz.fits hl),hx.out,hy.out,hz.out]at hC;clear fx fy fz hx hy hz h
 go_enter Tryz.func193,Tryz.ntmps193
 go_wp2_with fail;refine hC.mono ?_;rintro _ w1 ⟨rfl,hb⟩;clear hC;go_wp2;go_ret;exact ⟨rfl,hb⟩
theorem times_s {x y z:Int} {sx sy sz:List UInt8} (w:World) (hx:Ix x sx) (hy:Ix y sy) (hz:Ix z sz) (h:Kp (x*y=z)) {j k l:Nat} (fx:Rq.Sz j x) (fy:Rq.Sz k y) (fz:Rq.Sz l z) (hj:j<=200) (hk:k<=200) (hl:l<=200) (hE:Env w) :
 Calls Tryz.prog 156 #[.string ⟨sx.toArray⟩,.string ⟨sy.toArray⟩] w fun e w'=>e=.returned (.string ⟨sz.toArray⟩)/\Below w.heap.size w w':=by
 have hC:=Mul_any x y w (fx.fits hj) (fy.fits hk) hE;rw [h.out,Ig.resS_fits (fz.fits hl),Ig.resE_fits (fz.fits hl),hx.out,hy.out,hz.out]at hC;clear fx fy fz hx hy hz h
 go_enter Tryz.func156,Tryz.ntmps156
 go_wp2_with fail;refine hC.mono ?_;rintro _ w1 ⟨rfl,hb⟩;clear hC;go_wp2;go_ret;exact ⟨rfl,hb⟩
structure Fr (B:Nat) (W W':World):Prop where
 size:W.heap.size<=W'.heap.size
 keep:∀b o,B<=b->W.heap[b]? = some o->W'.heap[b]? = some o
theorem Fr.below {B:Nat} {W W':World} (h:Below W.heap.size W W'):Fr B W W':=⟨h.size,fun b o _ ho=>(h.block b (Array.getElem?_eq_some_iff.1 ho).1).trans ho⟩
theorem Fr.trans {B:Nat} {X Y Z:World} (h:Fr B X Y) (k:Fr B Y Z):Fr B X Z:=⟨Nat.le_trans h.size k.size,fun b o hb ho=>k.keep b o hb (h.keep b o hb ho)⟩
theorem Fr.more {B B':Nat} {X Y:World} (h:Fr B X Y) (hB:B<=B'):Fr B' X Y:=⟨h.size,fun b o hb ho=>h.keep b o (Nat.le_trans hB hb) ho⟩
theorem Fr.put {B:Nat} {W:World} {l:Nat} (o:Obj) (hl:l<B):Fr B W (W.putObj l o):=⟨by simp,fun b o' hb ho=>(World.putObj_heap_other (by omega)).trans ho⟩
def Lo {α:Type} (B:Nat) (I:List α->World->Prop):Prop:=∀s X Y,I s X->Below B X Y->I s Y
theorem below_put {B l:Nat} {X:World} {o o':Obj} (hl:B<=l) (h:X.heap[l]? = some o):Below B X (X.putObj l o') :=
 ⟨rfl,rfl,rfl,by simp,fun k hk=>World.putObj_heap_other (by omega)⟩
def SeqC {α:Type} (n:Nat) (P:Program) (gf:Nat) (lb:Array Value) (encs:α->Array Value) (S:List α->Prop) (N:Nat) (w0:World):Prop :=
 ∀(l:Nat) (J Jx:List α->World->Prop) (W:World),Below w0.heap.size w0 W->Lo W.heap.size J->Lo W.heap.size Jx->(∀s X,J s X->Below w0.heap.size w0 X) ->
  (∀pre x X,J pre X->pre.length<N->YieldAt Fence.wide (n-1) P l (encs x) X fun e Y=>(e=.returned (.bool true)/\J (pre++[x]) Y/\Fr W.heap.size X Y)∨(e=.returned (.bool false)/\Jx (pre++[x]) Y)) ->
  J [] W->CallsIn Fence.wide n P gf (#[.func (.yield l) #[] #[]]++lb) W fun e Y=>(∃v,e=.returned v)/\((∃xs,S xs/\J xs Y)∨∃pre,Jx pre Y)
def bodyC {α:Type} (B:Nat) (I Ix:List α->World->Prop) (xs:List α) (W:World):Exit->Act->World->Prop
 | .normal,_,Y=>Fr B W Y/\I xs Y
 | .ret,_,Y=>Fr B W Y/\Ix xs Y
 | _,_,_=>False
theorem wpIn_range_c {α:Type} {n:Nat} {P:Program} {g:Operand} {ps:Array Tmp} {assign body:Code} {Q:Exit->Act->World->Prop} {a:Act} {w w0:World} (h1:1<=n) {gf:Nat} {lb:Array Value} (hg:a.eval g=.func (.func gf) #[] lb)
 (eg:∀args w,(callFunc gf args).run P w=.ok (.enter gf args) w) {encs:α->Array Value} {S:List α->Prop} {N:Nat} (hseq:SeqC (n-1) P gf lb encs S N w0) (hb0:Below w0.heap.size w0 w) (hps:∀x,(encs x).size=ps.size)
 (I Ix:List α->World->Prop) (hI:Lo w.heap.size I) (hIx:Lo w.heap.size Ix) (hIw:∀s X,I s X->Below w0.heap.size w0 X) (hz:I [] w) (Ax:α->Act->World->Prop) (hAx:∀x a' X l o o',Ax x a' X->X.heap[l]? = some o->o.isCells=false->Ax x a' (X.putObj l o'))
 (hassign:∀(l:Nat) (x:α) (W:World) (K:Act->World->Prop),(∀a' W',Below W.heap.size W W'->Ax x a' W'->K a' W') ->
  assign.wpIn (Fence.wide.inRound l) (n-1-1) P (Exit.then K (fun _ _ _=>False)) { tmps:=(ps.zip (encs x)).foldl (fun t (p,v)=>t.setIfInBounds p v) a.tmps,defers:=[] } W)
 (hbody:∀(l:Nat) (pre:List α) (x:α) (a':Act) (W:World),I pre W->Ax x a' W->pre.length<N->body.wpIn (Fence.wide.inRound l) (n-1-1) P (bodyC w.heap.size I Ix (pre++[x]) W) a' W)
 (hdone:∀(D:Nat) (xs:List α) (W:World),w.heap.size<=D->S xs->I xs W->W.heap[D]? = some (.deferred (some []))->Q .normal { a with defers:={ target:=.collected D,args:=#[] } :: a.defers } W)
 (hstop:∀(D:Nat) (pre:List α) (W:World),w.heap.size<=D->Ix pre W->W.heap[D]? = some (.deferred (some []))->Code.ret.wpIn Fence.wide n P Q { a with defers:={ target:=.collected D,args:=#[] } :: a.defers } W) :
 (Code.rangeFunc g ps assign body).wpIn Fence.wide n P Q a w:=by
 refine wpIn_rangeFunc fun fn hfn=>?_
 obtain⟨mk,hmk⟩:∃mk:LoopState->Option Code->Loop,mk=fun st pe=>{ state:=st,pending:=pe,fn:=fn,tmps:=a.tmps,params:=ps,assign:=assign,body:=body,defers:=w.heap.size }:=⟨_,rfl⟩
 obtain⟨V,hV⟩:∃V,V=(w.alloc (.deferred (some []))).alloc (.loop (mk .ready none)):=⟨_,rfl⟩
 have hbV:Below w.heap.size w V:=by rw[hV];exact bNew (bNew (bStart w) _) _
 have hsV:V.heap.size=w.heap.size+2:=by rw[hV,World.size_alloc,World.size_alloc]
 have hLV:V.heap[w.heap.size+1]? = some (.loop (mk .ready none)):=by
  have h:=World.alloc_heap_new (w.alloc (.deferred (some []))) (.loop (mk .ready none));rw [World.size_alloc]at h;rw [hV];exact h
 have hDV:V.heap[w.heap.size]? = some (.deferred (some [])):=by
  rw[hV];exact (Below.heap_alloc _ _ _ (by rw[World.size_alloc];omega)).trans (World.alloc_heap_new w _)
 refine⟨w.heap.size+1,[{ target:=.collected w.heap.size,args:=#[] }],V,{ target:=.fn (.func gf) lb,args:=#[.func (.yield (w.heap.size+1)) #[] #[]] },V,gf,#[.func (.yield (w.heap.size+1)) #[] #[]]++lb,V,?_,?_,fun _ _=>trivial,?_,fun _=>h1,?_⟩
 · rw[hV,hmk];exact run_enterLoop_outer _ _ _ _ _
 · simp only[resolve,hg];simp [go_sem]
 · simp[invoke,go_sem,eg]
 have two:∀(st:LoopState) (pe:Option Code) (X Y:World),X.heap[w.heap.size+1]? = some (.loop (mk st pe))/\X.heap[w.heap.size]? = some (.deferred (some []))->Below V.heap.size X Y->Y.heap[w.heap.size+1]? = some (.loop (mk st pe))/\Y.heap[w.heap.size]? = some (.deferred (some [])):=fun st pe X Y h hb =>
  ⟨(hb.block _ (by omega)).trans h.1,(hb.block _ (by omega)).trans h.2⟩
 refine (hseq (w.heap.size+1) (fun s X=>I s X/\X.heap[w.heap.size+1]? = some (.loop (mk .ready none))/\X.heap[w.heap.size]? = some (.deferred (some [])))
  (fun s X=>Ix s X/\X.heap[w.heap.size+1]? = some (.loop (mk .done (some .ret)))/\X.heap[w.heap.size]? = some (.deferred (some []))) V (bCall hb0 hbV)
  (fun s X Y h hb=>⟨hI s X Y h.1 (hb.mono (by omega)),two _ _ X Y h.2 hb⟩) (fun s X Y h hb=>⟨hIx s X Y h.1 (hb.mono (by omega)),two _ _ X Y h.2 hb⟩) (fun s X h=>hIw s X h.1) ?_ ⟨hI _ _ _ hz hbV,hLV,hDV⟩).mono ?_
 · intro pre x X hX hlen;obtain ⟨hi,hl,hd⟩:=hX;have hlt:w.heap.size+1<X.heap.size:=(Array.getElem?_eq_some_iff.1 hl).1;have hy:=run_yield (P:=P) (args:=encs x) hl (by rw[hmk];exact hps x);rw [hmk]at hy;refine ⟨fn,_,assign,body,hy,roundIn_of_wpIn hfn (hassign _ x X _ fun a' X0 hb0 ha0=>⟨_,run_beginRound ((hb0.block _ hlt).trans hl) (by rw[hmk]),?_⟩)⟩;have hf0:Fr V.heap.size X X0:=Fr.below hb0;have hsz0:=hb0.size;replace hi:=hI _ _ _ hi (hb0.mono (by omega));replace hl:=(hb0.block _ hlt).trans hl;replace hd:=(hb0.block _ (show w.heap.size<X.heap.size by omega)).trans hd;replace hlt:w.heap.size+1<X0.heap.size:=by omega
   obtain⟨X1,hX1⟩:∃X1,X1=X0.putObj (w.heap.size+1) (.loop { mk .ready none with state:=.busy }):=⟨_,rfl⟩
   rw[←hX1];have hl1:X1.heap[w.heap.size+1]? = some (.loop { mk .ready none with state:=.busy }):=by rw[hX1];exact World.putObj_heap_same hlt
   have hd1:X1.heap[w.heap.size]? = some (.deferred (some [])):=by rw[hX1];exact (World.putObj_heap_other (by omega)).trans hd
   have hf1:Fr V.heap.size X X1:=by rw[hX1];exact hf0.trans (Fr.put _ (by omega))
   have ha1:Ax x a' X1:=by rw[hX1];exact hAx _ _ _ _ _ _ ha0 hl rfl
   have hi1:I pre X1:=by rw[hX1];exact hI _ _ _ hi (below_put (by omega) hl)
   refine wpIn_mono (hbody _ pre x a' X1 hi1 ha1 hlen) ?_
   have fin:∀(jump:Option Code) (Y:World),Fr w.heap.size X1 Y ->
    ∃Z,(Instr.endRound (w.heap.size+1) jump).run P Y=.ok (.bool jump.isNone) Z/\Below w.heap.size Y Z/\Fr V.heap.size X Z/\Z.heap[w.heap.size+1]? = some (.loop (mk (if jump.isNone then .ready else .done) jump))/\Z.heap[w.heap.size]? = some (.deferred (some [])):=fun jump Y hk=>by
    have hl2:=hk.keep _ _ (by omega) hl1;have hd2:=hk.keep _ _ (by omega) hd1;have he:=run_endRound (P:=P) jump hl2;have hlt2:=(Array.getElem?_eq_some_iff.1 hl2).1;refine ⟨_,he,below_put (by omega) hl2,(hf1.trans (hk.more (by omega))).trans (Fr.put _ (by omega)),?_,(World.putObj_heap_other (by omega)).trans hd2⟩;rw [World.putObj_heap_same hlt2,hmk]
   rintro e a3 Y hp
   cases e with
   | normal =>
    obtain⟨Z,hr,hbZ,hfZ,hlZ,hdZ⟩:=fin none Y hp.1;exact ⟨_,_,hr,.inl ⟨rfl,⟨hI _ _ _ hp.2 hbZ,hlZ,hdZ⟩,hfZ⟩⟩
   | ret =>
    obtain⟨Z,hr,hbZ,hfZ,hlZ,hdZ⟩:=fin (some .ret) Y hp.1;exact ⟨_,_,hr,.inr ⟨rfl,hIx _ _ _ hp.2 hbZ,hlZ,hdZ⟩⟩
   | _=>exact hp.elim
 · rintro e Y ⟨⟨v,rfl⟩,(⟨xs,hS,hi,hl,hd⟩|⟨pre,hi,hl,hd⟩)⟩
   · have hr:=run_endLoop (P:=P) hl (by rw[hmk];simp);refine ⟨none,_,by rw[hr,hmk],hdone _ xs _ (Nat.le_refl _) hS (hI _ _ _ hi (below_put (by omega) hl)) ((World.putObj_heap_other (by omega)).trans hd)⟩
   · have hr:=run_endLoop (P:=P) hl (by rw[hmk];simp);refine ⟨some .ret,_,by rw[hr,hmk],hstop _ pre _ (Nat.le_refl _) (hIx _ _ _ hi (below_put (by omega) hl)) ((World.putObj_heap_other (by omega)).trans hd)⟩
end Go.Proofs.YtelljijajgiabaaGreatDoor

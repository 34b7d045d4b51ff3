import Derived.Lib.SlicesCompact
import Derived.Test.YtohgjenaclfegaaGreatDoorQK02
import Derived.Lib.QuietBelow
import Derived.BigQuiet
import Derived.Deep.Slices
import Derived.ProofKit
import Derived.OpenShut
set_option linter.unusedVariables false
set_option linter.unusedSimpArgs false
set_option maxRecDepth 100000
set_option maxHeartbeats 8000000
namespace Tp
structure qg where
 days:Int
 lo:Int
 hi:Int
 price:Int
def within (n lo hi:Int):Bool:=decide (lo<=n)&&decide (n<=hi)
theorem within_iff {n lo hi:Int}:within n lo hi=true↔lo<=n/\n<=hi:=by simp[within]
def SV (r:qg):Bool:=within r.days 1 127&&decide (0<=r.lo)&&within r.hi (r.lo+1) 86400&&decide (r.lo<86400)&&within r.price 0 1000000
structure Ok (r:qg):Prop where
 d1:1<=r.days
 d2:r.days<=127
 l0:0<=r.lo
 lh:r.lo<r.hi
 h1:r.hi<=86400
 p0:0<=r.price
 p1:r.price<=1000000
def valid (base:Int) (l:List qg):Bool:=within base 0 1000000&&decide (l.length<=10)&&l.all SV
def sec (off t:Int):Int:=(t+off+604800) % 604800
def bit (days:Int) (k:Nat):Bool:=decide (days / 2 ^ k % 2=1)
def hits (s:Int) (r:qg):Bool:=bit r.days (s / 86400).toNat&&within (s % 86400) r.lo (r.hi-1)
def wO (base:Int) (l:List qg) (s:Int):Int:=match l.find? (hits s) with|some r=>r.price|none=>base
def price (base:Int) (l:List qg) (off t:Int):Int:=wO base l (sec off t)
def Vt (f:Int->Int) (a:Int):Nat->Int
 | 0=>0
 | n+1=>Vt f a n+f (a+n)
def sumF (f:Int->Int) (a b:Int):Int:=Vt f a (b-a).toNat
def VG (C:List Int) (d:Int):Int:=match C.find? (fun c=>decide (d<c)) with|some c=>c|none=>86400
structure Cuts (l:List qg) (C:List Int):Prop where
 los:∀r∈l,r.lo∈C
 his:∀r∈l,r.hi % 86400∈C
 rg:∀c∈C,0<=c/\c<86400
 so:C.Pairwise (·< ·)
def stop (C:List Int) (off a b:Int):Int:=min (a+VG C (sec off a % 86400)-sec off a % 86400) b
structure Pc where
 lo:Int
 hi:Int
 price:Int
def pieces (base:Int) (l:List qg) (C:List Int) (off:Int):Nat->Int->Int->List Pc
 | 0,_,_=>[]
 | n+1,a,b=>if a<b then ⟨a,stop C off a b,price base l off a⟩ :: pieces base l C off n (stop C off a b) b else []
section
variable {W:Int->Int} {T:Int->Prop} {A B:Int} (hA:T A) (hB:T B) (hlin:∀t,A<t->t<B->¬T t->W (t+1)-W t=W t-W (t-1))
include hA hB hlin
end
def Oy (W:Int->Int) (A B:Int) (s:Int × Int) (t:Int):Int × Int:=if within t A B then (if W t<s.2∨(W t=s.2/\t<s.1) then (t,W t) else s) else s
structure Tried (W:Int->Int) (A B:Int) (T:Int->Prop) (s:Int × Int):Prop where
 w:s.2=W s.1
 a:A<=s.1
 b:s.1<=B
 le:∀u,T u->A<=u->u<=B->W s.1<W u∨(W s.1=W u/\s.1<=u)
theorem Tried.step {W:Int->Int} {A B:Int} {T:Int->Prop} {s:Int × Int} (h:Tried W A B T s) (t:Int):Tried W A B (fun u=>T u∨u=t) (Oy W A B s t):=by
 unfold Oy
 obtain⟨hw,ha,hb,hle⟩:=h
 split
 · next hin =>
   obtain⟨i1,i2⟩:=within_iff.1 hin
   split
   · next hlt =>
     refine⟨rfl,i1,i2,fun u hu h1 h2=>?_⟩
     rcases hu with hu|rfl
     · have:=hle u hu h1 h2;simp only;omega
     · exact .inr ⟨rfl,Int.le_refl _⟩
   · next hge =>
     refine⟨hw,ha,hb,fun u hu h1 h2=>?_⟩
     rcases hu with hu|rfl
     · exact hle u hu h1 h2
     · omega
 · next hin =>
   refine⟨hw,ha,hb,fun u hu h1 h2=>?_⟩
   rcases hu with hu|rfl
   · exact hle u hu h1 h2
   · exact absurd (within_iff.2 ⟨h1,h2⟩) hin
theorem Tried.all {W:Int->Int} {A B:Int}:∀(L:List Int) {T:Int->Prop} {s:Int × Int},Tried W A B T s->Tried W A B (fun u=>T u∨u∈L) (L.foldl (Oy W A B) s)
 | [],T,s,h=>⟨h.w,h.a,h.b,fun u hu h1 h2=>h.le u (by simpa using hu) h1 h2⟩
 | t :: L,T,s,h=>by
  have:=Tried.all L (h.step t);exact ⟨this.w,this.a,this.b,fun u hu h1 h2=>this.le u (by rcases hu with h|h;exact .inl (.inl h);rcases List.mem_cons.1 h with h|h;exact .inl (.inr h);exact .inr h) h1 h2⟩
def win (f:Int->Int) (n:Int) (t:Int):Int:=sumF f t (t+n)
def tries (L:List Pc) (n last:Int):List Int:=L.flatMap (fun p=>[p.lo,p.lo-n])++[last]
def cheapest (base:Int) (l:List qg) (C:List Int) (off a b n:Int):Int × Int :=
 (tries (pieces base l C off (b-a).toNat a b) n (b-n)).foldl (Oy (win (price base l off) n) a (b-n)) (a,win (price base l off) n a)
def push (out:List Pc) (p:Pc):List Pc:=match out.getLast? with
 | some q=>if q.price=p.price then out.dropLast++[⟨q.lo,p.hi,q.price⟩] else out++[p]
 | none=>[p]
def splits (L:List Pc):List Pc:=L.foldl push []
def Chain (f:Int->Int):Int->List Pc->Int->Prop
 | a,[],b=>a=b
 | a,p :: L,b=>p.lo=a/\a<p.hi/\(∀t,a<=t->t<p.hi->f t=p.price)/\Chain f p.hi L b
theorem Chain.snoc {f:Int->Int} {p:Pc} {b c:Int}:∀ {L:List Pc} {a:Int},Chain f a L b->p.lo=b->b<p.hi->(∀t,b<=t->t<p.hi->f t=p.price)->c=p.hi->Chain f a (L++[p]) c
 | [],a,h,h1,h2,h3,h4=>by
  have h:a=b:=h;subst h;subst h4;exact ⟨h1,h2,h3,rfl⟩
 | q :: L,a,⟨e1,e2,e3,e4⟩,h1,h2,h3,h4=>⟨e1,e2,e3,e4.snoc h1 h2 h3 h4⟩
theorem Chain.le {f:Int->Int}:∀ {L:List Pc} {a b:Int},Chain f a L b->a<=b
 | [],a,b,h=>by have h:a=b:=h;omega
 | p :: L,a,b,⟨h1,h2,h3,h4⟩=>by have:=h4.le;omega
def Alt:List Int->Prop
 | []=>True
 | [_]=>True
 | x :: y :: L=>x≠y/\Alt (y :: L)
theorem Alt.tail {x:Int} {L:List Int} (h:Alt (x :: L)):Alt L:=by
 cases L with
 | nil=>trivial
 | cons y L=>exact h.2
theorem Alt.snoc {y:Int}:∀ {L:List Int} {x:Int},Alt (L++[x])->x≠y->Alt (L++[x]++[y])
 | [],x,_,h=>⟨h,trivial⟩
 | [z],x,h1,h=>⟨h1.1,h,trivial⟩
 | z :: u :: L,x,h1,h=>⟨h1.1,Alt.snoc (L:=u :: L) h1.2 h⟩
theorem Pc.eq {p q:Pc} (h1:p.lo=q.lo) (h2:p.hi=q.hi) (h3:p.price=q.price):p=q:=by
 cases p;cases q;simp_all
def first (off a:Int):Int:=a+(86400-sec off a % 86400) % 86400
end Tp
namespace Tp
end Tp
namespace Tp
def pick (c n:Int):Int:=(if c<0 then -(c+1) else c) % n
theorem oU (c:Int) {n:Int} (h:0<n):0<=pick c n/\pick c n<n:=⟨Int.emod_nonneg _ (by omega),Int.emod_lt_of_pos _ h⟩
structure Y4 where
 a:Int
 b:Int
 c:Int
 d:Int
def Tc (y:Y4):qg :=
 if pick (y.b.tdiv 24) 4=3 then ⟨1+pick y.a 127,pick y.b 86400,pick y.b 86400+1+pick y.c (86400-pick y.b 86400),pick y.d 1000⟩
 else ⟨1+pick y.a 127,3600*pick y.b 24,min (3600*pick y.b 24+3600*(1+pick y.c 24)) 86400,pick y.d 1000⟩
def made (x:List Y4):List qg:=(x.take 6).map Tc
structure Like (l m:List qg) (g:Int->Int->Prop):Prop where
 len:l.length=m.length
 at_:∀(i:Nat) (r q:qg),l[i]? = some r->m[i]? = some q->r.days=q.days/\r.lo=q.lo/\r.hi=q.hi/\g r.price q.price
theorem Like.wO {g:Int->Int->Prop} {b c:Int} (hb:g b c) (s:Int):∀ {l m:List qg},Like l m g->g (wO b l s) (wO c m s)
 | [],[],h=>hb
 | [],q :: m,h=>by have:=h.len;simp at this
 | r :: l,[],h=>by have:=h.len;simp at this
 | r :: l,q :: m,h=>by
  obtain⟨h1,h2,h3,h4⟩:=h.at_ 0 r q rfl rfl;have hs:hits s r=hits s q:=by unfold hits;rw[h1,h2,h3]
  have ht:Like l m g:=⟨by have:=h.len;simpa using this,fun i x y hx hy=>h.at_ (i+1) x y hx hy⟩
  have ih:=ht.wO hb s
  unfold Tp.wO at ih ⊢
  rw[List.find?_cons,List.find?_cons,hs];cases hits s q
  · exact ih
  · exact h4
end Tp
namespace Go.Proofs.YtohgjenaclfegaaGreatDoor
open Go.RowKit
end Go.Proofs.YtohgjenaclfegaaGreatDoor
namespace Go.Proofs.YtohgjenaclfegaaGreatDoor.RA
open Go.RowKit
abbrev Rl:=Value->Value->World->Prop
def b_ (K:World->World->Prop) (p:Rl):Prop:=∀x v w w',p x v w->K w w'->p x v w'
def ak (u:Value):Rl:=fun _ v _=>v=u
def gU:Rl:=fun _ _ _=>True
theorem aI {K:World->World->Prop} (u:Value):b_ K (ak u):=fun _ _ _ _ h _=>h
theorem gI {K:World->World->Prop}:b_ K gU:=fun _ _ _ _ _ _=>trivial
def rel (ps:List Rl) (i:Nat):Rl:=ps.getD i gU
def aY (K:World->World->Prop):List Rl->Prop
 | []=>True
 | p :: l=>b_ K p/\aY K l
def bV (ks:Nat->Option Nat) (vs:Nat->Value) (w:World):Nat->List Rl->Prop
 | _,[]=>True
 | k,p :: l=>p (dZ ks vs k) (vs k) w/\bV ks vs w (k+1) l
theorem aY.get {K:World->World->Prop}:∀(ps:List Rl) (i:Nat),aY K ps->b_ K (ps.getD i gU)
 | [],i,_=>by simpa using gI
 | p :: l,0,h=>by simpa using h.1
 | p :: l,i+1,h=>by simpa using aY.get l i h.2
theorem dS {ks:Nat->Option Nat} {vs:Nat->Value} {w:World}:∀(ps:List Rl) (k:Nat),(∀i,i<ps.length->(ps.getD i gU) (dZ ks vs (k+i)) (vs (k+i)) w)->bV ks vs w k ps
 | [],_,_=>trivial
 | p :: l,k,h=>⟨by simpa using h 0 (by simp),dS l (k+1) fun i hi=>by
  have:=h (i+1) (by simp;omega)
  rw[show k+1+i=k+(i+1) by omega];simpa using this⟩
def uF (o:Oper) (j:Nat):Bool:=o.after.toList.any fun e=>Region.binds .any e&&e.on==j
def aN (vs:Nat->Value):Nat->List (Option Tmp)->Act->Act
 | _,[],a=>a
 | k,d :: rest,a=>aN vs (k+1) rest (a.put d (vs k))
theorem bJ (vs:Nat->Value):∀(l:List Oper) (k:Nat) (a:Act),bK vs k l a=aN vs k (l.map (·.dst)) a
 | [],_,_=>rfl
 | o :: l,k,a=>bJ vs l (k+1) _
def aT (F:Nat->Value->World->World->Prop) (K:World->World->Prop) (ks:Nat->Option Nat) (P:Program) (ops:Array Oper) (ps:List Rl) (w0:World) (a0:Act):Nat->List (Option Tmp)->List Oper->List Rl->Prop
 | k,pre,o :: l,q :: qs=>(∀(vs:Nat->Value) (w:World),K w0 w->(∀j,uF o j=true->rel ps j (dZ ks vs j) (vs j) w) ->
  wpList P ops (fun e a' w'=>e=.normal/\a'.defers=a0.defers/\K w w'/\q (dZ ks vs k) (lW o a') w'/\F k (lW o a') w w') [o] (aN vs 0 pre a0) w)/\aT F K ks P ops ps w0 a0 (k+1) (pre++[o.dst]) l qs
 | _,_,_,_=>True
theorem aT.rg {F:Nat->Value->World->World->Prop} {K:World->World->Prop} {ks:Nat->Option Nat} {P:Program} {ps:List Rl} {w0:World} {a0:Act} {L:List Oper} {n:Nat} (hnp:n<=ps.length):∀(l:List Oper) (k:Nat),(∀j,l[j]? = (L.take n)[k+j]?)->aT F K ks P L.toArray ps w0 a0 k ((L.take k).map (·.dst)) l (ps.drop k)->aZ F K ks P L.toArray (rel ps) w0 a0 k l
 | [],_,_,_=>trivial
 | o :: l,k,hl,h=>by
  have h0:(L.take n)[k]? = some o:=by simpa using (hl 0).symm
  obtain⟨hkn,hLo⟩:=cZ h0;have hkp:k<ps.length:=by omega
  rw[List.drop_eq_getElem_cons hkp]at h;refine ⟨fun vs w hb hE=>?_,aT.rg hnp l (k+1) (fun j=>by have:=hl (j+1);simpa [Nat.add_assoc,Nat.add_comm 1 j] using this) ?_⟩
  · have hu:=h.1 vs w hb fun j hj=>by
     obtain⟨e,he,nY⟩:=List.any_eq_true.1 hj;simp only[Bool.and_eq_true,beq_iff_eq]at nY;have:=eP _ hE e he nY.1
     rwa [nY.2]at this
    have hfr:seen L.toArray vs k a0=aN vs 0 ((L.take k).map (·.dst)) a0:=bJ vs _ 0 a0;rw [hfr];have hq:ps[k]=rel ps k:=by simp[rel,List.getD_eq_getElem?_getD,hkp]
    rw[hq]at hu;exact hu
  · have h2:=h.2
    have e1:(L.take k).map (·.dst)++[o.dst]=(L.take (k+1)).map (·.dst):=by
     rw[List.take_add_one,hLo];simp
    rw[e1]at h2;exact h2
def kY (l:List (Nat × Nat)) (i:Nat):Option Nat:=(l.find? (·.1==i)).map (·.2)
def QW (L:List Oper) (l:List (Nat × Nat)):Bool:=l.all fun p=>match L[p.1]? with|some o=>uF o p.2|none=>true
theorem o_ {L:List Oper} {l:List (Nat × Nat)} (h:QW L l=true) (i:Nat) (o:Oper) (k:Nat) (ho:L.toArray[i]? = some o) (hk:kY l i=some k):∃e∈o.after,Region.binds .any e=true/\e.on=k:=by
 unfold kY at hk
 cases hf:l.find? (·.1==i) with
 | none=>rw[hf]at hk;cases hk
 | some p =>
  rw[hf]at hk;have hp:=List.find?_some hf;have hm:=List.mem_of_find?_eq_some hf;have h1:=List.all_eq_true.1 h p hm;have e1:p.1=i:=by simpa using hp
  have e2:p.2=k:=by simpa using hk
  have ho':L[i]? = some o:=by simpa using ho
  rw[e1,ho']at h1;simp only[e2]at h1;obtain ⟨e,he,nY⟩:=List.any_eq_true.1 h1;simp only[Bool.and_eq_true,beq_iff_eq]at nY;exact ⟨e,by simpa using he,nY.1,nY.2⟩
theorem bM {F:Nat->Value->World->World->Prop} {K:World->World->Prop} (hK:Cls K) (kl:List (Nat × Nat)) {P:Program} {l:List Oper} {Q:Exit->Act->World->Prop} {a0:Act} {w0:World} (ps:List Rl) (n sz:Nat) (S:Nat->Bool) (L6:∀w w',K w w'->w.heap.size<=w'.heap.size) (hF:∀p,S p=true->∀v w w',F p v w w'->v=.pointer (some ⟨w.heap.size,0,none⟩)/\w.heap.size<w'.heap.size) (hnp:ps.length=n) (hsz:a0.tmps.size=sz)
 (hB:(iI l.toArray sz&&gW l.toArray n&&(decide (l.length<=n)||(Region.sinkB .any l.toArray n&&Region.chainB .any l.toArray n))&&decide (n<=l.length)&&Region.seqB .any l.toArray (l.length-n) n ((List.range l.length).map fun i=>decide (i<n)).toArray)=true)
 (hkl:QW l kl=true) (hst:aY K ps) (hsteps:aT F K (kY kl) P l.toArray ps w0 a0 0 [] (l.take n) ps)
 (hfin:∀vs w',K w0 w'->bV (kY kl) vs w' 0 ps->(∀p q,p<n->q<n->S p=true->S q=true->p≠q->vs p≠vs q)->wpList P l.toArray Q (l.drop n) (aN vs 0 ((l.take n).map (·.dst)) a0) w'):wpAny P .any l.toArray Q l.toArray.size (Array.replicate l.toArray.size false) a0 { w0 with drawn:=w0.drawn+1 }:=by
 subst hnp hsz;refine dH (F:=F) hK (kY kl) ps.length (rel ps) S (fun _=>L6) hF hB (o_ hkl) (fun i x v w w' h hb=>aY.get ps i hst x v w w' h hb) (aT.rg (Nat.le_refl _) (l.take ps.length) 0 (fun j=>by simp) hsteps) fun vs w' hb hR Q9=>by rw[bJ];exact hfin vs w' hb (dS ps 0 fun i hi=>by rw[Nat.zero_add];exact hR i hi) Q9
theorem au {F:Nat->Value->World->World->Prop} {K:World->World->Prop} (hK:Cls K) (kl:List (Nat × Nat)) {P:Program} {id:Nat} {l:List Oper} {Q:Exit->Act->World->Prop} {a0:Act} {w0:World} (ps:List Rl) (n sz:Nat) (S:Nat->Bool) (L6:∀w w',K w w'->w.heap.size<=w'.heap.size) (hF:∀p,S p=true->∀v w w',F p v w w'->v=.pointer (some ⟨w.heap.size,0,none⟩)/\w.heap.size<w'.heap.size) (hm:P.follows .mixedOrders=true) (hnp:ps.length=n) (hsz:a0.tmps.size=sz)
 (hB:(iI l.toArray sz&&gW l.toArray n&&(decide (l.length<=n)||(Region.sinkB .any l.toArray n&&Region.chainB .any l.toArray n))&&decide (n<=l.length)&&Region.seqB .any l.toArray (l.length-n) n ((List.range l.length).map fun i=>decide (i<n)).toArray)=true)
 (hkl:QW l kl=true) (hst:aY K ps) (hsteps:aT F K (kY kl) P l.toArray ps w0 a0 0 [] (l.take n) ps)
 (hfin:∀vs w',K w0 w'->bV (kY kl) vs w' 0 ps->(∀p q,p<n->q<n->S p=true->S q=true->p≠q->vs p≠vs q)->wpList P l.toArray Q (l.drop n) (aN vs 0 ((l.take n).map (·.dst)) a0) w'):(Code.region id l.toArray true).wp P Q a0 w0 :=
 wp_region_any hm (bM hK kl ps n sz S L6 hF hnp hsz hB hkl hst hsteps hfin)
end Go.Proofs.YtohgjenaclfegaaGreatDoor.RA
namespace Go.Proofs.YtohgjenaclfegaaGreatDoor.RN
open Go.RowKit
structure Cls (K:World->World->Prop):Prop where
 refl:∀w,K w w
 trans:∀ {a b c},K a b->K b c->K a c
 drawn:∀(w:World) n,K w { w with drawn:=n }
def KN (K:World->World->Prop) (N:Nat->World->Prop) (i:Nat) (w w':World):Prop:=K w w'/\∀j,j≠i->N j w->N j w'
def xM (ops:Array Oper) (i j:Nat):Bool:=match ops[j]? with|some oj=>oj.after.any fun e=>Region.binds .any e&&e.on==i|none=>false
def qJ (K:World->World->Prop) (N:Nat->World->Prop) (P:Program) (ops:Array Oper) (n:Nat) (R:Nat->Value->World->Prop) (w0:World) (a0:Act) (Q:Exit->Act->World->Prop) (i:Nat) (o:Oper):Prop :=
 ∀(a:Act) (w:World),K w0 w->kW ops n a0 a->(∀e∈o.after,Region.binds .any e=true->R e.on (aC ops a e.on) w)->(∀j,j<n->(i==j||xM ops i j)=true->N j w) ->
  if Region.wanted o (yielded ops a.tmps)=true then o.wp P a w (fun a' w'=>∃v,a'=a.put o.dst v/\KN K N i w w'/\R i (if o.dst.isSome then v else undef) w') Q else R i undef w
section
variable {P:Program} {ops:Array Oper} {R:Nat->Value->World->Prop} {w0:World} {a0:Act} {Q:Exit->Act->World->Prop}
theorem Es {K:World->World->Prop} {N:Nat->World->Prop} (hK:Cls K) {n g:Nat} (hok:iI ops a0.tmps.size=true) (hsc:ops.size<=n∨(Region.sinkB .any ops n=true/\Region.chainB .any ops n=true)) (hn:n<=ops.size)
 (hst:∀i v w w',R i v w->K w w'->R i v w') (hsteps:∀i o,i<n->ops[i]? = some o->qJ K N P ops n R w0 a0 Q i o)
 (hfin:∀listed a w,HeadInv .any ops n listed->(∀i,i<n->listed.getD i true=true)->K w0 w->kW ops n a0 a->(∀i,i<n->R i (aC ops a i) w)->wpAny P .any ops Q g listed a w) :
 ∀(fuel:Nat) (listed:Array Bool) (a:Act) (w:World),HeadInv .any ops n listed->((List.range n).countP (fun i=> !listed.getD i true))=fuel->K w0 w->kW ops n a0 a->(∀j,j<n->listed.getD j true=false->N j w) ->
  (∀i,i<n->listed.getD i false=true->R i (aC ops a i) w)->wpAny P .any ops Q (fuel+g) listed a w:=by
 intro fuel
 induction fuel with
 | zero =>
  intro listed a w inv hcnt hb hsame hNj hR
  have hall:∀i,i<n->listed.getD i true=true:=by
   intro i hi;have:=List.countP_eq_zero.1 hcnt i (List.mem_range.2 hi);simpa using this
  rw[Nat.zero_add];exact hfin listed a w inv hall hb hsame fun i hi=>hR i hi (by have:=hall i hi;simpa [Array.getD_eq_getD_getElem?,inv.size,show i<ops.size by omega] using this)
 | succ fuel ih =>
  intro listed a w inv hcnt hb hsame hNj hR
  have hex:∃i,i<n/\listed.getD i true=false:=by
   have h0:0<(List.range n).countP (fun i=> !listed.getD i true):=by omega
   obtain⟨i,hi,hp⟩:=List.countP_pos_iff.1 h0;exact ⟨i,List.mem_range.1 hi,by simpa using hp⟩
  rw[show fuel+1+g=(fuel+g)+1 by omega];refine ⟨fun he=>?_,fun i hi=>?_⟩
  · exfalso
    have hempty:∀i,i<n->listed.getD i true=true:=by
     intro i
     induction i using Nat.strongRecOn with
     | _ i ih =>
      intro hi
      cases hl:listed.getD i true with
      | true=>rfl
      | false =>
       have hoi:ops[i]? = some (ops[i]'(by omega)):=Array.getElem?_eq_getElem (by omega)
       have:i∈Region.ready .any ops listed:=mem_ready.2 ⟨hl,_,hoi,fun e hem hbd=>by
        have hlt:=(dJ hok hoi).1 e hem hbd;have:=ih e.on hlt (by omega)
        simpa [Array.getD_eq_getD_getElem?,inv.size,show e.on<ops.size by omega] using this⟩
       rw[he]at this;cases this
    obtain⟨i,hi,hu⟩:=hex;rw [hempty i hi]at hu;cases hu
  obtain⟨hun,o,ho,pG⟩:=mem_ready.1 hi;have hin:i<ops.size:=(Array.getElem?_eq_some_iff.1 ho).1
  have hhead:i<n:=by
   obtain⟨k,hk,hu⟩:=hex
   rcases Nat.lt_or_ge i n with h|h
   · exact h
   · rcases hsc with hsc|⟨hs,hc⟩
     · omega
     · exact absurd hi (tail_waits hs hc (by omega) inv _ k rfl hk hu i h)
  obtain⟨hback,hbound,hdist⟩:=dJ hok ho
  have hc':(List.range n).countP (fun j=> !(listed.setIfInBounds i true).getD j true)=fuel:=by
   have:=count_one (n:=n) (by rw[inv.size];exact hin) hun (List.range n) List.nodup_range (List.mem_range.2 hhead);omega
  have hstep:=hsteps i o hhead ho a w hb hsame (fun e he hbd=>hR e.on (by have:=hback e he hbd;omega) (pG e he hbd)) (fun j hjn hwt=>hNj j hjn (by
   rw[Bool.or_eq_true,beq_iff_eq]at hwt
   rcases hwt with hwt|hwt
   · rw[←hwt];exact hun
   unfold xM at hwt
   cases hoj:ops[j]? with
   | none=>rw[hoj]at hwt;cases hwt
   | some oj =>
    rw[hoj]at hwt;obtain ⟨e,he,hbe⟩:=Array.any_eq_true'.1 hwt;simp only[Bool.and_eq_true,beq_iff_eq]at hbe
    cases hlj:listed.getD j true with
    | false=>rfl
    | true =>
     have hjs:j<listed.size:=by rw[inv.size];exact (Array.getElem?_eq_some_iff.1 hoj).1
     have h1:listed.getD j false=true:=by simpa [Array.getD_eq_getD_getElem?,hjs] using hlj
     have h2:=inv.closed j oj hoj h1 e he hbe.1;rw [hbe.2,getD_both hun]at h2
     cases h2))
  have hput:∀v,kW ops n a0 (a.put o.dst v):=by
   intro v;obtain ⟨e1,e2,e3⟩:=hsame
   cases hd:o.dst with
   | none=>exact⟨e1,e2,e3⟩
   | some d =>
    refine⟨e1,by simpa [Act.put] using e2,fun t ht=>?_⟩;rw [dP,if_neg (fun hh=>ht i o hhead ho (by rw[hd,hh.1])),e3 t ht]
  have iF:∀v j,j≠i->aC ops (a.put o.dst v) j=aC ops a j:=by
   intro v j hj
   unfold aC
   cases hd:o.dst with
   | none=>rfl
   | some d =>
    cases hoj:ops[j]? with
    | none=>rfl
    | some oj =>
     cases hdj:oj.dst with
     | none=>simp[hdj]
     | some dj =>
      simp only[Option.bind_some,hdj];rw [dP,if_neg (fun hh=>hdist j oj dj d hj hoj hdj hd hh.1)]
  have hself:∀v,aC ops (a.put o.dst v) i=if o.dst.isSome then v else undef:=by
   intro v
   unfold aC
   rw[ho]
   cases hd:o.dst with
   | none=>simp[hd]
   | some d =>
    simp only[Option.bind_some,hd,Option.isSome_some,if_true];rw [dP,if_pos ⟨rfl,by rw[hsame.2.1];exact hbound d hd⟩]
  have hnext:∀v w',KN K N i w w'->R i (if o.dst.isSome then v else undef) w'->wpAny P .any ops Q (fuel+g) (listed.setIfInBounds i true) (a.put o.dst v) w':=by
   intro v w' hbw hr
   refine ih _ _ _ (inv.set hi hhead) hc' (hK.trans hb hbw.1) (hput v) (fun j hjn hj=>by
    by_cases hji:j=i
    · subst hji;exact absurd hj (by simp[Array.getD_eq_getD_getElem?,inv.size,hin])
    · exact hbw.2 j hji (hNj j hjn (by rw[←getD_set_ne true (fun h=>hji h.symm)];exact hj))) fun j hjn hj=>?_
   by_cases hji:j=i
   · subst hji;rw[hself];exact hr
   · rw[iF v j hji];exact hst _ _ _ _ (hR j hjn (by rw[←getD_set_ne false (fun h=>hji h.symm)];exact hj)) hbw.1
  unfold wpOp
  simp only[ho];by_cases hw:Region.wanted o (yielded ops a.tmps)=true
  · rw[if_pos hw]at hstep ⊢;refine .inl ?_;exact Oper.wp_mono (fun a' w' hh=>by obtain⟨v,e,hb',hr⟩:=hh;subst e;exact hnext v w' hb' hr) hstep
  · rw[if_neg hw]at hstep ⊢;refine hnext undef w ⟨hK.refl _,fun _ _ h=>h⟩ ?_
    split <;> exact hstep
def qL (R:Nat->Value->World->Prop) (vs:Nat->Value) (w:World):List Edge->Prop
 | []=>True
 | e :: l=>(Region.binds .any e=true->R e.on (vs e.on) w)/\qL R vs w l
theorem qo {R:Nat->Value->World->Prop} {vs:Nat->Value} {w:World}:∀(l:List Edge),(∀e∈l,Region.binds .any e=true->R e.on (vs e.on) w)->qL R vs w l
 | [],_=>trivial
 | e :: l,h=>⟨h e (by simp),qo l fun e he=>h e (by simp[he])⟩
def kS (K:World->World->Prop) (N:Nat->World->Prop) (P:Program) (ops:Array Oper) (n:Nat) (R:Nat->Value->World->Prop) (w0:World) (a0:Act) (i:Nat) (o:Oper):Prop :=
 ∀(vs:Nat->Value) (w:World),K w0 w->qL R vs w o.after.toList->(∀j,j<n->(i==j||xM ops i j)=true->N j w) ->
  wpList P ops (fun e a' w'=>e=.normal/\a'.defers=a0.defers/\KN K N i w w'/\R i (lW o a') w') [o] (seen ops vs i a0) w
def aZ (K:World->World->Prop) (N:Nat->World->Prop) (P:Program) (ops:Array Oper) (n:Nat) (R:Nat->Value->World->Prop) (w0:World) (a0:Act):Nat->List Oper->Prop
 | _,[]=>True
 | k,o :: l=>kS K N P ops n R w0 a0 k o/\aZ K N P ops n R w0 a0 (k+1) l
theorem aZ.get {K:World->World->Prop} {N:Nat->World->Prop} {n:Nat} {P:Program} {ops:Array Oper} {R:Nat->Value->World->Prop} {w0:World} {a0:Act}:∀(l:List Oper) (k j:Nat) (o:Oper),aZ K N P ops n R w0 a0 k l->l[j]? = some o->kS K N P ops n R w0 a0 (k+j) o
 | [],_,_,_,_,h=>by simp at h
 | x :: l,k,0,o,hh,h=>by
  obtain rfl:x=o:=by simpa using h
  exact hh.1
 | x :: l,k,j+1,o,hh,h=>by
  have:=aZ.get l (k+1) j o hh.2 (by simpa using h)
  rwa [show k+1+j=k+(j+1) by omega]at this
theorem iD {K:World->World->Prop} {a0:Act} {R:Value->World->Prop} {w:World} {o:Oper} (h:LetsOut (fun e a' w'=>e=.normal/\a'.defers=a0.defers/\K w w'/\R (lW o a') w')):False:=by
 obtain⟨_,_,h,_⟩:=h;cases h
theorem xR {K:World->World->Prop} {N:Nat->World->Prop} {n i:Nat} {o:Oper} (hok:iI ops a0.tmps.size=true) (hlk:eF ops n=true) (hi:i<n) (hin:n<=ops.size) (ho:ops[i]? = some o) (h:kS K N P ops n R w0 a0 i o):qJ K N P ops n R w0 a0 Q i o:=by
 intro a w hb hsame pG hN;have h1:=List.all_eq_true.1 hlk i (List.mem_range.2 hi);simp only[ho,Bool.and_eq_true]at h1;obtain ⟨⟨hg,hsel⟩,hl⟩:=h1;have hg':o.guard=none:=by simpa using hg
 have hw:∀y,Region.wanted o y=true:=fun y=>by simp[Region.wanted,hg']
 rw[if_pos (hw _)];have hu:=h (aC ops a) w hb (qo _ fun e he hbd=>pG e (by simpa using he) hbd) hN;simp only[wpList,hw,if_true]at hu
 have LK:execOp a.eval o=execOp (seen ops (aC ops a) i a0).eval o:=by
  refine execOp_congr o (fun cs b e=>by rw[e]at hsel;simp at hsel) fun x hx=>?_
  cases x with
  | tmp t =>
   have ht:t∈o.looksAt ops:=List.mem_append_left _ (List.mem_filterMap.2 ⟨.tmp t,by simpa using hx,rfl⟩);have h2:=List.all_eq_true.1 hl t ht;refine (wo (Nat.le_of_lt hi) hok hsame fun j oj hj hd=>?_).symm;have h3:=List.all_eq_true.1 h2 j (List.mem_range.2 (Array.getElem?_eq_some_iff.1 hj).1);simpa [hj,hd] using h3
  | _=>rfl
 have hsz:=fZ (aC ops a) (ops.toList.take i) 0 a0
 have hput:∀v,lW o ((seen ops (aC ops a) i a0).put o.dst v)=if o.dst.isSome then v else undef:=by
  intro v
  unfold lW
  cases hd:o.dst with
  | none=>rfl
  | some d =>
   simp only[Option.isSome_some,if_true];rw [dP,if_pos ⟨rfl,by rw[seen,hsz.1];exact (dJ hok ho).2.1 d hd⟩]
 rcases hu with hu|hu
 · unfold Oper.wp at hu ⊢
   rw[LK];generalize (execOp (seen ops (aC ops a) i a0).eval o).run P w=r at hu
   cases r with
   | halt x w'=>cases x <;> simp only[Oper.upon]at hu ⊢ <;> first|exact absurd hu.1 (by simp)|exact hu
   | ok nx w' =>
    cases nx <;> simp only[Oper.upon]at hu ⊢
    case value v=>exact⟨v,rfl,hu.2.2.1,by rw[←hput];exact hu.2.2.2⟩
    case skip=>exact⟨undef,rfl,hu.2.2.1,by rw[←hput];exact hu.2.2.2⟩
    case defer d =>
     exfalso
     have:=hu.2.1;have h9:=congrArg List.length this;cases hd:o.dst <;> simp[hd,Act.put,seen,hsz.2]at h9
    case enter f args =>
     refine Calls.mono hu fun e w'' he=>?_
     cases e with
     | returned v=>exact⟨v,rfl,he.2.2.1,by rw[←hput];exact he.2.2.2⟩
     | panicked c=>exact absurd he.1 (by simp)
     | outgrown=>exact (iD (R:=R i) he).elim
    case row s args=>exact Rows.mono hu fun v w'' he=>⟨v,rfl,he.2.2.1,by rw[←hput];exact he.2.2.2⟩
    all_goals exact hu.elim
 · exact (iD (R:=R i) hu.2).elim
theorem dH {K:World->World->Prop} {N:Nat->World->Prop} (hK:Cls K) {l:List Oper} {Q:Exit->Act->World->Prop} {a0:Act} {w0:World} (n:Nat) (R:Nat->Value->World->Prop)
 (hB:(iI l.toArray a0.tmps.size&&eF l.toArray n&&(decide (l.length<=n)||(Region.sinkB .any l.toArray n&&Region.chainB .any l.toArray n))&&decide (n<=l.length)&&Region.seqB .any l.toArray (l.length-n) n ((List.range l.length).map fun i=>decide (i<n)).toArray)=true)
 (hst:∀i v w w',R i v w->K w w'->R i v w') (hN0:∀j,N j { w0 with drawn:=w0.drawn+1 }) (hsteps:aZ K N P l.toArray n R w0 a0 0 (l.take n))
 (hfin:∀vs w',K w0 w'->(∀i,i<n->R i (vs i) w')->wpList P l.toArray Q (l.drop n) (bK vs 0 (l.take n) a0) w'):wpAny P .any l.toArray Q l.toArray.size (Array.replicate l.toArray.size false) a0 { w0 with drawn:=w0.drawn+1 }:=by
 simp only[Bool.and_eq_true,decide_eq_true_eq]at hB;obtain ⟨⟨⟨⟨hok,hlk⟩,hsc⟩,hn⟩,hseq⟩:=hB
 have Tq:l.toArray.size<=n∨(Region.sinkB .any l.toArray n=true/\Region.chainB .any l.toArray n=true):=by
  rw[Bool.or_eq_true,Bool.and_eq_true,decide_eq_true_eq]at hsc;simpa using hsc
 have hn':n<=l.toArray.size:=by simpa using hn
 have hb0:K w0 { w0 with drawn:=w0.drawn+1 }:=hK.drawn w0 _
 have inv0:HeadInv .any l.toArray n (Array.replicate l.toArray.size false) :=
  ⟨by simp,fun j oj _ hl=>(by rw[getD_replicate_false]at hl;cases hl),fun t _ ht=>getD_in (by simpa using ht) (getD_replicate_false _ _)⟩
 have H:=Es hK (P:=P) (ops:=l.toArray) (R:=R) (w0:=w0) (a0:=a0) (Q:=Q) (n:=n) (g:=l.length-n) hok Tq hn' hst (fun i o hi ho=>xR hok hlk hi hn' ho (by
  have:=aZ.get (l.take n) 0 i o hsteps (by rw[List.getElem?_take,if_pos hi];simpa using ho)
  rwa [Nat.zero_add]at this)) (fun listed a w inv hall hb hsame hR=>by
  have Ll:listed=((List.range l.length).map fun i=>decide (i<n)).toArray:=by
   apply Array.ext
   · simp[inv.size]
   · intro i h1 h2;have hi:i<l.length:=by simpa using h2
     simp only[List.getElem_toArray,List.getElem_map,List.getElem_range]
     rcases Nat.lt_or_ge i n with h|h
     · have:=hall i h;simp [Array.getD_eq_getD_getElem?,h1]at this
       simp[h,this]
     · have:=inv.tail i h (by simpa using hi);simp [Array.getD_eq_getD_getElem?,h1]at this
       simp[this];omega
  have hfr:a=bK (aC l.toArray a) 0 (l.take n) a0:=by
   have hsz:=fZ (aC l.toArray a) (l.take n) 0 a0
   have key:a.tmps=(bK (aC l.toArray a) 0 (l.take n) a0).tmps:=by
    apply Array.ext
    · rw[hsz.1,hsame.2.1]
    · intro t h1 h2;have e1:a.tmps[t]=a.tmps.getD t undef:=by simp[Array.getD_eq_getD_getElem?,h1]
      have e2:(bK (aC l.toArray a) 0 (l.take n) a0).tmps[t]=(bK (aC l.toArray a) 0 (l.take n) a0).tmps.getD t undef:=by simp[Array.getD_eq_getD_getElem?,h2]
      rw[e1,e2];by_cases hw:∃(j:Nat) (oj:Oper),j<n/\l.toArray[j]? = some oj/\oj.dst=some t
      · obtain⟨j,oj,hjn,hj,hd⟩:=hw;have hsp:=dJ hok hj;rw [jL (aC l.toArray a) t (l.take n) 0 j oj a0 (by rw[List.getElem?_take,if_pos hjn];simpa using hj) hd (fun k o' hjk hk hd'=>hsp.2.2 k o' t t (by omega) (by simpa using (cZ hk).2) hd' hd rfl) (hsp.2.1 t hd)];have hj':l[j]? = some oj:=by simpa using hj
        simp[aC,hj',hd]
      · have hno:∀(j:Nat) (oj:Oper),j<n->l.toArray[j]? = some oj->oj.dst≠some t:=fun j oj hjn hj hd=>hw ⟨j,oj,hjn,hj,hd⟩
        rw[hsame.2.2 t hno];refine (iL _ _ _ _ _ fun o ho=>?_).symm;obtain ⟨j,hj⟩:=List.mem_iff_getElem?.1 ho;exact hno j o (cZ hj).1 (by simpa using (cZ hj).2)
   have kd:a.defers=(bK (aC l.toArray a) 0 (l.take n) a0).defers:=by rw[hsz.2,hsame.1]
   exact yT key kd
  have h2:=hfin (aC l.toArray a) w hb hR;rw [←hfr]at h2;have h3:=wpAny_of_seq (P:=P) (ops:=l.toArray) (md:=.any) (Q':=Q) (l.drop n) n listed a w (fun j=>by simp[List.getElem?_drop]) (by rw[Ll];simpa using hseq) h2
  simpa using h3) n (Array.replicate l.toArray.size false) a0 { w0 with drawn:=w0.drawn+1 } inv0 (by
   have:(List.range n).countP (fun i=> !(Array.replicate l.toArray.size false).getD i true)=(List.range n).length:=List.countP_eq_length.2 fun i hi=>by
    have:=List.mem_range.1 hi;simp [Array.getD_eq_getD_getElem?,show i<l.length by omega]
   simpa using this) hb0 ⟨rfl,rfl,fun _ _=>rfl⟩ (fun j _ _=>hN0 j) (fun i _ h=>by rw[getD_replicate_false]at h;cases h)
 rw[show n+(l.length-n)=l.toArray.size by simp;omega]at H;exact H
end
def b_ (K:World->World->Prop) (p:Value->World->Prop):Prop:=∀v w w',p v w->K w w'->p v w'
def ak (u:Value):Value->World->Prop:=fun v _=>v=u
def gU:Value->World->Prop:=fun _ _=>True
theorem aI {K:World->World->Prop} (u:Value):b_ K (ak u):=fun _ _ _ h _=>h
theorem gI {K:World->World->Prop}:b_ K gU:=fun _ _ _ _ _=>trivial
def rel (ps:List (Value->World->Prop)) (i:Nat) (v:Value) (w:World):Prop:=(ps.getD i gU) v w
def aY (K:World->World->Prop):List (Value->World->Prop)->Prop
 | []=>True
 | p :: l=>b_ K p/\aY K l
def bV (vs:Nat->Value) (w:World):Nat->List (Value->World->Prop)->Prop
 | _,[]=>True
 | k,p :: l=>p (vs k) w/\bV vs w (k+1) l
theorem aY.get {K:World->World->Prop}:∀(ps:List (Value->World->Prop)) (i:Nat),aY K ps->b_ K (ps.getD i gU)
 | [],i,_=>by simpa using gI
 | p :: l,0,h=>by simpa using h.1
 | p :: l,i+1,h=>by simpa using aY.get l i h.2
theorem dS {vs:Nat->Value} {w:World}:∀(ps:List (Value->World->Prop)) (k:Nat),(∀i,i<ps.length->(ps.getD i gU) (vs (k+i)) w)->bV vs w k ps
 | [],_,_=>trivial
 | p :: l,k,h=>⟨by simpa using h 0 (by simp),dS l (k+1) fun i hi=>by
  have:=h (i+1) (by simp;omega)
  rw[show k+1+i=k+(i+1) by omega];simpa using this⟩
def aN (vs:Nat->Value):Nat->List (Option Tmp)->Act->Act
 | _,[],a=>a
 | k,d :: rest,a=>aN vs (k+1) rest (a.put d (vs k))
theorem bJ (vs:Nat->Value):∀(l:List Oper) (k:Nat) (a:Act),bK vs k l a=aN vs k (l.map (·.dst)) a
 | [],_,_=>rfl
 | o :: l,k,a=>bJ vs l (k+1) _
def Users (K:World->World->Prop) (N:Nat->World->Prop) (P:Program) (L:Array Oper) (n:Nat) (ps:List (Value->World->Prop)) (w0:World) (a0:Act):Nat->List (Option Tmp)->List Oper->List (Value->World->Prop)->Prop
 | k,pre,o :: l,q :: qs=>(∀(vs:Nat->Value) (w:World),K w0 w->(∀j,uF o j=true->rel ps j (vs j) w)->(∀j,j<n->(k==j||xM L k j)=true->N j w) ->
  wpList P #[] (fun e a' w'=>e=.normal/\a'.defers=a0.defers/\KN K N k w w'/\q (lW o a') w') [o] (aN vs 0 pre a0) w)/\Users K N P L n ps w0 a0 (k+1) (pre++[o.dst]) l qs
 | _,_,_,_=>True
theorem eP {R:Nat->Value->World->Prop} {vs:Nat->Value} {w:World}:∀(l:List Edge),qL R vs w l->∀e∈l,Region.binds .any e=true->R e.on (vs e.on) w
 | [],_,e,he,_=>by cases he
 | x :: l,h,e,he,hb=>by
  rcases List.mem_cons.1 he with rfl|he
  · exact h.1 hb
  · exact eP l h.2 e he hb
theorem Users.rg {K:World->World->Prop} {N:Nat->World->Prop} {P:Program} {ps:List (Value->World->Prop)} {w0:World} {a0:Act} {L:List Oper} {n:Nat} (hlk:eF L.toArray n=true) (hnp:n<=ps.length):∀(l:List Oper) (k:Nat),(∀j,l[j]? = (L.take n)[k+j]?)->Users K N P L.toArray n ps w0 a0 k ((L.take k).map (·.dst)) l (ps.drop k)->aZ K N P L.toArray n (rel ps) w0 a0 k l
 | [],_,_,_=>trivial
 | o :: l,k,hl,h=>by
  have h0:(L.take n)[k]? = some o:=by simpa using (hl 0).symm
  obtain⟨hkn,hLo⟩:=cZ h0;have hkp:k<ps.length:=by omega
  rw[List.drop_eq_getElem_cons hkp]at h;refine ⟨fun vs w hb hE hNw=>?_,Users.rg hlk hnp l (k+1) (fun j=>by have:=hl (j+1);simpa [Nat.add_assoc,Nat.add_comm 1 j] using this) ?_⟩
  · have h1:=List.all_eq_true.1 hlk k (List.mem_range.2 hkn);have LZ:L.toArray[k]? = some o:=by simpa using hLo
    simp only[LZ,Bool.and_eq_true]at h1
    have hu:=h.1 vs w hb (fun j hj=>by
     obtain⟨e,he,nY⟩:=List.any_eq_true.1 hj;simp only[Bool.and_eq_true,beq_iff_eq]at nY;have:=eP _ hE e he nY.1
     rwa [nY.2]at this) hNw
    have hfr:seen L.toArray vs k a0=aN vs 0 ((L.take k).map (·.dst)) a0:=bJ vs _ 0 a0;rw [hfr];refine nN (ops:=#[]) (by simpa using h1.1.1) ?_;have hq:ps[k]=ps.getD k gU:=by simp[List.getD_eq_getElem?_getD,hkp]
    rw[hq]at hu;exact hu
  · have h2:=h.2
    have e1:(L.take k).map (·.dst)++[o.dst]=(L.take (k+1)).map (·.dst):=by
     rw[List.take_add_one,hLo];simp
    rw[e1]at h2;exact h2
theorem bM {K:World->World->Prop} {N:Nat->World->Prop} (hK:Cls K) {P:Program} {l:List Oper} {Q:Exit->Act->World->Prop} {a0:Act} {w0:World} (ps:List (Value->World->Prop)) (n sz:Nat) (hnp:ps.length=n) (hsz:a0.tmps.size=sz)
 (hB:(iI l.toArray sz&&eF l.toArray n&&(decide (l.length<=n)||(Region.sinkB .any l.toArray n&&Region.chainB .any l.toArray n))&&decide (n<=l.length)&&Region.seqB .any l.toArray (l.length-n) n ((List.range l.length).map fun i=>decide (i<n)).toArray)=true)
 (hst:aY K ps) (hN0:∀j,N j { w0 with drawn:=w0.drawn+1 }) (hsteps:Users K N P l.toArray n ps w0 a0 0 [] (l.take n) ps)
 (hfin:∀vs w',K w0 w'->bV vs w' 0 ps->wpList P l.toArray Q (l.drop n) (aN vs 0 ((l.take n).map (·.dst)) a0) w'):wpAny P .any l.toArray Q l.toArray.size (Array.replicate l.toArray.size false) a0 { w0 with drawn:=w0.drawn+1 }:=by
 subst hnp hsz;have hlk:eF l.toArray ps.length=true:=by simp only[Bool.and_eq_true]at hB;exact hB.1.1.1.2
 refine dH hK ps.length (rel ps) hB (fun i v w w' h hb=>aY.get ps i hst v w w' h hb) hN0 (Users.rg hlk (Nat.le_refl _) (l.take ps.length) 0 (fun j=>by simp) hsteps) fun vs w' hb hR=>by rw[bJ];exact hfin vs w' hb (dS ps 0 fun i hi=>by rw[Nat.zero_add];exact hR i hi)
theorem au {K:World->World->Prop} {N:Nat->World->Prop} (hK:Cls K) {P:Program} {id:Nat} {l:List Oper} {Q:Exit->Act->World->Prop} {a0:Act} {w0:World} (ps:List (Value->World->Prop)) (n sz:Nat) (hm:P.follows .mixedOrders=true) (hnp:ps.length=n) (hsz:a0.tmps.size=sz)
 (hB:(iI l.toArray sz&&eF l.toArray n&&(decide (l.length<=n)||(Region.sinkB .any l.toArray n&&Region.chainB .any l.toArray n))&&decide (n<=l.length)&&Region.seqB .any l.toArray (l.length-n) n ((List.range l.length).map fun i=>decide (i<n)).toArray)=true)
 (hst:aY K ps) (hN0:∀j,N j { w0 with drawn:=w0.drawn+1 }) (hsteps:Users K N P l.toArray n ps w0 a0 0 [] (l.take n) ps)
 (hfin:∀vs w',K w0 w'->bV vs w' 0 ps->wpList P l.toArray Q (l.drop n) (aN vs 0 ((l.take n).map (·.dst)) a0) w'):(Code.region id l.toArray true).wp P Q a0 w0 :=
 wp_region_any hm (bM hK ps n sz hnp hsz hB hst hN0 hsteps hfin)
end Go.Proofs.YtohgjenaclfegaaGreatDoor.RN
namespace Go.Proofs.YtohgjenaclfegaaGreatDoor
open Go.RowKit
section
variable {P:Program}
end
open Go.ChangeShapes Go.WideShapes Go.ChangeAt Go.RowKit
section
variable {H:Type} {enc:TypeId × Value->H} {P:Program} {W:World} {sp:Nat->Bool} {held:Bool}
theorem lX {α:Type} {Q:Nat->α->Prop}:∀n,(∀i,i<n->∃c,Q i c)->∃x:List α,x.length=n/\∀i c,x[i]? = some c->Q i c
 | 0,_=>⟨[],rfl,fun i c h=>by simp at h⟩
 | n+1,h=>by
  obtain⟨x,hl,hx⟩:=lX n fun i hi=>h i (by omega)
  obtain⟨c,hc⟩:=h n (by omega);refine ⟨x++[c],by simp[hl],fun i d hi=>?_⟩
  rcases Nat.lt_or_ge i x.length with h1|h1
  · rw[List.getElem?_append_left h1]at hi;exact hx i d hi
  · rw[List.getElem?_append_right h1]at hi
    have h2:i-x.length=0:=by
     rcases Nat.eq_zero_or_pos (i-x.length) with h3|h3
     · exact h3
     · rw[List.getElem?_eq_none (by simp;omega)]at hi;cases hi
    rw[h2]at hi;simp only[List.getElem?_cons_zero,Option.some.injEq]at hi;subst hi;rw [show i=n by omega];exact hc
theorem open_arr {n:Nat} {t e:TypeId} (ht:P.underlying t=some (.array n e)) (he:P.underlying e=some (.int .i64)) (ce:P.cellsOf e=1) (ct:P.cellsOf t=n) {fuel:Nat} {cs:List Value} {y:DataW H × List MemPlace}
 (h:DataW.trod enc P W 0 sp held fuel t cs=some y):∃zs:List Int,cs=zs.map (Value.int .i64)/\zs.length=n/\∀z∈zs,(Lit.int .i64 z).wf=true:=by
 obtain⟨xs,m,_,_,hl,hxl,hel⟩:=DataW.trod_array ht h;rw [ct]at hl
 obtain⟨zs,hz,hzz⟩:=lX (Q:=fun i z=>cs[i]? = some (Value.int .i64 z)/\(Lit.int .i64 z).wf=true) n fun i hi=>by
  have h1:=hel i hi;rw [ce,Nat.mul_one,List.getElem?_eq_getElem (by omega)]at h1;obtain ⟨z,e1,_,e3⟩:=DataW.trod_int he h1;refine ⟨z,?_,e3⟩;have h0:((cs.drop i).take 1)[0]? = some (Value.int .i64 z):=by rw[e1];rfl
  simpa using h0
 refine⟨zs,?_,hz,fun z hm=>?_⟩
 · apply List.ext_getElem?
   intro i;rw [List.getElem?_map]
   cases hi:zs[i]? with
   | none =>
    rw[List.getElem?_eq_none_iff]at hi;rw [List.getElem?_eq_none (by omega)];rfl
   | some z=>exact (hzz i z hi).1
 · obtain⟨i,hi⟩:=List.mem_iff_getElem?.1 hm;exact (hzz i z hi).2
theorem JR {n:Nat} {t e:TypeId} (ht:P.underlying t=some (.array n e)) (he:P.underlying e=some (.int .i64)) (ce:P.cellsOf e=1) (ct:P.cellsOf t=n) {r:Reach} {b0:Nat} {v:Value} {d:DataW H} {ps:List MemPlace}
 (hval:Value.okWide P W r b0 t v) (hd:DataW.Trod enc P W 0 sp held t v d ps):∃zs:List Int,v=.agg (zs.map (Value.int .i64)).toArray/\zs.length=n/\∀z∈zs,(Lit.int .i64 z).wf=true:=by
 unfold Value.okWide at hval
 rw[ht]at hval;obtain ⟨cs,rfl,_,_⟩:=hval;obtain ⟨fuel,hf⟩:=hd;obtain ⟨zs,h1,h2,h3⟩:=open_arr ht he ce ct hf;refine ⟨zs,?_,h2,h3⟩;have:cs.toList=zs.map (Value.int .i64):=h1;rw [←this]
theorem Pv {zs:List Int} (h:zs.length=2):∃a b,zs=[a,b]:=by
 match zs,h with
 | [a,b],_=>exact⟨a,b,rfl⟩
theorem oC (hl:laidOutB P=true) {W':World} (hb:Below W.heap.size W W'):∀ {ts:List TypeId} {vs:List Value} {ds:List (DataW H)} {ps:List MemPlace},(∀t∈ts,P.readableRec t=true/\t<P.types.size) ->
 DataW.TrodAll enc P W 0 (fun _=>true) true ts vs ds ps->(∀x∈ps,x.block<W.heap.size)->DataW.TrodAll enc P W' 0 (fun b=>decide (b<W.heap.size)) true ts vs ds ps
 | [],_,_,_,_,h,_=>by
  obtain⟨rfl,rfl,rfl⟩:=trodAll_nil h;rfl
 | t :: ts,vs,ds,ps,ht,h,hlt=>by
  obtain⟨v,vs',d,ds',p,q,rfl,rfl,rfl,hd,hrest⟩:=trodAll_cons h;have h1:=ht t (by simp);exact ⟨p,q,Below.trod hl h1.1 h1.2 hd hb (fun x hx=>hlt x (List.mem_append_left _ hx)),oC hl hb (fun u hu=>ht u (by simp[hu])) hrest (fun x hx=>hlt x (List.mem_append_right _ hx)),rfl⟩
end
end Go.Proofs.YtohgjenaclfegaaGreatDoor

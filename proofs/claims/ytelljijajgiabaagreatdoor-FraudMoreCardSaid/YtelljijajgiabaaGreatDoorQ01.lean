import Derived.Test.YtelljijajgiabaaGreatDoorQ00
import Derived.Deep.AppendSrc
import Derived.Laws.AppendOwn
import Derived.IntWalk
set_option linter.unusedVariables false
set_option linter.unusedSimpArgs false
set_option maxRecDepth 100000
set_option maxHeartbeats 8000000
namespace Go.Proofs.YtelljijajgiabaaGreatDoor
open Go.RowKit
def bC (ops:Array Oper) (a:Act) (j:Nat):Value :=
 match (ops[j]?).bind (·.dst) with
 | some d=>a.tmps.getD d undef
 | none=>undef
def dR (vs:Nat->Value):Nat->List Oper->Act->Act
 | _,[],a=>a
 | k,o :: rest,a=>dR vs (k+1) rest (a.put o.dst (vs k))
def vU (ops:Array Oper) (n:Nat) (a0 a:Act):Prop :=
 a.defers=a0.defers/\a.tmps.size=a0.tmps.size/\∀t,(∀(i:Nat) (o:Oper),i<n->ops[i]? = some o->o.dst≠some t)->a.tmps.getD t undef=a0.tmps.getD t undef
def nH (ops:Array Oper) (n:Nat):Bool :=
 (List.range ops.size).all fun i=>match ops[i]? with
  | none=>true
  | some o=>(o.after.all fun e=> !Region.binds .any e||decide (e.on<i))&&(match o.dst with|some d=>decide (d<n)|none=>true) &&
   (List.range ops.size).all fun j=>decide (j=i)||match (ops[j]?).bind (·.dst),o.dst with|some d,some d'=>d != d'|_,_=>true
section
variable {P:Program} {ops:Array Oper} {R:Nat->Value->World->Prop} {w0:World} {a0:Act} {Q:Exit->Act->World->Prop}
theorem iR {n:Nat} (h:nH ops n=true) {i:Nat} {o:Oper} (ho:ops[i]? = some o) :
 (∀e∈o.after,Region.binds .any e=true->e.on<i)/\(∀d,o.dst=some d->d<n)/\(∀j oj d d',j≠i->ops[j]? = some oj->oj.dst=some d->o.dst=some d'->d≠d'):=by
 have hi:i<ops.size:=(Array.getElem?_eq_some_iff.1 ho).1;have h1:=List.all_eq_true.1 h i (List.mem_range.2 hi);simp only[ho,Bool.and_eq_true]at h1;obtain ⟨⟨h1,h2⟩,h3⟩:=h1;refine ⟨fun e he hb=>?_,fun d hd=>?_,fun j oj d d' hj hoj hd hd'=>?_⟩
 · have:=Array.all_eq_true'.1 h1 e he;simpa [hb] using this
 · rw[hd]at h2;simpa using h2
 · have hjn:j<ops.size:=(Array.getElem?_eq_some_iff.1 hoj).1;have:=List.all_eq_true.1 h3 j (List.mem_range.2 hjn);simpa [hj,hoj,hd,hd'] using this
theorem jd (a:Act) (d t:Nat) (v:Value):(a.put (some d) v).tmps.getD t undef=if t=d/\d<a.tmps.size then v else a.tmps.getD t undef:=by
 simp only[Act.put,Array.getD_eq_getD_getElem?,Array.getElem?_setIfInBounds];by_cases h:d=t
 · subst h;by_cases h2:d<a.tmps.size
   · simp[h2]
   · simp[h2]
 · rw[if_neg h,if_neg (fun hh=>h hh.1.symm)]
theorem count_one {n i:Nat} {listed:Array Bool} (hi:i<listed.size) (hun:listed.getD i true=false):∀(l:List Nat),l.Nodup->i∈l->l.countP (fun j=> !(listed.setIfInBounds i true).getD j true)+1=l.countP (fun j=> !listed.getD j true):=by
 intro l
 induction l with
 | nil=>intro _ h;cases h
 | cons x l ihl =>
  intro hnd hm;rw [List.nodup_cons]at hnd;rw [List.countP_cons,List.countP_cons];by_cases hx:i=x
  · subst hx;have e1:(listed.setIfInBounds i true).getD i true=true:=by simp[Array.getD_eq_getD_getElem?,hi]
    have h5:l.countP (fun j=> !(listed.setIfInBounds i true).getD j true)=l.countP (fun j=> !listed.getD j true):=by
     refine List.countP_congr fun j hj=>?_
     rw[getD_set_ne true (fun h=>hnd.1 (by rw[h];exact hj))]
    simp only[e1,hun,h5,Bool.not_false,Bool.not_true,if_true,Bool.false_eq_true,if_false]
  · have:=ihl hnd.2 (by simpa [hx] using hm);rw [getD_set_ne true hx];omega
theorem kR (vs:Nat->Value):∀(l:List Oper) (k:Nat) (a:Act),(dR vs k l a).tmps.size=a.tmps.size/\(dR vs k l a).defers=a.defers
 | [],_,_=>⟨rfl,rfl⟩
 | o :: l,k,a=>by
  have:=kR vs l (k+1) (a.put o.dst (vs k));refine ⟨this.1.trans ?_,this.2.trans ?_⟩ <;> cases o.dst <;> simp[Act.put]
theorem oh (vs:Nat->Value) (t:Nat):∀(l:List Oper) (k:Nat) (a:Act),(∀o∈l,o.dst≠some t)->(dR vs k l a).tmps.getD t undef=a.tmps.getD t undef
 | [],_,_,_=>rfl
 | o :: l,k,a,h=>by
  refine (oh vs t l (k+1) _ fun o ho=>h o (by simp[ho])).trans ?_
  cases hd:o.dst with
  | none=>rfl
  | some d=>rw[jd,if_neg (fun hh=>h o (by simp) (by rw[hd,hh.1]))]
theorem rU (vs:Nat->Value) (t:Nat):∀(l:List Oper) (k j:Nat) (o:Oper) (a:Act),l[j]? = some o->o.dst=some t->(∀(i:Nat) (o':Oper),j<i->l[i]? = some o'->o'.dst≠some t)->t<a.tmps.size ->
 (dR vs k l a).tmps.getD t undef=vs (k+j)
 | [],_,_,_,_,h,_,_,_=>by simp at h
 | x :: l,k,0,o,a,h,hd,hu,ht=>by
  obtain rfl:x=o:=by simpa using h
  refine (oh vs t l (k+1) _ fun o ho=>?_).trans ?_
  · obtain⟨i,hi⟩:=List.mem_iff_getElem?.1 ho;exact hu (i+1) o (by omega) (by simpa using hi)
  · rw[hd,jd,if_pos ⟨rfl,ht⟩];rfl
 | x :: l,k,j+1,o,a,h,hd,hu,ht=>by
  have:=rU vs t l (k+1) j o (a.put x.dst (vs k)) (by simpa using h) hd (fun i o' hji hi=>hu (i+1) o' (by omega) (by simpa using hi)) (by cases x.dst <;> simpa [Act.put] using ht);rw [show dR vs k (x :: l) a=dR vs (k+1) l (a.put x.dst (vs k)) from rfl,this,show k+1+j=k+(j+1) by omega]
def iD (ops:Array Oper) (n:Nat):Bool :=
 (List.range n).all fun i=>match ops[i]? with
  | none=>true
  | some o=>o.guard.isNone&&(match o.op with|.select ..=>false|_=>true) &&
   (o.looksAt ops).all fun t=>(List.range ops.size).all fun j=>match ops[j]? with|some oj=>oj.dst != some t||decide (j<i)||decide (n<=j)|none=>true
def seen (ops:Array Oper) (vs:Nat->Value) (i:Nat) (a0:Act):Act:=dR vs 0 (ops.toList.take i) a0
theorem uJ {ops:Array Oper} {i j:Nat} {o:Oper}:(ops.toList.take i)[j]? = some o↔j<i/\ops[j]? = some o:=by
 rw[List.getElem?_take]
 split
 · simp[*]
 · constructor
   · intro h;cases h
   · intro h;omega
theorem fC {l:List Oper} {i j:Nat} {o:Oper} (h:(l.take i)[j]? = some o):j<i/\l[j]? = some o:=by
 rw[List.getElem?_take]at h
 split at h
 · exact⟨by assumption,h⟩
 · cases h
theorem L8 {a b:Act} (h:a.tmps=b.tmps) (h':a.defers=b.defers):a=b:=by cases a;cases b;simp_all
theorem CJ {n i:Nat} {a:Act} (hin:i<=n) (hok:nH ops a0.tmps.size=true) (hsame:vU ops n a0 a) {t:Nat} (hl:∀(j:Nat) (oj:Oper),ops[j]? = some oj->oj.dst=some t->j<i∨n<=j) :
 (seen ops (bC ops a) i a0).tmps.getD t undef=a.tmps.getD t undef:=by
 by_cases hw:∃(j:Nat) (oj:Oper),j<n/\ops[j]? = some oj/\oj.dst=some t
 · obtain⟨j,oj,hjn,hj,hd⟩:=hw;have hsp:=iR hok hj;have hji:j<i:=(hl j oj hj hd).resolve_right (by omega)
   unfold seen
   rw[rU (bC ops a) t _ 0 j oj a0 (uJ.2 ⟨hji,hj⟩) hd (fun k o' hjk hk hd'=>hsp.2.2 k o' t t (by omega) (uJ.1 hk).2 hd' hd rfl) (hsp.2.1 t hd)];simp [bC,hj,hd]
 · have hno:∀(j:Nat) (oj:Oper),j<n->ops[j]? = some oj->oj.dst≠some t:=fun j oj hjn hj hd=>hw ⟨j,oj,hjn,hj,hd⟩
   rw[hsame.2.2 t hno]
   unfold seen
   refine oh _ _ _ _ _ fun o ho=>?_
   obtain⟨j,hj⟩:=List.mem_iff_getElem?.1 ho;have:=(uJ.1 hj).1;exact hno j o (by omega) (uJ.1 hj).2
def qV (o:Oper) (a:Act):Value:=match o.dst with|some d=>a.tmps.getD d undef|none=>undef
end
def mQ (ops:Array Oper) (n:Nat):Bool :=
 (List.range n).all fun i=>match ops[i]? with
  | none=>true
  | some o=>(match o.op with|.select ..=>false|_=>true) &&
   (o.looksAt ops).all fun t=>(List.range ops.size).all fun j=>match ops[j]? with|some oj=>oj.dst != some t||decide (j<i)||decide (n<=j)|none=>true
theorem FC {ops:Array Oper} {o:Oper} {a b:Act} (hsz:a.tmps.size=b.tmps.size) (h:∀t∈o.looksAt ops,a.tmps.getD t undef=b.tmps.getD t undef):Region.wanted o (yielded ops a.tmps)=Region.wanted o (yielded ops b.tmps):=by
 unfold Region.wanted
 cases hg:o.guard with
 | none=>rfl
 | some g =>
  obtain⟨j,want⟩:=g;simp only
  congr 1
  unfold yielded
  cases hd:(ops[j]?).bind (·.dst) with
  | none=>rfl
  | some t =>
   have ht:t∈o.looksAt ops:=by
    unfold Oper.looksAt
    rw[hg];simp [hd]
   have h1:=h t ht;simp only[Option.bind_some];by_cases hlt:t<a.tmps.size
   · have hlt':t<b.tmps.size:=hsz ▸ hlt;simp only[Array.getD_eq_getD_getElem?,Array.getElem?_eq_getElem hlt,Array.getElem?_eq_getElem hlt',Option.getD_some]at h1;rw [Array.getElem?_eq_getElem hlt,Array.getElem?_eq_getElem hlt',h1]
   · rw[Array.getElem?_eq_none (Nat.le_of_not_lt hlt),Array.getElem?_eq_none (Nat.le_of_not_lt (hsz ▸ hlt))]
theorem OU {P:Program} {o:Oper} {a:Act} {w:World} {K:Act->World->Prop} {Q Q':Exit->Act->World->Prop} (hq:∀e a w,Q e a w->Q' e a w) (hh:o.wp P a w K Q):o.wp P a w K Q':=by
 unfold Oper.wp at *
 generalize (execOp a.eval o).run P w=r at *
 cases r with
 | ok n w' =>
  cases n <;> simp only[Oper.upon]at hh ⊢ <;>
   first
    | exact hh
    | exact hq _ _ _ hh
    | exact Calls.mono hh (fun e w'' he=>by cases e <;> first|exact he|exact hq _ _ _ he|(obtain ⟨b,v,h2⟩:=he;exact⟨b,v,hq _ _ _ h2⟩))
 | halt x w'=>cases x <;> simp only[Oper.upon]at hh ⊢ <;> first|exact hh|exact hq _ _ _ hh
theorem IZ {P:Program} {ops:Array Oper} {o:Oper} {a:Act} {w:World} {Q Q':Exit->Act->World->Prop} (hq:∀e a w,Q e a w->Q' e a w) (h:wpList P ops Q [o] a w):wpList P ops Q' [o] a w:=by
 unfold wpList at h ⊢
 split
 · rename_i hw
   rw[if_pos hw]at h
   rcases h with h|⟨h1,b,v,h2⟩
   · exact .inl (OU hq (Oper.wp_mono (fun a w hh=>hq _ _ _ hh) h))
   · exact .inr ⟨h1,b,v,hq _ _ _ h2⟩
 · rename_i hw
   rw[if_neg hw]at h;exact hq _ _ _ h
end Go.Proofs.YtelljijajgiabaaGreatDoor
namespace Go.Proofs.YtelljijajgiabaaGreatDoor.RA
open Go.RowKit
structure Cls (K:World->World->Prop):Prop where
 refl:∀w,K w w
 trans:∀ {a b c},K a b->K b c->K a c
 drawn:∀(w:World) n,K w { w with drawn:=n }
def jG (ks:Nat->Option Nat) (f:Nat->Value) (j:Nat):Value:=match ks j with|some k=>f k|none=>undef
def Ar (F:Nat->Value->World->World->Prop) (K:World->World->Prop) (ks:Nat->Option Nat) (P:Program) (ops:Array Oper) (n:Nat) (R:Nat->Value->Value->World->Prop) (w0:World) (a0:Act) (Q:Exit->Act->World->Prop) (i:Nat) (o:Oper):Prop :=
 ∀(a:Act) (w:World),K w0 w->vU ops n a0 a->(∀e∈o.after,Region.binds .any e=true->R e.on (jG ks (bC ops a) e.on) (bC ops a e.on) w) ->
  if Region.wanted o (yielded ops a.tmps)=true then o.wp P a w (fun a' w'=>∃v,a'=a.put o.dst v/\K w w'/\R i (jG ks (bC ops a) i) (if o.dst.isSome then v else undef) w'/\F i (if o.dst.isSome then v else undef) w w') Q else R i (jG ks (bC ops a) i) undef w/\F i undef w w
def Dst (ops:Array Oper) (S:Nat->Bool) (n:Nat) (listed:Array Bool) (a:Act) (w:World):Prop:=(∀p,p<n->S p=true->listed.getD p false=true->∃g,bC ops a p=.pointer (some ⟨g,0,none⟩)/\g<w.heap.size)/\(∀p q,p<n->q<n->S p=true->S q=true->p≠q->listed.getD p false=true->listed.getD q false=true->bC ops a p≠bC ops a q)
section
variable {P:Program} {ops:Array Oper} {R:Nat->Value->Value->World->Prop} {w0:World} {a0:Act} {Q:Exit->Act->World->Prop}
theorem J_ {F:Nat->Value->World->World->Prop} {K:World->World->Prop} {ks:Nat->Option Nat} (hK:Cls K) {n g:Nat} (S:Nat->Bool) (YA:(∃p,S p=true)->∀w w',K w w'->w.heap.size<=w'.heap.size) (hF:∀p,S p=true->∀v w w',F p v w w'->v=.pointer (some ⟨w.heap.size,0,none⟩)/\w.heap.size<w'.heap.size) (hok:nH ops a0.tmps.size=true) (hsc:ops.size<=n∨(Region.sinkB .any ops n=true/\Region.chainB .any ops n=true)) (hn:n<=ops.size)
 (hks:∀i o k,ops[i]? = some o->ks i=some k->∃e∈o.after,Region.binds .any e=true/\e.on=k) (hst:∀i x v w w',R i x v w->K w w'->R i x v w') (hsteps:∀i o,i<n->ops[i]? = some o->Ar F K ks P ops n R w0 a0 Q i o)
 (hfin:∀listed a w,HeadInv .any ops n listed->(∀i,i<n->listed.getD i true=true)->K w0 w->vU ops n a0 a->(∀i,i<n->R i (jG ks (bC ops a) i) (bC ops a i) w)->(∀p q,p<n->q<n->S p=true->S q=true->p≠q->bC ops a p≠bC ops a q)->wpAny P .any ops Q g listed a w) :
 ∀(fuel:Nat) (listed:Array Bool) (a:Act) (w:World),HeadInv .any ops n listed->((List.range n).countP (fun i=> !listed.getD i true))=fuel->K w0 w->vU ops n a0 a ->
  (∀i,i<n->listed.getD i false=true->R i (jG ks (bC ops a) i) (bC ops a i) w)->Dst ops S n listed a w->wpAny P .any ops Q (fuel+g) listed a w:=by
 intro fuel
 induction fuel with
 | zero =>
  intro listed a w inv hcnt hb hsame hR hD
  have hall:∀i,i<n->listed.getD i true=true:=by
   intro i hi;have:=List.countP_eq_zero.1 hcnt i (List.mem_range.2 hi);simpa using this
  rw[Nat.zero_add];have hall':∀i,i<n->listed.getD i false=true:=fun i hi=>by have:=hall i hi;simpa [Array.getD_eq_getD_getElem?,inv.size,show i<ops.size by omega] using this
  exact hfin listed a w inv hall hb hsame (fun i hi=>hR i hi (hall' i hi)) (fun p q hp hq sp sq hne=>hD.2 p q hp hq sp sq hne (hall' p hp) (hall' q hq))
 | succ fuel ih =>
  intro listed a w inv hcnt hb hsame hR hD
  have hex:∃i,i<n/\listed.getD i true=false:=by
   have h0:0<(List.range n).countP (fun i=> !listed.getD i true):=by omega
   obtain⟨i,hi,hp⟩:=List.countP_pos_iff.1 h0;exact ⟨i,List.mem_range.1 hi,by simpa using hp⟩
  rw[show fuel+1+g=(fuel+g)+1 by omega];refine ⟨fun he=>?_,fun i hi=>?_⟩
  · exfalso
    have hempty:∀i,i<n->listed.getD i true=true:=by
     intro i
     induction i using Nat.strongRecOn with
     | _ i ih =>
      intro hi
      cases hl:listed.getD i true with
      | true=>rfl
      | false =>
       have hoi:ops[i]? = some (ops[i]'(by omega)):=Array.getElem?_eq_getElem (by omega)
       have:i∈Region.ready .any ops listed:=mem_ready.2 ⟨hl,_,hoi,fun e hem hbd=>by
        have hlt:=(iR hok hoi).1 e hem hbd;have:=ih e.on hlt (by omega)
        simpa [Array.getD_eq_getD_getElem?,inv.size,show e.on<ops.size by omega] using this⟩
       rw[he]at this;cases this
    obtain⟨i,hi,hu⟩:=hex;rw [hempty i hi]at hu;cases hu
  obtain⟨hun,o,ho,zN⟩:=mem_ready.1 hi;have hin:i<ops.size:=(Array.getElem?_eq_some_iff.1 ho).1
  have hhead:i<n:=by
   obtain⟨k,hk,hu⟩:=hex
   rcases Nat.lt_or_ge i n with h|h
   · exact h
   · rcases hsc with hsc|⟨hs,hc⟩
     · omega
     · exact absurd hi (tail_waits hs hc (by omega) inv _ k rfl hk hu i h)
  obtain⟨hback,hbound,hdist⟩:=iR hok ho
  have hc':(List.range n).countP (fun j=> !(listed.setIfInBounds i true).getD j true)=fuel:=by
   have:=count_one (n:=n) (by rw[inv.size];exact hin) hun (List.range n) List.nodup_range (List.mem_range.2 hhead);omega
  have hstep:=hsteps i o hhead ho a w hb hsame (fun e he hbd=>hR e.on (by have:=hback e he hbd;omega) (zN e he hbd))
  have hput:∀v,vU ops n a0 (a.put o.dst v):=by
   intro v;obtain ⟨e1,e2,e3⟩:=hsame
   cases hd:o.dst with
   | none=>exact⟨e1,e2,e3⟩
   | some d =>
    refine⟨e1,by simpa [Act.put] using e2,fun t ht=>?_⟩;rw [jd,if_neg (fun hh=>ht i o hhead ho (by rw[hd,hh.1])),e3 t ht]
  have vC:∀v j,j≠i->bC ops (a.put o.dst v) j=bC ops a j:=by
   intro v j hj
   unfold bC
   cases hd:o.dst with
   | none=>rfl
   | some d =>
    cases hoj:ops[j]? with
    | none=>rfl
    | some oj =>
     cases hdj:oj.dst with
     | none=>simp[hdj]
     | some dj =>
      simp only[Option.bind_some,hdj];rw [jd,if_neg (fun hh=>hdist j oj dj d hj hoj hdj hd hh.1)]
  have hself:∀v,bC ops (a.put o.dst v) i=if o.dst.isSome then v else undef:=by
   intro v
   unfold bC
   rw[ho]
   cases hd:o.dst with
   | none=>simp[hd]
   | some d =>
    simp only[Option.bind_some,hd,Option.isSome_some,if_true];rw [jd,if_pos ⟨rfl,by rw[hsame.2.1];exact hbound d hd⟩]
  have harg:∀v j oj,ops[j]? = some oj->(j=i∨listed.getD j false=true)->jG ks (bC ops (a.put o.dst v)) j=jG ks (bC ops a) j:=by
   intro v j oj hoj hj
   unfold jG
   cases hk:ks j with
   | none=>rfl
   | some k =>
    obtain⟨e,he,hbd,rfl⟩:=hks j oj k hoj hk;refine vC v _ fun hki=>?_
    rcases hj with rfl|hj
    · have e1:oj=o:=Option.some.inj (hoj.symm.trans ho);subst e1;have:=hback e he hbd;omega
    · have hl:=inv.closed j oj hoj hj e he hbd;rw [hki]at hl;rw [getD_both hun]at hl;cases hl
  have hnext:∀v w',K w w'->R i (jG ks (bC ops a) i) (if o.dst.isSome then v else undef) w'->F i (if o.dst.isSome then v else undef) w w'->wpAny P .any ops Q (fuel+g) (listed.setIfInBounds i true) (a.put o.dst v) w':=by
   intro v w' hbw hr hf;refine ih _ _ _ (inv.set hi hhead) hc' (hK.trans hb hbw) (hput v) (fun j hjn hj=>?_) ?_
   rotate_left
   · obtain⟨d1,d3⟩:=hD;have hz:=fun h=>YA h _ _ hbw
     have hls:∀j,j≠i->(listed.setIfInBounds i true).getD j false=true->listed.getD j false=true:=fun j hj h=>by rw[←getD_set_ne false (fun h=>hj h.symm)];exact h
     refine⟨fun p hp sp hl=>?_,fun p q hp hq sp sq hpq hl hl2=>?_⟩
     · by_cases e:p=i
       · subst e;rw[hself];obtain⟨e1,e2⟩:=hF _ sp _ _ _ hf;exact⟨_,e1,e2⟩
       · rw[vC v p e];obtain⟨g,e1,e2⟩:=d1 p hp sp (hls p e hl);exact⟨g,e1,Nat.lt_of_lt_of_le e2 (hz ⟨p,sp⟩)⟩
     · by_cases e:p=i
       · subst e;rw [hself,vC v q (Ne.symm hpq)];obtain ⟨e1,e2⟩:=hF _ sp _ _ _ hf;obtain ⟨g,e3,e4⟩:=d1 q hq sq (hls q (Ne.symm hpq) hl2);rw [e1,e3];intro h
         injection h with h;injection h with h;injection h with h1 h2
         omega
       · by_cases e':q=i
         · subst e';rw [hself,vC v p hpq];obtain ⟨e1,e2⟩:=hF _ sq _ _ _ hf;obtain ⟨g,e3,e4⟩:=d1 p hp sp (hls p hpq hl);rw [e1,e3];intro h
           injection h with h;injection h with h;injection h with h1 h2
           omega
         · rw[vC v p e,vC v q e'];exact d3 p q hp hq sp sq hpq (hls p e hl) (hls q e' hl2)
   by_cases hji:j=i
   · subst hji;rw[hself,harg v _ o ho (.inl rfl)];exact hr
   · have hlj:listed.getD j false=true:=by rw[←getD_set_ne false (fun h=>hji h.symm)];exact hj
     rw[vC v j hji,harg v j (ops[j]'(by omega)) (Array.getElem?_eq_getElem (by omega)) (.inr hlj)];exact hst _ _ _ _ _ (hR j hjn hlj) hbw
  unfold wpOp
  simp only[ho];by_cases hw:Region.wanted o (yielded ops a.tmps)=true
  · rw[if_pos hw]at hstep ⊢;refine .inl ?_;exact Oper.wp_mono (fun a' w' hh=>by obtain⟨v,e,hb',hr,hf⟩:=hh;subst e;exact hnext v w' hb' hr hf) hstep
  · rw[if_neg hw]at hstep ⊢;exact hnext undef w (hK.refl _) (by split <;> exact hstep.1) (by split <;> exact hstep.2)
def xH (ks:Nat->Option Nat) (R:Nat->Value->Value->World->Prop) (vs:Nat->Value) (w:World):List Edge->Prop
 | []=>True
 | e :: l=>(Region.binds .any e=true->R e.on (jG ks vs e.on) (vs e.on) w)/\xH ks R vs w l
theorem wu {ks:Nat->Option Nat} {R:Nat->Value->Value->World->Prop} {vs:Nat->Value} {w:World}:∀(l:List Edge),(∀e∈l,Region.binds .any e=true->R e.on (jG ks vs e.on) (vs e.on) w)->xH ks R vs w l
 | [],_=>trivial
 | e :: l,h=>⟨h e (by simp),wu l fun e he=>h e (by simp[he])⟩
def pY (F:Nat->Value->World->World->Prop) (K:World->World->Prop) (ks:Nat->Option Nat) (P:Program) (ops:Array Oper) (R:Nat->Value->Value->World->Prop) (w0:World) (a0:Act) (i:Nat) (o:Oper):Prop :=
 ∀(vs:Nat->Value) (w:World),K w0 w->xH ks R vs w o.after.toList ->
  wpList P ops (fun e a' w'=>e=.normal/\a'.defers=a0.defers/\K w w'/\R i (jG ks vs i) (qV o a') w'/\F i (qV o a') w w') [o] (seen ops vs i a0) w
def dw (F:Nat->Value->World->World->Prop) (K:World->World->Prop) (ks:Nat->Option Nat) (P:Program) (ops:Array Oper) (R:Nat->Value->Value->World->Prop) (w0:World) (a0:Act):Nat->List Oper->Prop
 | _,[]=>True
 | k,o :: l=>pY F K ks P ops R w0 a0 k o/\dw F K ks P ops R w0 a0 (k+1) l
theorem dw.get {F:Nat->Value->World->World->Prop} {K:World->World->Prop} {ks:Nat->Option Nat} {P:Program} {ops:Array Oper} {R:Nat->Value->Value->World->Prop} {w0:World} {a0:Act}:∀(l:List Oper) (k j:Nat) (o:Oper),dw F K ks P ops R w0 a0 k l->l[j]? = some o->pY F K ks P ops R w0 a0 (k+j) o
 | [],_,_,_,_,h=>by simp at h
 | x :: l,k,0,o,hh,h=>by
  obtain rfl:x=o:=by simpa using h
  exact hh.1
 | x :: l,k,j+1,o,hh,h=>by
  have:=dw.get l (k+1) j o hh.2 (by simpa using h)
  rwa [show k+1+j=k+(j+1) by omega]at this
theorem kS {K:World->World->Prop} {a0:Act} {R:Value->World->Prop} {w:World} {o:Oper} (h:LetsOut (fun e a' w'=>e=.normal/\a'.defers=a0.defers/\K w w'/\R (qV o a') w')):False:=by
 obtain⟨_,_,h,_⟩:=h;cases h
theorem AX {F:Nat->Value->World->World->Prop} {K:World->World->Prop} {ks:Nat->Option Nat} {n i:Nat} {o:Oper} (hok:nH ops a0.tmps.size=true) (hlk:mQ ops n=true) (hi:i<n) (hin:n<=ops.size) (ho:ops[i]? = some o) (h:pY F K ks P ops R w0 a0 i o):Ar F K ks P ops n R w0 a0 Q i o:=by
 intro a w hb hsame zN;have h1:=List.all_eq_true.1 hlk i (List.mem_range.2 hi);simp only[ho,Bool.and_eq_true]at h1;obtain ⟨hsel,hl⟩:=h1;have hu:=h (bC ops a) w hb (wu _ fun e he hbd=>zN e (by simpa using he) hbd)
 have QK:∀t∈o.looksAt ops,(seen ops (bC ops a) i a0).tmps.getD t undef=a.tmps.getD t undef:=fun t ht=>by
  have h2:=List.all_eq_true.1 hl t ht;refine CJ (Nat.le_of_lt hi) hok hsame fun j oj hj hd=>?_
  have h3:=List.all_eq_true.1 h2 j (List.mem_range.2 (Array.getElem?_eq_some_iff.1 hj).1);simpa [hj,hd] using h3
 have hsz:=kR (bC ops a) (ops.toList.take i) 0 a0;have hsz':(seen ops (bC ops a) i a0).tmps.size=a.tmps.size:=by rw[seen,hsz.1,hsame.2.1]
 have hput:∀v,qV o ((seen ops (bC ops a) i a0).put o.dst v)=if o.dst.isSome then v else undef:=by
  intro v
  unfold qV
  cases hd:o.dst with
  | none=>rfl
  | some d =>
   simp only[Option.isSome_some,if_true];rw [jd,if_pos ⟨rfl,by rw[seen,hsz.1];exact (iR hok ho).2.1 d hd⟩]
 simp only[wpList]at hu;rw [FC hsz' QK]at hu;by_cases hw:Region.wanted o (yielded ops a.tmps)=true
 · rw[if_pos hw]at hu ⊢
   have QU:execOp a.eval o=execOp (seen ops (bC ops a) i a0).eval o:=by
    refine execOp_congr o (fun cs b e=>by rw[e]at hsel;simp at hsel) fun x hx=>?_
    cases x with
    | tmp t=>exact (QK t (List.mem_append_left _ (List.mem_filterMap.2 ⟨.tmp t,by simpa using hx,rfl⟩))).symm
    | _=>rfl
   rcases hu with hu|hu
   · unfold Oper.wp at hu ⊢
     rw[QU];generalize (execOp (seen ops (bC ops a) i a0).eval o).run P w=r at hu
     cases r with
     | halt x w'=>cases x <;> simp only[Oper.upon]at hu ⊢ <;> first|exact absurd hu.1 (by simp)|exact hu
     | ok nx w' =>
      cases nx <;> simp only[Oper.upon]at hu ⊢
      case value v=>exact⟨v,rfl,hu.2.2.1,by rw[←hput];exact hu.2.2.2⟩
      case skip=>exact⟨undef,rfl,hu.2.2.1,by rw[←hput];exact hu.2.2.2⟩
      case defer d =>
       exfalso
       have:=hu.2.1;have h9:=congrArg List.length this;cases hd:o.dst <;> simp[hd,Act.put,seen,hsz.2]at h9
      case enter f args =>
       refine Calls.mono hu fun e w'' he=>?_
       cases e with
       | returned v=>exact⟨v,rfl,he.2.2.1,by rw[←hput];exact he.2.2.2⟩
       | panicked c=>exact absurd he.1 (by simp)
       | outgrown=>exact (kS (R:=fun v w'=>R i (jG ks (bC ops a) i) v w'/\F i v w w') he).elim
      case row s args=>exact Rows.mono hu fun v w'' he=>⟨v,rfl,he.2.2.1,by rw[←hput];exact he.2.2.2⟩
      all_goals exact hu.elim
   · exact (kS (R:=fun v w'=>R i (jG ks (bC ops a) i) v w'/\F i v w w') hu.2).elim
 · rw[if_neg hw]at hu ⊢;have h9:=hu.2.2.2;rw [hput]at h9
   split at h9 <;> exact h9
theorem eu {F:Nat->Value->World->World->Prop} {K:World->World->Prop} (hK:Cls K) (ks:Nat->Option Nat) {l:List Oper} {Q:Exit->Act->World->Prop} {a0:Act} {w0:World} (n:Nat) (R:Nat->Value->Value->World->Prop) (S:Nat->Bool) (YA:(∃p,S p=true)->∀w w',K w w'->w.heap.size<=w'.heap.size) (hF:∀p,S p=true->∀v w w',F p v w w'->v=.pointer (some ⟨w.heap.size,0,none⟩)/\w.heap.size<w'.heap.size)
 (hB:(nH l.toArray a0.tmps.size&&mQ l.toArray n&&(decide (l.length<=n)||(Region.sinkB .any l.toArray n&&Region.chainB .any l.toArray n))&&decide (n<=l.length)&&Region.seqB .any l.toArray (l.length-n) n ((List.range l.length).map fun i=>decide (i<n)).toArray)=true)
 (hks:∀i o k,l.toArray[i]? = some o->ks i=some k->∃e∈o.after,Region.binds .any e=true/\e.on=k) (hst:∀i x v w w',R i x v w->K w w'->R i x v w') (hsteps:dw F K ks P l.toArray R w0 a0 0 (l.take n))
 (hfin:∀vs w',K w0 w'->(∀i,i<n->R i (jG ks vs i) (vs i) w')->(∀p q,p<n->q<n->S p=true->S q=true->p≠q->vs p≠vs q)->wpList P l.toArray Q (l.drop n) (dR vs 0 (l.take n) a0) w'):wpAny P .any l.toArray Q l.toArray.size (Array.replicate l.toArray.size false) a0 { w0 with drawn:=w0.drawn+1 }:=by
 simp only[Bool.and_eq_true,decide_eq_true_eq]at hB;obtain ⟨⟨⟨⟨hok,hlk⟩,hsc⟩,hn⟩,hseq⟩:=hB
 have X9:l.toArray.size<=n∨(Region.sinkB .any l.toArray n=true/\Region.chainB .any l.toArray n=true):=by
  rw[Bool.or_eq_true,Bool.and_eq_true,decide_eq_true_eq]at hsc;simpa using hsc
 have hn':n<=l.toArray.size:=by simpa using hn
 have hb0:K w0 { w0 with drawn:=w0.drawn+1 }:=hK.drawn w0 _
 have inv0:HeadInv .any l.toArray n (Array.replicate l.toArray.size false) :=
  ⟨by simp,fun j oj _ hl=>(by rw[getD_replicate_false]at hl;cases hl),fun t _ ht=>getD_in (by simpa using ht) (getD_replicate_false _ _)⟩
 have H:=J_ (F:=F) (ks:=ks) hK S YA hF (P:=P) (ops:=l.toArray) (R:=R) (w0:=w0) (a0:=a0) (Q:=Q) (n:=n) (g:=l.length-n) hok X9 hn' hks hst (fun i o hi ho=>AX hok hlk hi hn' ho (by
  have:=dw.get (l.take n) 0 i o hsteps (by rw[List.getElem?_take,if_pos hi];simpa using ho)
  rwa [Nat.zero_add]at this)) (fun listed a w inv hall hb hsame hR Zk=>by
  have Yk:listed=((List.range l.length).map fun i=>decide (i<n)).toArray:=by
   apply Array.ext
   · simp[inv.size]
   · intro i h1 h2;have hi:i<l.length:=by simpa using h2
     simp only[List.getElem_toArray,List.getElem_map,List.getElem_range]
     rcases Nat.lt_or_ge i n with h|h
     · have:=hall i h;simp [Array.getD_eq_getD_getElem?,h1]at this
       simp[h,this]
     · have:=inv.tail i h (by simpa using hi);simp [Array.getD_eq_getD_getElem?,h1]at this
       simp[this];omega
  have hfr:a=dR (bC l.toArray a) 0 (l.take n) a0:=by
   have hsz:=kR (bC l.toArray a) (l.take n) 0 a0
   have key:a.tmps=(dR (bC l.toArray a) 0 (l.take n) a0).tmps:=by
    apply Array.ext
    · rw[hsz.1,hsame.2.1]
    · intro t h1 h2;have e1:a.tmps[t]=a.tmps.getD t undef:=by simp[Array.getD_eq_getD_getElem?,h1]
      have e2:(dR (bC l.toArray a) 0 (l.take n) a0).tmps[t]=(dR (bC l.toArray a) 0 (l.take n) a0).tmps.getD t undef:=by simp[Array.getD_eq_getD_getElem?,h2]
      rw[e1,e2];by_cases hw:∃(j:Nat) (oj:Oper),j<n/\l.toArray[j]? = some oj/\oj.dst=some t
      · obtain⟨j,oj,hjn,hj,hd⟩:=hw;have hsp:=iR hok hj;rw [rU (bC l.toArray a) t (l.take n) 0 j oj a0 (by rw[List.getElem?_take,if_pos hjn];simpa using hj) hd (fun k o' hjk hk hd'=>hsp.2.2 k o' t t (by omega) (by simpa using (fC hk).2) hd' hd rfl) (hsp.2.1 t hd)];have hj':l[j]? = some oj:=by simpa using hj
        simp[bC,hj',hd]
      · have hno:∀(j:Nat) (oj:Oper),j<n->l.toArray[j]? = some oj->oj.dst≠some t:=fun j oj hjn hj hd=>hw ⟨j,oj,hjn,hj,hd⟩
        rw[hsame.2.2 t hno];refine (oh _ _ _ _ _ fun o ho=>?_).symm;obtain ⟨j,hj⟩:=List.mem_iff_getElem?.1 ho;exact hno j o (fC hj).1 (by simpa using (fC hj).2)
   have kd:a.defers=(dR (bC l.toArray a) 0 (l.take n) a0).defers:=by rw[hsz.2,hsame.1]
   exact L8 key kd
  have h2:=hfin (bC l.toArray a) w hb hR Zk;rw [←hfr]at h2;have h3:=wpAny_of_seq (P:=P) (ops:=l.toArray) (md:=.any) (Q':=Q) (l.drop n) n listed a w (fun j=>by simp[List.getElem?_drop]) (by rw[Yk];simpa using hseq) h2
  simpa using h3) n (Array.replicate l.toArray.size false) a0 { w0 with drawn:=w0.drawn+1 } inv0 (by
   have:(List.range n).countP (fun i=> !(Array.replicate l.toArray.size false).getD i true)=(List.range n).length:=List.countP_eq_length.2 fun i hi=>by
    have:=List.mem_range.1 hi;simp [Array.getD_eq_getD_getElem?,show i<l.length by omega]
   simpa using this) hb0 ⟨rfl,rfl,fun _ _=>rfl⟩ (fun i _ h=>by rw[getD_replicate_false]at h;cases h) ⟨fun p _ _ h=>(by rw[getD_replicate_false]at h;cases h),fun p q _ _ _ _ _ h=>(by rw[getD_replicate_false]at h;cases h)⟩
 rw[show n+(l.length-n)=l.toArray.size by simp;omega]at H;exact H
end
theorem iH {ks:Nat->Option Nat} {R:Nat->Value->Value->World->Prop} {vs:Nat->Value} {w:World}:∀(l:List Edge),xH ks R vs w l->∀e∈l,Region.binds .any e=true->R e.on (jG ks vs e.on) (vs e.on) w
 | [],_,e,he,_=>by cases he
 | x :: l,h,e,he,hb=>by
  rcases List.mem_cons.1 he with rfl|he
  · exact h.1 hb
  · exact iH l h.2 e he hb
end Go.Proofs.YtelljijajgiabaaGreatDoor.RA
namespace Go.Proofs.YtelljijajgiabaaGreatDoor.RS
open Go.RowKit
structure Cls (K:World->World->Prop):Prop where
 refl:∀w,K w w
 trans:∀ {a b c},K a b->K b c->K a c
 drawn:∀(w:World) n,K w { w with drawn:=n }
abbrev jG (ks:Nat->Option Nat) (f:Nat->Value) (j:Nat):Value:=RA.jG ks f j
abbrev xH (ks:Nat->Option Nat) (R:Nat->Value->Value->World->Prop) (vs:Nat->Value) (w:World) (l:List Edge):Prop:=RA.xH ks R vs w l
theorem iH {ks:Nat->Option Nat} {R:Nat->Value->Value->World->Prop} {vs:Nat->Value} {w:World} (l:List Edge) (h:xH ks R vs w l):∀e∈l,Region.binds .any e=true->R e.on (jG ks vs e.on) (vs e.on) w:=RA.iH l h
def pY (K:World->World->Prop) (ks:Nat->Option Nat) (P:Program) (ops:Array Oper) (R:Nat->Value->Value->World->Prop) (w0:World) (a0:Act) (i:Nat) (o:Oper):Prop :=
 ∀(vs:Nat->Value) (w:World),K w0 w->xH ks R vs w o.after.toList ->
  wpList P ops (fun e a' w'=>e=.normal/\a'.defers=a0.defers/\K w w'/\R i (jG ks vs i) (qV o a') w') [o] (seen ops vs i a0) w
def dw (K:World->World->Prop) (ks:Nat->Option Nat) (P:Program) (ops:Array Oper) (R:Nat->Value->Value->World->Prop) (w0:World) (a0:Act):Nat->List Oper->Prop
 | _,[]=>True
 | k,o :: l=>pY K ks P ops R w0 a0 k o/\dw K ks P ops R w0 a0 (k+1) l
theorem dw.a {K:World->World->Prop} {ks:Nat->Option Nat} {P:Program} {ops:Array Oper} {R:Nat->Value->Value->World->Prop} {w0:World} {a0:Act}:∀(l:List Oper) (k:Nat),dw K ks P ops R w0 a0 k l->RA.dw (fun _ _ _ _=>True) K ks P ops R w0 a0 k l
 | [],_,_=>trivial
 | o :: l,k,h=>⟨fun vs w hb hE=>IZ (fun e a w hh=>⟨hh.1,hh.2.1,hh.2.2.1,hh.2.2.2,trivial⟩) (h.1 vs w hb hE),dw.a l (k+1) h.2⟩
theorem eu {P:Program} {K:World->World->Prop} (hK:Cls K) (ks:Nat->Option Nat) {l:List Oper} {Q:Exit->Act->World->Prop} {a0:Act} {w0:World} (n:Nat) (R:Nat->Value->Value->World->Prop)
 (hB:(nH l.toArray a0.tmps.size&&mQ l.toArray n&&(decide (l.length<=n)||(Region.sinkB .any l.toArray n&&Region.chainB .any l.toArray n))&&decide (n<=l.length)&&Region.seqB .any l.toArray (l.length-n) n ((List.range l.length).map fun i=>decide (i<n)).toArray)=true)
 (hks:∀i o k,l.toArray[i]? = some o->ks i=some k->∃e∈o.after,Region.binds .any e=true/\e.on=k) (hst:∀i x v w w',R i x v w->K w w'->R i x v w') (hsteps:dw K ks P l.toArray R w0 a0 0 (l.take n))
 (hfin:∀vs w',K w0 w'->(∀i,i<n->R i (jG ks vs i) (vs i) w')->wpList P l.toArray Q (l.drop n) (dR vs 0 (l.take n) a0) w'):wpAny P .any l.toArray Q l.toArray.size (Array.replicate l.toArray.size false) a0 { w0 with drawn:=w0.drawn+1 }:=by
 exact RA.eu (F:=fun _ _ _ _=>True) ⟨hK.refl,hK.trans,hK.drawn⟩ ks n R (fun _=>false) (fun h=>by obtain⟨p,hp⟩:=h;cases hp) (fun p hp=>by cases hp) hB hks hst (dw.a _ _ hsteps) fun vs w' h1 h2 _=>hfin vs w' h1 h2
end Go.Proofs.YtelljijajgiabaaGreatDoor.RS
namespace Go.Proofs.YtelljijajgiabaaGreatDoor
open Go.RowKit
theorem YX:RS.Cls (fun w w'=>Below w.heap.size w w'):=⟨fun w=>Below.refl _ _,fun h1 h2=>aj h1 h2,fun w n=>⟨rfl,rfl,rfl,Nat.le_refl _,fun _ _=>rfl⟩⟩
theorem Dc {ops:Array Oper} {n:Nat} (h:iD ops n=true):mQ ops n=true:=by
 unfold iD at h
 unfold mQ
 rw[List.all_eq_true]at h ⊢;intro i hi;have h1:=h i hi
 cases ho:ops[i]? with
 | none=>rfl
 | some o =>
  rw[ho]at h1;simp only[Bool.and_eq_true]at h1 ⊢;exact ⟨h1.1.2,h1.2⟩
def eP (p:Value->World->Prop):Prop:=∀v w w',p v w->Below w.heap.size w w'->p v w'
def ak (u:Value):Value->World->Prop:=fun v _=>v=u
def jJ:Value->World->Prop:=fun _ _=>True
theorem aF (u:Value):eP (ak u):=fun _ _ _ h _=>h
theorem jo:eP jJ:=fun _ _ _ _ _=>trivial
def rel (ps:List (Value->World->Prop)) (i:Nat) (v:Value) (w:World):Prop:=(ps.getD i jJ) v w
def bV:List (Value->World->Prop)->Prop
 | []=>True
 | p :: l=>eP p/\bV l
def cZ (vs:Nat->Value) (w:World):Nat->List (Value->World->Prop)->Prop
 | _,[]=>True
 | k,p :: l=>p (vs k) w/\cZ vs w (k+1) l
theorem bV.get:∀(ps:List (Value->World->Prop)) (i:Nat),bV ps->eP (ps.getD i jJ)
 | [],i,_=>by simpa using jo
 | p :: l,0,h=>by simpa using h.1
 | p :: l,i+1,h=>by simpa using bV.get l i h.2
theorem ig {vs:Nat->Value} {w:World}:∀(ps:List (Value->World->Prop)) (k:Nat),(∀i,i<ps.length->(ps.getD i jJ) (vs (k+i)) w)->cZ vs w k ps
 | [],_,_=>trivial
 | p :: l,k,h=>⟨by simpa using h 0 (by simp),ig l (k+1) fun i hi=>by
  have:=h (i+1) (by simp;omega)
  rw[show k+1+i=k+(i+1) by omega];simpa using this⟩
def zZ (o:Oper) (j:Nat):Bool:=o.after.toList.any fun e=>Region.binds .any e&&e.on==j
def aQ (vs:Nat->Value):Nat->List (Option Tmp)->Act->Act
 | _,[],a=>a
 | k,d :: rest,a=>aQ vs (k+1) rest (a.put d (vs k))
theorem dK (vs:Nat->Value):∀(l:List Oper) (k:Nat) (a:Act),dR vs k l a=aQ vs k (l.map (·.dst)) a
 | [],_,_=>rfl
 | o :: l,k,a=>dK vs l (k+1) _
def Users (P:Program) (ps:List (Value->World->Prop)) (w0:World) (a0:Act):List (Option Tmp)->List Oper->List (Value->World->Prop)->Prop
 | pre,o :: l,q :: qs=>(∀(vs:Nat->Value) (w:World),Below w0.heap.size w0 w->(∀j,zZ o j=true->rel ps j (vs j) w) ->
  wpList P #[] (fun e a' w'=>e=.normal/\a'.defers=a0.defers/\Below w.heap.size w w'/\q (qV o a') w') [o] (aQ vs 0 pre a0) w)/\Users P ps w0 a0 (pre++[o.dst]) l qs
 | _,_,_=>True
theorem sW {P:Program} {ops ops':Array Oper} {Q:Exit->Act->World->Prop} {o:Oper} {a:Act} {w:World} (hg:o.guard=none) (h:wpList P ops Q [o] a w):wpList P ops' Q [o] a w:=by
 have hw:∀y,Region.wanted o y=true:=fun y=>by simp[Region.wanted,hg]
 simp only[wpList,hw,if_true]at h ⊢;exact h
theorem Users.rg {P:Program} {ps:List (Value->World->Prop)} {w0:World} {a0:Act} {L:List Oper} {n:Nat} (hlk:iD L.toArray n=true) (hnp:n<=ps.length):∀(l:List Oper) (k:Nat),(∀j,l[j]? = (L.take n)[k+j]?)->Users P ps w0 a0 ((L.take k).map (·.dst)) l (ps.drop k)->RS.dw (fun w w'=>Below w.heap.size w w') (fun _=>none) P L.toArray (fun i _ v w=>rel ps i v w) w0 a0 k l
 | [],_,_,_=>trivial
 | o :: l,k,hl,h=>by
  have h0:(L.take n)[k]? = some o:=by simpa using (hl 0).symm
  obtain⟨hkn,hLo⟩:=fC h0;have hkp:k<ps.length:=by omega
  rw[List.drop_eq_getElem_cons hkp]at h;refine ⟨fun vs w hb hE=>?_,Users.rg hlk hnp l (k+1) (fun j=>by have:=hl (j+1);simpa [Nat.add_assoc,Nat.add_comm 1 j] using this) ?_⟩
  · have h1:=List.all_eq_true.1 hlk k (List.mem_range.2 hkn);have Rt:L.toArray[k]? = some o:=by simpa using hLo
    simp only[Rt,Bool.and_eq_true]at h1
    have hu:=h.1 vs w hb fun j hj=>by
     obtain⟨e,he,t_⟩:=List.any_eq_true.1 hj;simp only[Bool.and_eq_true,beq_iff_eq]at t_;have:=RS.iH _ hE e he t_.1
     rwa [t_.2]at this
    have hfr:seen L.toArray vs k a0=aQ vs 0 ((L.take k).map (·.dst)) a0:=dK vs _ 0 a0;rw [hfr];refine sW (ops:=#[]) (by simpa using h1.1.1) ?_;have hq:ps[k]=ps.getD k jJ:=by simp[List.getD_eq_getElem?_getD,hkp]
    rw[hq]at hu;exact hu
  · have h2:=h.2
    have e1:(L.take k).map (·.dst)++[o.dst]=(L.take (k+1)).map (·.dst):=by
     rw[List.take_add_one,hLo];simp
    rw[e1]at h2;exact h2
theorem dJ {P:Program} {l:List Oper} {Q:Exit->Act->World->Prop} {a0:Act} {w0:World} (ps:List (Value->World->Prop)) (n sz:Nat) (hnp:ps.length=n) (hsz:a0.tmps.size=sz)
 (hB:(nH l.toArray sz&&iD l.toArray n&&(decide (l.length<=n)||(Region.sinkB .any l.toArray n&&Region.chainB .any l.toArray n))&&decide (n<=l.length)&&Region.seqB .any l.toArray (l.length-n) n ((List.range l.length).map fun i=>decide (i<n)).toArray)=true)
 (hst:bV ps) (hsteps:Users P ps w0 a0 [] (l.take n) ps)
 (hfin:∀vs w',Below w0.heap.size w0 w'->cZ vs w' 0 ps->wpList P l.toArray Q (l.drop n) (aQ vs 0 ((l.take n).map (·.dst)) a0) w'):wpAny P .any l.toArray Q l.toArray.size (Array.replicate l.toArray.size false) a0 { w0 with drawn:=w0.drawn+1 }:=by
 subst hnp hsz;have hlk:iD l.toArray ps.length=true:=by simp only[Bool.and_eq_true]at hB;exact hB.1.1.1.2
 replace hB:(nH l.toArray a0.tmps.size&&mQ l.toArray ps.length&&(decide (l.length<=ps.length)||(Region.sinkB .any l.toArray ps.length&&Region.chainB .any l.toArray ps.length))&&decide (ps.length<=l.length)&&Region.seqB .any l.toArray (l.length-ps.length) ps.length ((List.range l.length).map fun i=>decide (i<ps.length)).toArray)=true:=by
  simp only[Bool.and_eq_true]at hB ⊢;exact ⟨⟨⟨⟨hB.1.1.1.1,Dc hlk⟩,hB.1.1.2⟩,hB.1.2⟩,hB.2⟩
 refine RS.eu YX (fun _=>none) ps.length (fun i _ v w=>rel ps i v w) hB (fun _ _ _ _ h=>by cases h) (fun i _ v w w' h hb=>bV.get ps i hst v w w' h hb) (Users.rg hlk (Nat.le_refl _) (l.take ps.length) 0 (fun j=>by simp) hsteps) fun vs w' hb hR=>by rw[dK];exact hfin vs w' hb (ig ps 0 fun i hi=>by rw[Nat.zero_add];exact hR i hi)
theorem aA {P:Program} {id:Nat} {l:List Oper} {Q:Exit->Act->World->Prop} {a0:Act} {w0:World} (ps:List (Value->World->Prop)) (n sz:Nat) (hm:P.follows .mixedOrders=true) (hnp:ps.length=n) (hsz:a0.tmps.size=sz)
 (hB:(nH l.toArray sz&&iD l.toArray n&&(decide (l.length<=n)||(Region.sinkB .any l.toArray n&&Region.chainB .any l.toArray n))&&decide (n<=l.length)&&Region.seqB .any l.toArray (l.length-n) n ((List.range l.length).map fun i=>decide (i<n)).toArray)=true)
 (hst:bV ps) (hsteps:Users P ps w0 a0 [] (l.take n) ps)
 (hfin:∀vs w',Below w0.heap.size w0 w'->cZ vs w' 0 ps->wpList P l.toArray Q (l.drop n) (aQ vs 0 ((l.take n).map (·.dst)) a0) w'):(Code.region id l.toArray true).wp P Q a0 w0 :=
 wp_region_any hm (dJ ps n sz hnp hsz hB hst hsteps hfin)
def cO (e:TypeId) (size B cap n:Nat) (flat:List Value):Value->World->Prop:=fun v w =>
 ∃g cells,v=.slice (some ⟨g,0,none⟩) n cap/\B<=g/\n<=cap/\Bx w g e cells/\cells.size=cap*size/\cells.toList.take (n*size)=flat
theorem aS (e:TypeId) (size B cap n:Nat) (flat:List Value):eP (cO e size B cap n flat):=fun v w w' ⟨g,cells,h1,h2,h3,h4,h5,h6⟩ h=>⟨g,cells,h1,h2,h3,h4.call h,h5,h6⟩
def TM (e:TypeId) (size B n:Nat) (flat:List Value):Value->World->Prop:=fun v w=>∃cap,cO e size B cap n flat v w/\cap<=maxLen
theorem ML (e:TypeId) (size B n:Nat) (flat:List Value):eP (TM e size B n flat):=fun v w w' ⟨cap,h,hm⟩ hb=>⟨cap,aS e size B cap n flat v w w' h hb,hm⟩
theorem Bx.setCells {g:Nat} {t:TypeId}:∀(vs:List Value) (k:Nat) (w:World) (cs:Array Value),Bx w g t cs->k+vs.length<=cs.size ->
 ∃cs',Bx (w.setCells g k vs) g t cs'/\cs'.size=cs.size/\cs'.toList.take (k+vs.length)=cs.toList.take k++vs
 | [],k,w,cs,h,_=>⟨cs,h,rfl,by simp⟩
 | v :: r,k,w,cs,h,hk=>by
  simp only[List.length_cons]at hk;obtain ⟨cs',h1,h2,h3⟩:=Bx.setCells r (k+1) _ _ (h.set k v) (by simp;omega);refine ⟨cs',h1,by simpa using h2,?_⟩;rw [List.length_cons,show k+(r.length+1)=k+1+r.length by omega,h3]
  have:(cs.setIfInBounds k v).toList.take (k+1)=cs.toList.take k++[v]:=by
   rw[Array.toList_setIfInBounds,List.take_add_one,List.take_set_of_le (Nat.le_refl _)];simp [show k<cs.size by omega]
  rw[this];simp
theorem pX {P:Program} (w:World) (t ty e:TypeId) (i:TypeInfo) (z:Value) (size B cap n m:Nat) (flat news:List Value) (v x:Value) (ht:P.underlying t=some (.slice e)) (hi:P.info? e=some i) (hz:i.zero=some z)
 (hsize:i.size=size) (hzs:z.cells.size=size) (hv:cO e size B cap n flat v w) (hB:B<=w.heap.size) (hs:Src P size t x m news w) (hcm:cap<=maxLen) (h63:n+m<=maxLen) (hb:(n+m)*i.bytes<=140737488355328) :
 ∃v' w' cap',(Builtin.append_ #[t,t] ty #[v,x]).run P w=.ok v' w'/\Below B w w'/\(n=cap->Below w.heap.size w w')/\cO e size B cap' (n+m) (flat++news) v' w'/\cap'<=maxLen:=by
 obtain⟨g,cells,rfl,hg,hnc,hbx,hcs,hfl⟩:=hv;subst hsize;have hnl:=hs.newsLen;by_cases hroom:n+m<=cap
 · have hle:n*i.size+news.length<=cells.size:=by rw[hnl,hcs,←Nat.add_mul];exact Nat.mul_le_mul_right _ hroom
   have hrun:=run_append_room_src (P:=P) w t t ty e i ht hi g 0 n cap x m news hs hroom (fun j hj=>by
    rw[hbx.cell (0+n*i.size+j) (v:=cells[0+n*i.size+j]'(by omega)) (by simp)];rfl) (fun j _=>hbx.frozen _)
   obtain⟨cs',h1,h2,h3⟩:=hbx.setCells news (0+n*i.size) w cells (by omega);refine ⟨_,_,cap,hrun,?_,fun h=>?_,⟨g,cs',rfl,hg,hroom,h1,by rw[h2,hcs],?_⟩,hcm⟩
   · clear hrun h1 h2 h3 hs;generalize 0+n*i.size=o
     have:∀(vs:List Value) (o:Nat) (w':World),Below B w w'->Below B w (w'.setCells g o vs):=by
      intro vs
      induction vs with
      | nil=>intro o w' h;exact h
      | cons a l ih=>intro o w' h;exact ih _ _ (h.setCell hg _)
     exact this news o w (Below.refl _ _)
   · obtain rfl:m=0:=by omega
     obtain rfl:news=[]:=List.eq_nil_of_length_eq_zero (by simpa using hnl);exact Below.refl _ _
   · rw[show (n+m)*i.size=0+n*i.size+news.length by rw[Nat.add_mul,hnl];omega,h3,Nat.zero_add,hfl]
 · have vF:flat.length=n*i.size:=by
    rw[←hfl,List.length_take,Array.length_toList,hcs];exact Nat.min_eq_left (Nat.mul_le_mul_right _ hnc)
   have hold:(Builtin.firstCells i.size n (.slice (some ⟨g,0,none⟩) n cap)).run P w.drew=.ok flat.toArray w.drew :=
    run_firstCells_some w.drew i.size n ⟨g,0,none⟩ n cap flat vF fun j u hu=>by
     have hj:cells[j]? = some u:=by
      rw[←hfl,List.getElem?_take]at hu
      split at hu
      · simpa using hu
      · cases hu
     rw[Addr.add_lit,Nat.zero_add];exact (show Bx w.drew g e cells from hbx).cell j hj
   have hrun:=run_append_grow_src (P:=P) w t t ty e i z ht hi hz (some ⟨g,0,none⟩) n cap flat hold x m news hs (by omega) (by simp only[maxLen]at h63;omega) (growslice_fits (by omega) hb);have hge:=grownCap_ge w (n+m) cap e;refine ⟨_,_,_,hrun,?_,fun _=>?_,⟨w.heap.size,_,rfl,hB,hge,Bx.mk w.drew e _,?_,?_⟩,grownCap_le_maxLen w (n+m) cap e h63⟩
   · exact ((Below.refl B w).drew).alloc hB _
   · exact ((Below.refl w.heap.size w).drew).alloc (Nat.le_refl _) _
   · rw[Array.size_append,List.size_toArray,List.length_append,vF,hnl,size_zeroCells,hzs,←Nat.add_mul,←Nat.add_mul]
     congr 1;omega
   · rw[Array.toList_append,List.take_append_of_le_length (by simp[vF,hnl,Nat.add_mul])];rw [List.take_of_length_le (by simp[vF,hnl,Nat.add_mul])]
theorem gW {P:Program} {w:World} {ops:Array Oper} {rest:List Oper} {o:Oper} {a:Act} {Q:Exit->Act->World->Prop} (hgd:o.guard=none) (s y:Operand) (t e:TypeId) (ho:o.op=.call { callee:=.builtin .append,args:=#[s,y],argTypes:=#[t,t] })
 (i:TypeInfo) (z:Value) (size B cap n m:Nat) (flat news:List Value) (v x:Value) (ht:P.underlying t=some (.slice e)) (hi:P.info? e=some i) (hz:i.zero=some z)
 (hsize:i.size=size) (hzs:z.cells.size=size) (hes:a.eval s=v) (EC:a.eval y=x) (hv:cO e size B cap n flat v w) (hB:B<=w.heap.size) (hs:Src P size t x m news w) (hcm:cap<=maxLen) (h63:n+m<=maxLen) (hb:(n+m)*i.bytes<=140737488355328)
 (h:∀v' w' cap',Below B w w'->(n=cap->Below w.heap.size w w')->cO e size B cap' (n+m) (flat++news) v' w'->cap'<=maxLen->wpList P ops Q rest (a.put o.dst v') w'):wpList P ops Q (o :: rest) a w:=by
 obtain⟨v',w',cap',hr,h1,h2,h3,h4⟩:=pX (P:=P) w t o.type e i z size B cap n m flat news v x ht hi hz hsize hzs hv hB hs hcm h63 hb;refine wpList_plain hgd fun _ hK=>?_
 unfold Oper.wp execOp
 simp only[ho,resolve,invoke,builtin,Sem.run_bind,Sem.run_pure,Result.andThen_ok,List.map_toArray,List.map_cons,List.map_nil,hes,EC,hr];exact hK _ _ (h v' w' cap' h1 h2 h3 h4)
section
variable {α:Type} {size:Nat} {f:α->List Value}
theorem je (hf:∀c,(f c).length=size):∀(p:List α),(p.flatMap f).length=p.length*size
 | []=>by simp
 | c :: p=>by rw[List.flatMap_cons,List.length_append,hf,je hf p,List.length_cons,Nat.succ_mul];omega
theorem flat_get (hf:∀c,(f c).length=size):∀(p:List α) (i j:Nat) (c:α),p[i]? = some c->j<size->(p.flatMap f)[i*size+j]? = (f c)[j]?
 | [],_,_,_,h,_=>by simp at h
 | x :: p,0,j,c,h,hj=>by
  obtain rfl:x=c:=by simpa using h
  rw[List.flatMap_cons,Nat.zero_mul,Nat.zero_add,List.getElem?_append_left (by rw[hf];exact hj)]
 | x :: p,i+1,j,c,h,hj=>by
  rw[List.flatMap_cons,List.getElem?_append_right (by rw[hf,Nat.succ_mul];omega),hf,show (i+1)*size+j-size=i*size+j by rw[Nat.succ_mul];omega];exact flat_get hf p i j c (by simpa using h) hj
theorem Hu (hf:∀c,(f c).length=size):∀(p:List α) (k:Nat) (u:Value),(p.flatMap f)[k]? = some u->∃i c j,p[i]? = some c/\(f c)[j]? = some u/\k=i*size+j
 | [],_,_,h=>by simp at h
 | x :: p,k,u,h=>by
  rw[List.flatMap_cons]at h;by_cases hk:k<size
  · rw[List.getElem?_append_left (by rw[hf];exact hk)]at h;exact ⟨0,x,k,rfl,h,by simp⟩
  · rw[List.getElem?_append_right (by rw[hf];omega),hf]at h;obtain ⟨i,c,j,h1,h2,h3⟩:=Hu hf p _ u h;exact ⟨i+1,c,j,by simpa using h1,h2,by rw[Nat.succ_mul];omega⟩
theorem At.src {P:Program} {w:World} {B:Nat} {A:Option Addr} {p:List α} {t e:TypeId} (hf:∀c,(f c).length=size) (h1:∀c,∀u∈f c,u.oneCell'=true) (ht:P.underlying t=some (.slice e)) (h:At size f w B A p) (cap:Nat):Src P size t (.slice A p.length cap) p.length (p.flatMap f) w:=by
 cases p with
 | nil =>
  cases A with
  | none=>exact Src.ofNil w ht cap
  | some a=>exact Src.ofSlice w ht a 0 cap [] (by simp) (fun j u hu=>by simp at hu) (fun u hu=>by cases hu)
 | cons c p =>
  obtain⟨b,off,rfl,hb,hc⟩:=h (by simp);refine Src.ofSlice w ht ⟨b,off,none⟩ _ cap _ (je hf _) (fun k u hu=>?_) fun u hu=>?_
  · obtain⟨i,d,j,h2,h3,rfl⟩:=Hu hf _ k u hu;rw [Addr.add_lit,←Nat.add_assoc];exact hc i d h2 j u h3
  · obtain⟨d,_,h3⟩:=List.mem_flatMap.1 hu;exact h1 d u h3
theorem cO.src {P:Program} {w:World} {e t:TypeId} {B cap n:Nat} {flat:List Value} {v:Value} (h1:∀u∈flat,u.oneCell'=true) (ht:P.underlying t=some (.slice e)) (h:cO e size B cap n flat v w):Src P size t v n flat w:=by
 obtain⟨g,cells,rfl,hg,hnc,hbx,hcs,hfl⟩:=h;refine Src.ofSlice w ht ⟨g,0,none⟩ n cap flat ?_ (fun j u hu=>?_) h1
 · rw[←hfl,List.length_take,Array.length_toList,hcs];exact Nat.min_eq_left (Nat.mul_le_mul_right _ hnc)
 · have hj:cells[j]? = some u:=by
    rw[←hfl,List.getElem?_take]at hu
    split at hu
    · simpa using hu
    · cases hu
   rw[Addr.add_lit,Nat.zero_add];exact hbx.cell j hj
theorem cO.at {w:World} {e:TypeId} {B cap:Nat} {p:List α} {v:Value} (hf:∀c,(f c).length=size) (h:cO e size B cap p.length (p.flatMap f) v w) :
 ∃A,v=.slice A p.length cap/\At size f w w.heap.size A p/\p.length<=cap:=by
 obtain⟨g,cells,rfl,hg,hnc,hbx,hcs,hfl⟩:=h;refine ⟨_,rfl,fun _=>⟨g,0,rfl,hbx.lt,fun i c hi j u hj=>?_⟩,hnc⟩;have hjs:j<size:=by have:=(List.getElem?_eq_some_iff.1 hj).1;rwa [hf]at this
 have h2:=flat_get hf p i j c hi hjs;rw [hj,←hfl,List.getElem?_take]at h2
 split at h2
 · rw[Nat.zero_add];exact hbx.cell _ (by simpa using h2)
 · cases h2
end
theorem jk (l:List Int) (A:Option Addr) (cap:Nat) (w:World) (hA:At 1 aO w w.heap.size A l) (hn:l.length<=cap) (hl:l.length<=1000000) :
 Calls Tryz.prog 138 #[.slice A l.length cap] w fun e w'=>e=.returned (.slice A (Ig.bf l).length cap)/\w=w':=by
 go_enter Tryz.func138,Tryz.ntmps138
 go_wp2
 go_loop [0] (fun s=>∃k:Nat,k<=l.length/\s=.slice A k cap/\Hid (Ig.bf (l.take k)=Ig.bf l)) (fun s=>match s with|.slice _ k _=>k|_=>0)
 case atStart=>exact⟨l.length,Nat.le_refl _,rfl,Lib.hid (by rw[List.take_length])⟩
 case round =>
  obtain⟨k,hk,rfl,ht⟩:=hrel;by_cases h0:0<k
  · obtain⟨b,off,rfl,hbB,hcell⟩:=hA (by omega);obtain ⟨k,rfl⟩:∃j,k=j+1:=⟨k-1,by omega⟩
    have hck:l[k]? = some l[k]:=List.getElem?_eq_getElem (by omega)
    have c0:w.cell? ⟨b,off+k,none⟩=some (.int .i64 l[k]):=by
     have:=hcell k _ hck 0 _ rfl;simpa using this
    have hsn:=List.take_succ_eq_append_getElem (show k<l.length by omega);by_cases hz:l[k]=0
    · have t1:(l[k]==0)=true:=by simp[hz]
      have hnext:=Lib.hid (show Ig.bf (l.take k)=Ig.bf l by rw[←ht.out,hsn,hz,Ig.fB]);clear hck hcell hsn hz ht;generalize l[k]=g at *;go_wp2;exact ⟨⟨k,by omega,rfl,hnext⟩,Nat.lt_succ_self k⟩
    · have t1:(l[k]==0)=false:=by simp[hz]
      have hfin:Kp ((Ig.bf l).length=k+1):=⟨by rw[←ht.out,hsn,Ig.jR hz];simp;omega⟩
      clear hck hcell hsn hz ht;generalize l[k]=g at *;go_wp2;go_ret;exact ⟨by rw[hfin.out];rfl,rfl⟩
  · obtain rfl:k=0:=by omega
    have hfin:Kp ((Ig.bf l).length=0):=⟨by rw[←ht.out];rfl⟩
    clear ht;go_wp2;go_ret;exact ⟨by rw[hfin.out];rfl,rfl⟩
theorem jQ (l:List Int):l.take (Ig.bf l).length=Ig.bf l:=by
 have h:∀n (l:List Int),l.length=n->Ig.bf l <+: l:=by
  intro n
  induction n with
  | zero=>intro l h;rw[List.length_eq_zero_iff.1 h];exact List.prefix_refl _
  | succ n ih =>
   intro l h
   rcases Ig.mD l with rfl|⟨m,g,rfl⟩
   · exact List.prefix_refl _
   · by_cases hg:g=0
     · subst hg;rw [Ig.fB];exact (ih m (by simpa using h)).trans (List.prefix_append _ _)
     · rw[Ig.jR hg];exact List.prefix_refl _
 exact (List.prefix_iff_eq_take.1 (h _ l rfl)).symm
theorem aK {w:World} {ops:Array Oper} {rest:List Oper} {o:Oper} {a:Act} {Q:Exit->Act->World->Prop} (hgd:o.guard=none) (s y:Operand) (ho:o.op=.call { callee:=.builtin .append,args:=#[s,y],argTypes:=#[127,127] })
 (B cap n m:Nat) (flat news:List Value) (v x:Value) (hes:a.eval s=v) (EC:a.eval y=x) (hv:cO 3 1 B cap n flat v w) (hB:B<=w.heap.size) (hs:Src Tryz.prog 1 127 x m news w) (hcm:cap<=maxLen) (h63:n+m<=2000000)
 (h:∀v' w' cap',Below B w w'->(n=cap->Below w.heap.size w w')->cO 3 1 B cap' (n+m) (flat++news) v' w'->cap'<=maxLen->wpList Tryz.prog ops Q rest (a.put o.dst v') w'):wpList Tryz.prog ops Q (o :: rest) a w:=by
 obtain⟨i,z,hi,hz,hs1,hz1,hby⟩:=wV;exact gW hgd s y _ _ ho i z 1 B cap n m flat news v x Tryz.underlying127 hi hz hs1 hz1 hes EC hv hB hs hcm (by unfold maxLen;omega) (by rw[hby];omega) h
theorem fV (W:World) (x:Int):Src Tryz.prog 1 127 (.slice (some ⟨W.heap.size,0,none⟩) 1 1) 1 [.int .i64 x] (W.alloc (.cells #[.int .i64 x] 3)) :=
 cO.src (B:=W.heap.size) (cap:=1) (e:=3) (fun u hu=>by simp at hu;subst hu;rfl) Tryz.underlying127 ⟨W.heap.size,_,rfl,Nat.le_refl _,Nat.le_refl _,Bx.mk _ _ _,rfl,rfl⟩
structure aI (W:World) (a:Nat) (v:Value):Prop where
 out:∃(A:Option Addr) (cap:Nat),v=.slice A (Ig.grp a).length cap/\At 1 aO W W.heap.size A (Ig.grp a)/\(Ig.grp a).length<=cap/\cap<=maxLen
theorem aI.call {W W':World} {a:Nat} {v:Value} (h:aI W a v) (hb:Below W.heap.size W W'):aI W' a v:=by
 obtain⟨A,cap,h1,h2,h3,h4⟩:=h.out;exact ⟨A,cap,h1,(h2.below hb).more hb.size,h3,h4⟩
theorem Am (l:List Int) (A:Option Addr) (cap i:Nat) (w:World) (hA:At 1 aO w w.heap.size A l) (hn:l.length<=cap) (hl:l.length<=1000000) (hi:i<=1000000) :
 Calls Tryz.prog 144 #[.slice A l.length cap,.int .i64 i] w fun e w'=>e=.returned (.int .i64 (Ig.bW l i))/\w=w':=by
 by_cases hlt:i<l.length
 · obtain⟨b,off,rfl,hbB,hcell⟩:=hA (by omega);have hck:l[i]? = some l[i]:=List.getElem?_eq_getElem hlt
   have c0:w.cell? ⟨b,off+i,none⟩=some (.int .i64 l[i]):=by
    have:=hcell i _ hck 0 _ rfl;simpa using this
   have hfin:Kp (Ig.bW l i=l[i]):=⟨Ig.dS hlt⟩
   clear hck hcell;generalize l[i]=g at *
   go_enter Tryz.func144,Tryz.ntmps144
   go_wp2;go_ret;exact ⟨cu hfin.out.symm,rfl⟩
 · have hfin:Kp (Ig.bW l i=0):=⟨Ig.jF (by omega)⟩
   go_enter Tryz.func144,Tryz.ntmps144
   go_wp2;go_ret;exact ⟨cu hfin.out.symm,rfl⟩
structure Two (B:Nat) (W:World) (b1 b2:Nat) (l m:List Int):Prop where
 out:∃A1 c1 A2 c2,Bx W b1 127 #[.slice A1 l.length c1]/\Bx W b2 127 #[.slice A2 m.length c2]/\At 1 aO W B A1 l/\At 1 aO W B A2 m/\l.length<=c1/\m.length<=c2
 ZQ:b1<B
 ZP:b2<B
 le:B<=W.heap.size
theorem Two.call {B:Nat} {W W':World} {b1 b2:Nat} {l m:List Int} (h:Two B W b1 b2 l m) (hb:Below B W W'):Two B W' b1 b2 l m:=by
 obtain⟨A1,c1,A2,c2,h1,h2,h3,h4,h5,h6⟩:=h.out;exact ⟨⟨A1,c1,A2,c2,h1.below hb h.ZQ,h2.below hb h.ZP,h3.below hb,h4.below hb,h5,h6⟩,h.ZQ,h.ZP,Nat.le_trans h.le hb.size⟩
theorem Ju (B:Nat) (l m:List Int) (b1 b2 i:Nat) (w:World) (h:Two B w b1 b2 l m) (hl:l.length<=100000) (hm:m.length<=100000) (gl:Ig.Gr l) (gm:Ig.Gr m) (hi:i<=1000000) :
 aW 143 #[.int .i64 i,.pointer (some ⟨b1,0,none⟩),.pointer (some ⟨b2,0,none⟩)] w (.int .i64 (Ig.bW l i+Ig.bW m i)):=by
 obtain⟨A1,c1,A2,c2,B1,B2,h3,h4,h5,h6⟩:=h.out;replace h3:=h3.more h.le;replace h4:=h4.more h.le;have x1:=Ig.fK gl i;have x2:=Ig.fK gm i;have k1:=fun d os=>Am l A1 c1 i (Sort.grow (redrawn w d) os) ((h3.below (below_regrown w d os)).more (below_regrown w d os).size) h5 (by omega) hi
 have k2:=fun d os=>Am m A2 c2 i (Sort.grow (redrawn w d) os) ((h4.below (below_regrown w d os)).more (below_regrown w d os).size) h6 (by omega) hi
 have g1:=fun d os=>(B1.again d os).cell 0 rfl
 have g2:=fun d os=>(B2.again d os).cell 0 rfl
 clear h h3 h4 B1 B2;generalize Ig.bW l i=p at *;generalize Ig.bW m i=q at *
 go_enter Tryz.func143,Tryz.ntmps143
 go_wp2;refine wp_region_quiet_below (by kernel_rfl) (by kernel_rfl) ?_
 repeat (go_big_quiet_step (first
  | (go_at_call 144;with_reducible exact Calls.regrown_of (aB (k1 _ _)))
  | (go_at_call 144;with_reducible exact Calls.regrown_of (aB (k2 _ _)))))
 refine wpQuiet_nil ?_;rintro _ ⟨z,rfl⟩;go_wp2;go_ret;exact ⟨rfl,below_regrown w z.d z.os⟩
theorem GI (B:Nat) (l m:List Int) (b1 b2 i:Nat) (w:World) (h:Two B w b1 b2 l m) (hl:l.length<=100000) (hm:m.length<=100000) (gl:Ig.Gr l) (gm:Ig.Gr m) (hi:i<=1000000) :
 aW 145 #[.int .i64 i,.pointer (some ⟨b1,0,none⟩),.pointer (some ⟨b2,0,none⟩)] w (.int .i64 (Ig.bW l i-Ig.bW m i)):=by
 obtain⟨A1,c1,A2,c2,B1,B2,h3,h4,h5,h6⟩:=h.out;replace h3:=h3.more h.le;replace h4:=h4.more h.le;have x1:=Ig.fK gl i;have x2:=Ig.fK gm i;have k1:=fun d os=>Am l A1 c1 i (Sort.grow (redrawn w d) os) ((h3.below (below_regrown w d os)).more (below_regrown w d os).size) h5 (by omega) hi
 have k2:=fun d os=>Am m A2 c2 i (Sort.grow (redrawn w d) os) ((h4.below (below_regrown w d os)).more (below_regrown w d os).size) h6 (by omega) hi
 have g1:=fun d os=>(B1.again d os).cell 0 rfl
 have g2:=fun d os=>(B2.again d os).cell 0 rfl
 clear h h3 h4 B1 B2;generalize Ig.bW l i=p at *;generalize Ig.bW m i=q at *
 go_enter Tryz.func145,Tryz.ntmps145
 go_wp2;refine wp_region_quiet_below (by kernel_rfl) (by kernel_rfl) ?_
 repeat (go_big_quiet_step (first
  | (go_at_call 144;with_reducible exact Calls.regrown_of (aB (k1 _ _)))
  | (go_at_call 144;with_reducible exact Calls.regrown_of (aB (k2 _ _)))))
 refine wpQuiet_nil ?_;rintro _ ⟨z,rfl⟩;go_wp2;go_ret;exact ⟨rfl,below_regrown w z.d z.os⟩
structure DK (B:Nat) (W:World) (b1 b2:Nat) (l:List Int) (n:Int):Prop where
 out:∃A1 c1,Bx W b1 127 #[.slice A1 l.length c1]/\Bx W b2 3 #[.int .i64 n]/\At 1 aO W B A1 l/\l.length<=c1
 ZQ:b1<B
 ZP:b2<B
 le:B<=W.heap.size
theorem DK.call {B:Nat} {W W':World} {b1 b2:Nat} {l:List Int} {n:Int} (h:DK B W b1 b2 l n) (hb:Below B W W'):DK B W' b1 b2 l n:=by
 obtain⟨A1,c1,h1,h2,h3,h5⟩:=h.out;exact ⟨⟨A1,c1,h1.below hb h.ZQ,h2.below hb h.ZP,h3.below hb,h5⟩,h.ZQ,h.ZP,Nat.le_trans h.le hb.size⟩
theorem Tm (B:Nat) (l:List Int) (n:Int) (b1 b2 i:Nat) (w:World) (h:DK B w b1 b2 l n) (hl:l.length<=100000) (gl:Ig.Gr l) (n0:0<=n) (n1:n<=10000) (hi:i<=1000000) :
 aW 181 #[.int .i64 i,.pointer (some ⟨b1,0,none⟩),.pointer (some ⟨b2,0,none⟩)] w (.int .i64 (Ig.bW l i*n)):=by
 obtain⟨A1,c1,B1,B2,h3,h5⟩:=h.out;replace h3:=h3.more h.le;have x1:=Ig.fK gl i;have k1:=fun d os=>Am l A1 c1 i (Sort.grow (redrawn w d) os) ((h3.below (below_regrown w d os)).more (below_regrown w d os).size) h5 (by omega) hi
 have g1:=fun d os=>(B1.again d os).cell 0 rfl
 have g2:=fun d os=>(B2.again d os).cell 0 rfl
 clear h h3 B1 B2;generalize Ig.bW l i=p at *
 have hm:0<=p*n/\p*n<=100000000:=by
  refine⟨Int.mul_nonneg x1.1 n0,?_⟩;have:=Int.mul_le_mul (show p<=10000 by omega) n1 n0 (by omega);omega
 obtain⟨hm0,hm1⟩:=hm
 go_enter Tryz.func181,Tryz.ntmps181
 go_wp2;refine wp_region_quiet_below (by kernel_rfl) (by kernel_rfl) ?_
 repeat (go_big_quiet_step (first
  | (go_at_call 144;with_reducible exact Calls.regrown_of (aB (k1 _ _)))))
 refine wpQuiet_nil ?_;rintro _ ⟨z,rfl⟩;have hw:IntKind.i64.wrap (p*n)=p*n:=IntWalk.i64_in _ (by omega);go_wp2;go_ret;exact ⟨by simp[hw],below_regrown w z.d z.os⟩
theorem EH (n:Nat) (d:Nat->Int) (b1 b2:Nat) (I:World->Prop) (w:World) (hI:∀W W',I W->Below w.heap.size W W'->I W')
 (hcall:∀(W:World) (i:Nat),I W->i<=1000000->aW 143 #[.int .i64 i,.pointer (some ⟨b1,0,none⟩),.pointer (some ⟨b2,0,none⟩)] W (.int .i64 (d i)))
 (hd:∀i,-9999<=d i/\d i<=100000000) (h0:∀i,n<=i->d i=0) (hpos:0<=Ig.dI d n) (hn:n<=100000) (OQ:I w) :
 Calls Tryz.prog 142 #[.int .i64 n,.int .i64 0,.func (.func 143) #[] #[.pointer (some ⟨b1,0,none⟩),.pointer (some ⟨b2,0,none⟩)]] w fun e w' =>
  ∃(A:Option Addr) (out:List Int) (cap:Nat),e=.returned (.slice A out.length cap)/\At 1 aO w' w'.heap.size A out/\out.length<=cap/\cap<=maxLen/\out.length<=n+2/\Kp (Ig.bf out=Ig.grp (Ig.dI d n).toNat)/\Below w.heap.size w w':=by
 obtain⟨ti,z,hi,hz,hs1,hz1,hby⟩:=wV;have hmk:=run_makeSlice (P:=Tryz.prog) (w:=w) 127 3 ti z Tryz.underlying127 hi hz .i64 .i64 0 ((n:Int)+1) (Int.le_refl _) (by omega) (by rw[hs1];omega) (by rw[hby];omega) (by omega);rw [hs1,Nat.mul_one,show ((n:Int)+1).toNat=n+1 by omega,show (0:Int).toNat=0 from rfl]at hmk;have hcs:(madeCells z.cells (n+1)).size=n+1:=by rw[size_madeCells]
 generalize madeCells z.cells (n+1)=cs at *;clear hi hz hs1 hz1 hby
 have hrow:cO 3 1 w.heap.size (n+1) 0 [] (.slice (some ⟨w.heap.size,0,none⟩) 0 (n+1)) (w.alloc (.cells cs 3)) :=
  ⟨w.heap.size,_,rfl,Nat.le_refl _,Nat.zero_le _,Bx.mk _ _ _,by omega,rfl⟩
 have hI1:=hI w _ OQ (au w (.cells cs 3));have hb1:=au w (.cells cs 3)
 go_enter Tryz.func142,Tryz.ntmps142
 go_wp2;clear hmk OQ;generalize (w.alloc (.cells cs 3))=w1 at *
 go_loopw [1,7,8,9] (fun s1 s7 s8 s9 wr=>∃(i cap:Nat) (out:List Int) (carry:Int),s8=.int .i64 i/\s1=.int .i64 carry/\cO 3 1 w.heap.size cap out.length (out.flatMap aO) s7 wr/\cap<=maxLen/\i<=n+2/\ -1<=carry/\carry<=20000/\(i=n+1->carry<=2)/\(i=n+2->carry=0)/\(n<=i->0<=carry)/\Kp (out.length=i)/\out.length<=n+2/\Kp (Ig.gG d i out carry)/\I wr/\Below w.heap.size w wr)
  (fun s1 s7 s8 s9 _=>(n+3-(intOf s8).toNat))
 case atStart=>exact⟨0,n+1,[],0,rfl,rfl,hrow,by unfold maxLen;omega,by omega,by omega,by omega,by omega,by omega,by omega,⟨rfl⟩,by simp,⟨Ig.jX d⟩,hI1,hb1⟩
 case round =>
  clear hrow hI1 hb1;obtain ⟨i,cap,out,carry,rfl,rfl,hrow,hcm,hi2,hc1,hc2,hc3,hc4,hc5,hol,Ey,hf,dP,hb⟩:=hrel;by_cases hstop:n<=i/\carry=0
  · obtain⟨hni,rfl⟩:=hstop;have t0:decide ((i:Int)<(n:Int))=false:=by simp;omega
    have hnl:¬i<n:=by omega
    have hfin:Kp (Ig.bf out=Ig.grp (Ig.dI d n).toNat):=⟨by rw[Ig.qU hf.out,Ig.mZ h0 hni]⟩
    obtain⟨A2,rfl,hA2,hlen2⟩:=cO.at (f:=aO) (fun _=>rfl) hrow;clear hf hcall hI;go_wp2;go_ret;exact ⟨A2,out,cap,rfl,hA2,hlen2,hcm,Ey,hfin,hb⟩
  · have hdi:=hd i;have hz0:n<=i->d i=0:=h0 i;have hrun:(i<n∨(¬i<n/\carry≠0)):=by omega
    have hnext:=Ig.lW hf.out;have hcp:n<=i+1->0<=(d i+carry) / 10000:=fun h=>Ig.mX hnext (by rw[Ig.mZ h0 h];exact hpos)
    have hns:i≠n+2:=by omega
    have hbig:i<=1000000:=by omega
    have hob:out.length+1<=1000000:=by omega
    have hc:=hcall wr i dP hbig;clear hcall hstop hf;generalize hdd:d i=di at *;have hi9:out.length<=i:=by have:=hol.out;omega
    have GX:Kp (out.length=i):=hol;clear hol
    rcases hrun with hlt|⟨hge,hne⟩
    · have t0:decide ((i:Int)<(n:Int))=true:=by simp;omega
      rcases (show (di+carry<0)∨(0<=di+carry/\di+carry<10000)∨10000<=di+carry by omega) with hs|⟨hs,hs'⟩|hs
      · have t1:decide (di+carry<0)=true:=by simp;omega
        go_wp2_with fail;refine hc.mono ?_;rintro _ w2 ⟨rfl,hb2⟩;replace hrow:=aS _ _ _ _ _ _ _ _ _ hrow hb2;replace dP:=hI _ _ dP (hb2.mono hb.size);replace hb:=aj hb hb2;clear hc hb2
        go_wp2_with (at_builtin;refine aK rfl (.tmp 37) (.tmp 39) rfl w.heap.size cap out.length 1 (out.flatMap aO) [.int .i64 (di+carry+10000)] _ _ rfl rfl (aS _ _ _ _ _ _ _ _ _ hrow (au w2 _)) (by rw[ah];have:=hb.size;omega) (fV w2 _) hcm (by omega) ?_;intro v' w' cap' e1 e2 e3 e4)
        replace dP:=hI _ _ dP (((au w2 (.cells #[.int .i64 (di+carry+10000)] 3))).mono hb.size);replace dP:=hI _ _ dP e1;have aY:=(bNew hb (.cells #[.int .i64 (di+carry+10000)] 3)).trans e1;refine ⟨⟨i+1,cap',out++[di+carry+10000],(-1),by go_num,rfl,by simpa [aO] using e3,e4,by omega,by omega,by omega,by omega,by omega,?_,⟨by simp;exact GX.out⟩,by simp;omega,⟨?_⟩,dP,aY⟩,by simp[intOf];omega⟩
        · intro h;have:=hcp h;omega
        · have h1:(di+carry) % 10000=di+carry+10000:=by omega
          have h2:(di+carry) / 10000=(-1):=by omega
          rw[h1,h2]at hnext;exact hnext
      · have t1:decide (di+carry<0)=false:=by simp;omega
        have t2:decide (di+carry ≥ 10000)=false:=by simp;omega
        go_wp2_with fail;refine hc.mono ?_;rintro _ w2 ⟨rfl,hb2⟩;replace hrow:=aS _ _ _ _ _ _ _ _ _ hrow hb2;replace dP:=hI _ _ dP (hb2.mono hb.size);replace hb:=aj hb hb2;clear hc hb2
        go_wp2_with (at_builtin;refine aK rfl (.tmp 37) (.tmp 39) rfl w.heap.size cap out.length 1 (out.flatMap aO) [.int .i64 (di+carry)] _ _ rfl rfl (aS _ _ _ _ _ _ _ _ _ hrow (au w2 _)) (by rw[ah];have:=hb.size;omega) (fV w2 _) hcm (by omega) ?_;intro v' w' cap' e1 e2 e3 e4)
        replace dP:=hI _ _ dP (((au w2 (.cells #[.int .i64 (di+carry)] 3))).mono hb.size);replace dP:=hI _ _ dP e1;have aY:=(bNew hb (.cells #[.int .i64 (di+carry)] 3)).trans e1;refine ⟨⟨i+1,cap',out++[di+carry],0,by go_num,rfl,by simpa [aO] using e3,e4,by omega,by omega,by omega,by omega,by omega,?_,⟨by simp;exact GX.out⟩,by simp;omega,⟨?_⟩,dP,aY⟩,by simp[intOf];omega⟩
        · intro h;have:=hcp h;omega
        · have h1:(di+carry) % 10000=di+carry:=by omega
          have h2:(di+carry) / 10000=0:=by omega
          rw[h1,h2]at hnext;exact hnext
      · have t1:decide (di+carry<0)=false:=by simp;omega
        have t2:decide (di+carry ≥ 10000)=true:=by simp;omega
        go_wp2_with fail;refine hc.mono ?_;rintro _ w2 ⟨rfl,hb2⟩;replace hrow:=aS _ _ _ _ _ _ _ _ _ hrow hb2;replace dP:=hI _ _ dP (hb2.mono hb.size);replace hb:=aj hb hb2;clear hc hb2
        go_wp2_with (at_builtin;refine aK rfl (.tmp 37) (.tmp 39) rfl w.heap.size cap out.length 1 (out.flatMap aO) [.int .i64 ((di+carry) % 10000)] _ _ rfl rfl (aS _ _ _ _ _ _ _ _ _ hrow (au w2 _)) (by rw[ah];have:=hb.size;omega) (fV w2 _) hcm (by omega) ?_;intro v' w' cap' e1 e2 e3 e4)
        replace dP:=hI _ _ dP (((au w2 (.cells #[.int .i64 ((di+carry) % 10000)] 3))).mono hb.size);replace dP:=hI _ _ dP e1;have aY:=(bNew hb (.cells #[.int .i64 ((di+carry) % 10000)] 3)).trans e1;refine ⟨⟨i+1,cap',out++[(di+carry) % 10000],((di+carry) / 10000),by go_num,rfl,by simpa [aO] using e3,e4,by omega,by omega,by omega,by omega,by omega,?_,⟨by simp;exact GX.out⟩,by simp;omega,⟨?_⟩,dP,aY⟩,by simp[intOf];omega⟩
        · intro h;have:=hcp h;omega
        · have h1:(di+carry) % 10000=(di+carry) % 10000:=by omega
          have h2:(di+carry) / 10000=((di+carry) / 10000):=by omega
          rw[h1,h2]at hnext;exact hnext
    · have t0:decide ((i:Int)<(n:Int))=false:=by simp;omega
      have t9:(carry != 0)=true:=by simp[hne]
      clear hne
      rcases (show (di+carry<0)∨(0<=di+carry/\di+carry<10000)∨10000<=di+carry by omega) with hs|⟨hs,hs'⟩|hs
      · exfalso
        have x1:=hz0 (by omega);have x2:=hc5 (by omega);omega
      · have t1:decide (di+carry<0)=false:=by simp;omega
        have t2:decide (di+carry ≥ 10000)=false:=by simp;omega
        go_wp2_with fail;refine hc.mono ?_;rintro _ w2 ⟨rfl,hb2⟩;replace hrow:=aS _ _ _ _ _ _ _ _ _ hrow hb2;replace dP:=hI _ _ dP (hb2.mono hb.size);replace hb:=aj hb hb2;clear hc hb2
        go_wp2_with (at_builtin;refine aK rfl (.tmp 37) (.tmp 39) rfl w.heap.size cap out.length 1 (out.flatMap aO) [.int .i64 (di+carry)] _ _ rfl rfl (aS _ _ _ _ _ _ _ _ _ hrow (au w2 _)) (by rw[ah];have:=hb.size;omega) (fV w2 _) hcm (by omega) ?_;intro v' w' cap' e1 e2 e3 e4)
        replace dP:=hI _ _ dP (((au w2 (.cells #[.int .i64 (di+carry)] 3))).mono hb.size);replace dP:=hI _ _ dP e1;have aY:=(bNew hb (.cells #[.int .i64 (di+carry)] 3)).trans e1;refine ⟨⟨i+1,cap',out++[di+carry],0,by go_num,rfl,by simpa [aO] using e3,e4,by omega,by omega,by omega,by omega,by omega,?_,⟨by simp;exact GX.out⟩,by simp;omega,⟨?_⟩,dP,aY⟩,by simp[intOf];omega⟩
        · intro h;have:=hcp h;omega
        · have h1:(di+carry) % 10000=di+carry:=by omega
          have h2:(di+carry) / 10000=0:=by omega
          rw[h1,h2]at hnext;exact hnext
      · have t1:decide (di+carry<0)=false:=by simp;omega
        have t2:decide (di+carry ≥ 10000)=true:=by simp;omega
        go_wp2_with fail;refine hc.mono ?_;rintro _ w2 ⟨rfl,hb2⟩;replace hrow:=aS _ _ _ _ _ _ _ _ _ hrow hb2;replace dP:=hI _ _ dP (hb2.mono hb.size);replace hb:=aj hb hb2;clear hc hb2
        go_wp2_with (at_builtin;refine aK rfl (.tmp 37) (.tmp 39) rfl w.heap.size cap out.length 1 (out.flatMap aO) [.int .i64 ((di+carry) % 10000)] _ _ rfl rfl (aS _ _ _ _ _ _ _ _ _ hrow (au w2 _)) (by rw[ah];have:=hb.size;omega) (fV w2 _) hcm (by omega) ?_;intro v' w' cap' e1 e2 e3 e4)
        replace dP:=hI _ _ dP (((au w2 (.cells #[.int .i64 ((di+carry) % 10000)] 3))).mono hb.size);replace dP:=hI _ _ dP e1;have aY:=(bNew hb (.cells #[.int .i64 ((di+carry) % 10000)] 3)).trans e1;refine ⟨⟨i+1,cap',out++[(di+carry) % 10000],((di+carry) / 10000),by go_num,rfl,by simpa [aO] using e3,e4,by omega,by omega,by omega,by omega,by omega,?_,⟨by simp;exact GX.out⟩,by simp;omega,⟨?_⟩,dP,aY⟩,by simp[intOf];omega⟩
        · intro h;have:=hcp h;omega
        · have h1:(di+carry) % 10000=(di+carry) % 10000:=by omega
          have h2:(di+carry) / 10000=((di+carry) / 10000):=by omega
          rw[h1,h2]at hnext;exact hnext
theorem Bg (n:Nat) (d:Nat->Int) (b1 b2:Nat) (I:World->Prop) (w:World) (hI:∀W W',I W->Below w.heap.size W W'->I W')
 (hcall:∀(W:World) (i:Nat),I W->i<=1000000->aW 145 #[.int .i64 i,.pointer (some ⟨b1,0,none⟩),.pointer (some ⟨b2,0,none⟩)] W (.int .i64 (d i)))
 (hd:∀i,-9999<=d i/\d i<=100000000) (h0:∀i,n<=i->d i=0) (hpos:0<=Ig.dI d n) (hn:n<=100000) (OQ:I w) :
 Calls Tryz.prog 142 #[.int .i64 n,.int .i64 0,.func (.func 145) #[] #[.pointer (some ⟨b1,0,none⟩),.pointer (some ⟨b2,0,none⟩)]] w fun e w' =>
  ∃(A:Option Addr) (out:List Int) (cap:Nat),e=.returned (.slice A out.length cap)/\At 1 aO w' w'.heap.size A out/\out.length<=cap/\cap<=maxLen/\out.length<=n+2/\Kp (Ig.bf out=Ig.grp (Ig.dI d n).toNat)/\Below w.heap.size w w':=by
 obtain⟨ti,z,hi,hz,hs1,hz1,hby⟩:=wV;have hmk:=run_makeSlice (P:=Tryz.prog) (w:=w) 127 3 ti z Tryz.underlying127 hi hz .i64 .i64 0 ((n:Int)+1) (Int.le_refl _) (by omega) (by rw[hs1];omega) (by rw[hby];omega) (by omega);rw [hs1,Nat.mul_one,show ((n:Int)+1).toNat=n+1 by omega,show (0:Int).toNat=0 from rfl]at hmk;have hcs:(madeCells z.cells (n+1)).size=n+1:=by rw[size_madeCells]
 generalize madeCells z.cells (n+1)=cs at *;clear hi hz hs1 hz1 hby
 have hrow:cO 3 1 w.heap.size (n+1) 0 [] (.slice (some ⟨w.heap.size,0,none⟩) 0 (n+1)) (w.alloc (.cells cs 3)) :=
  ⟨w.heap.size,_,rfl,Nat.le_refl _,Nat.zero_le _,Bx.mk _ _ _,by omega,rfl⟩
 have hI1:=hI w _ OQ (au w (.cells cs 3));have hb1:=au w (.cells cs 3)
 go_enter Tryz.func142,Tryz.ntmps142
 go_wp2;clear hmk OQ;generalize (w.alloc (.cells cs 3))=w1 at *
 go_loopw [1,7,8,9] (fun s1 s7 s8 s9 wr=>∃(i cap:Nat) (out:List Int) (carry:Int),s8=.int .i64 i/\s1=.int .i64 carry/\cO 3 1 w.heap.size cap out.length (out.flatMap aO) s7 wr/\cap<=maxLen/\i<=n+2/\ -1<=carry/\carry<=20000/\(i=n+1->carry<=2)/\(i=n+2->carry=0)/\(n<=i->0<=carry)/\Kp (out.length=i)/\out.length<=n+2/\Kp (Ig.gG d i out carry)/\I wr/\Below w.heap.size w wr)
  (fun s1 s7 s8 s9 _=>(n+3-(intOf s8).toNat))
 case atStart=>exact⟨0,n+1,[],0,rfl,rfl,hrow,by unfold maxLen;omega,by omega,by omega,by omega,by omega,by omega,by omega,⟨rfl⟩,by simp,⟨Ig.jX d⟩,hI1,hb1⟩
 case round =>
  clear hrow hI1 hb1;obtain ⟨i,cap,out,carry,rfl,rfl,hrow,hcm,hi2,hc1,hc2,hc3,hc4,hc5,hol,Ey,hf,dP,hb⟩:=hrel;by_cases hstop:n<=i/\carry=0
  · obtain⟨hni,rfl⟩:=hstop;have t0:decide ((i:Int)<(n:Int))=false:=by simp;omega
    have hnl:¬i<n:=by omega
    have hfin:Kp (Ig.bf out=Ig.grp (Ig.dI d n).toNat):=⟨by rw[Ig.qU hf.out,Ig.mZ h0 hni]⟩
    obtain⟨A2,rfl,hA2,hlen2⟩:=cO.at (f:=aO) (fun _=>rfl) hrow;clear hf hcall hI;go_wp2;go_ret;exact ⟨A2,out,cap,rfl,hA2,hlen2,hcm,Ey,hfin,hb⟩
  · have hdi:=hd i;have hz0:n<=i->d i=0:=h0 i;have hrun:(i<n∨(¬i<n/\carry≠0)):=by omega
    have hnext:=Ig.lW hf.out;have hcp:n<=i+1->0<=(d i+carry) / 10000:=fun h=>Ig.mX hnext (by rw[Ig.mZ h0 h];exact hpos)
    have hns:i≠n+2:=by omega
    have hbig:i<=1000000:=by omega
    have hob:out.length+1<=1000000:=by omega
    have hc:=hcall wr i dP hbig;clear hcall hstop hf;generalize hdd:d i=di at *;have hi9:out.length<=i:=by have:=hol.out;omega
    have GX:Kp (out.length=i):=hol;clear hol
    rcases hrun with hlt|⟨hge,hne⟩
    · have t0:decide ((i:Int)<(n:Int))=true:=by simp;omega
      rcases (show (di+carry<0)∨(0<=di+carry/\di+carry<10000)∨10000<=di+carry by omega) with hs|⟨hs,hs'⟩|hs
      · have t1:decide (di+carry<0)=true:=by simp;omega
        go_wp2_with fail;refine hc.mono ?_;rintro _ w2 ⟨rfl,hb2⟩;replace hrow:=aS _ _ _ _ _ _ _ _ _ hrow hb2;replace dP:=hI _ _ dP (hb2.mono hb.size);replace hb:=aj hb hb2;clear hc hb2
        go_wp2_with (at_builtin;refine aK rfl (.tmp 37) (.tmp 39) rfl w.heap.size cap out.length 1 (out.flatMap aO) [.int .i64 (di+carry+10000)] _ _ rfl rfl (aS _ _ _ _ _ _ _ _ _ hrow (au w2 _)) (by rw[ah];have:=hb.size;omega) (fV w2 _) hcm (by omega) ?_;intro v' w' cap' e1 e2 e3 e4)
        replace dP:=hI _ _ dP (((au w2 (.cells #[.int .i64 (di+carry+10000)] 3))).mono hb.size);replace dP:=hI _ _ dP e1;have aY:=(bNew hb (.cells #[.int .i64 (di+carry+10000)] 3)).trans e1;refine ⟨⟨i+1,cap',out++[di+carry+10000],(-1),by go_num,rfl,by simpa [aO] using e3,e4,by omega,by omega,by omega,by omega,by omega,?_,⟨by simp;exact GX.out⟩,by simp;omega,⟨?_⟩,dP,aY⟩,by simp[intOf];omega⟩
        · intro h;have:=hcp h;omega
        · have h1:(di+carry) % 10000=di+carry+10000:=by omega
          have h2:(di+carry) / 10000=(-1):=by omega
          rw[h1,h2]at hnext;exact hnext
      · have t1:decide (di+carry<0)=false:=by simp;omega
        have t2:decide (di+carry ≥ 10000)=false:=by simp;omega
        go_wp2_with fail;refine hc.mono ?_;rintro _ w2 ⟨rfl,hb2⟩;replace hrow:=aS _ _ _ _ _ _ _ _ _ hrow hb2;replace dP:=hI _ _ dP (hb2.mono hb.size);replace hb:=aj hb hb2;clear hc hb2
        go_wp2_with (at_builtin;refine aK rfl (.tmp 37) (.tmp 39) rfl w.heap.size cap out.length 1 (out.flatMap aO) [.int .i64 (di+carry)] _ _ rfl rfl (aS _ _ _ _ _ _ _ _ _ hrow (au w2 _)) (by rw[ah];have:=hb.size;omega) (fV w2 _) hcm (by omega) ?_;intro v' w' cap' e1 e2 e3 e4)
        replace dP:=hI _ _ dP (((au w2 (.cells #[.int .i64 (di+carry)] 3))).mono hb.size);replace dP:=hI _ _ dP e1;have aY:=(bNew hb (.cells #[.int .i64 (di+carry)] 3)).trans e1;refine ⟨⟨i+1,cap',out++[di+carry],0,by go_num,rfl,by simpa [aO] using e3,e4,by omega,by omega,by omega,by omega,by omega,?_,⟨by simp;exact GX.out⟩,by simp;omega,⟨?_⟩,dP,aY⟩,by simp[intOf];omega⟩
        · intro h;have:=hcp h;omega
        · have h1:(di+carry) % 10000=di+carry:=by omega
          have h2:(di+carry) / 10000=0:=by omega
          rw[h1,h2]at hnext;exact hnext
      · have t1:decide (di+carry<0)=false:=by simp;omega
        have t2:decide (di+carry ≥ 10000)=true:=by simp;omega
        go_wp2_with fail;refine hc.mono ?_;rintro _ w2 ⟨rfl,hb2⟩;replace hrow:=aS _ _ _ _ _ _ _ _ _ hrow hb2;replace dP:=hI _ _ dP (hb2.mono hb.size);replace hb:=aj hb hb2;clear hc hb2
        go_wp2_with (at_builtin;refine aK rfl (.tmp 37) (.tmp 39) rfl w.heap.size cap out.length 1 (out.flatMap aO) [.int .i64 ((di+carry) % 10000)] _ _ rfl rfl (aS _ _ _ _ _ _ _ _ _ hrow (au w2 _)) (by rw[ah];have:=hb.size;omega) (fV w2 _) hcm (by omega) ?_;intro v' w' cap' e1 e2 e3 e4)
        replace dP:=hI _ _ dP (((au w2 (.cells #[.int .i64 ((di+carry) % 10000)] 3))).mono hb.size);replace dP:=hI _ _ dP e1;have aY:=(bNew hb (.cells #[.int .i64 ((di+carry) % 10000)] 3)).trans e1;refine ⟨⟨i+1,cap',out++[(di+carry) % 10000],((di+carry) / 10000),by go_num,rfl,by simpa [aO] using e3,e4,by omega,by omega,by omega,by omega,by omega,?_,⟨by simp;exact GX.out⟩,by simp;omega,⟨?_⟩,dP,aY⟩,by simp[intOf];omega⟩
        · intro h;have:=hcp h;omega
        · have h1:(di+carry) % 10000=(di+carry) % 10000:=by omega
          have h2:(di+carry) / 10000=((di+carry) / 10000):=by omega
          rw[h1,h2]at hnext;exact hnext
    · have t0:decide ((i:Int)<(n:Int))=false:=by simp;omega
      have t9:(carry != 0)=true:=by simp[hne]
      clear hne
      rcases (show (di+carry<0)∨(0<=di+carry/\di+carry<10000)∨10000<=di+carry by omega) with hs|⟨hs,hs'⟩|hs
      · exfalso
        have x1:=hz0 (by omega);have x2:=hc5 (by omega);omega
      · have t1:decide (di+carry<0)=false:=by simp;omega
        have t2:decide (di+carry ≥ 10000)=false:=by simp;omega
        go_wp2_with fail;refine hc.mono ?_;rintro _ w2 ⟨rfl,hb2⟩;replace hrow:=aS _ _ _ _ _ _ _ _ _ hrow hb2;replace dP:=hI _ _ dP (hb2.mono hb.size);replace hb:=aj hb hb2;clear hc hb2
        go_wp2_with (at_builtin;refine aK rfl (.tmp 37) (.tmp 39) rfl w.heap.size cap out.length 1 (out.flatMap aO) [.int .i64 (di+carry)] _ _ rfl rfl (aS _ _ _ _ _ _ _ _ _ hrow (au w2 _)) (by rw[ah];have:=hb.size;omega) (fV w2 _) hcm (by omega) ?_;intro v' w' cap' e1 e2 e3 e4)
        replace dP:=hI _ _ dP (((au w2 (.cells #[.int .i64 (di+carry)] 3))).mono hb.size);replace dP:=hI _ _ dP e1;have aY:=(bNew hb (.cells #[.int .i64 (di+carry)] 3)).trans e1;refine ⟨⟨i+1,cap',out++[di+carry],0,by go_num,rfl,by simpa [aO] using e3,e4,by omega,by omega,by omega,by omega,by omega,?_,⟨by simp;exact GX.out⟩,by simp;omega,⟨?_⟩,dP,aY⟩,by simp[intOf];omega⟩
        · intro h;have:=hcp h;omega
        · have h1:(di+carry) % 10000=di+carry:=by omega
          have h2:(di+carry) / 10000=0:=by omega
          rw[h1,h2]at hnext;exact hnext
      · have t1:decide (di+carry<0)=false:=by simp;omega
        have t2:decide (di+carry ≥ 10000)=true:=by simp;omega
        go_wp2_with fail;refine hc.mono ?_;rintro _ w2 ⟨rfl,hb2⟩;replace hrow:=aS _ _ _ _ _ _ _ _ _ hrow hb2;replace dP:=hI _ _ dP (hb2.mono hb.size);replace hb:=aj hb hb2;clear hc hb2
        go_wp2_with (at_builtin;refine aK rfl (.tmp 37) (.tmp 39) rfl w.heap.size cap out.length 1 (out.flatMap aO) [.int .i64 ((di+carry) % 10000)] _ _ rfl rfl (aS _ _ _ _ _ _ _ _ _ hrow (au w2 _)) (by rw[ah];have:=hb.size;omega) (fV w2 _) hcm (by omega) ?_;intro v' w' cap' e1 e2 e3 e4)
        replace dP:=hI _ _ dP (((au w2 (.cells #[.int .i64 ((di+carry) % 10000)] 3))).mono hb.size);replace dP:=hI _ _ dP e1;have aY:=(bNew hb (.cells #[.int .i64 ((di+carry) % 10000)] 3)).trans e1;refine ⟨⟨i+1,cap',out++[(di+carry) % 10000],((di+carry) / 10000),by go_num,rfl,by simpa [aO] using e3,e4,by omega,by omega,by omega,by omega,by omega,?_,⟨by simp;exact GX.out⟩,by simp;omega,⟨?_⟩,dP,aY⟩,by simp[intOf];omega⟩
        · intro h;have:=hcp h;omega
        · have h1:(di+carry) % 10000=(di+carry) % 10000:=by omega
          have h2:(di+carry) / 10000=((di+carry) / 10000):=by omega
          rw[h1,h2]at hnext;exact hnext
end Go.Proofs.YtelljijajgiabaaGreatDoor

import Derived.Test.YtelljijajgiabaaGreatDoorQ08
set_option linter.unusedVariables false
set_option linter.unusedSimpArgs false
set_option maxRecDepth 100000
set_option maxHeartbeats 8000000
namespace Go.Proofs.YtelljijajgiabaaGreatDoor.RA
open Go.RowKit
structure Cls (K:World->World->Prop):Prop where
 refl:∀w,K w w
 trans:∀ {a b c},K a b->K b c->K a c
 drawn:∀(w:World) n,K w { w with drawn:=n }
def slotV (ops:Array Oper) (a:Act) (j:Nat):Value :=
 match (ops[j]?).bind (·.dst) with
 | some d=>a.tmps.getD d undef
 | none=>undef
def putAll (vs:Nat->Value):Nat->List Oper->Act->Act
 | _,[],a=>a
 | k,o :: rest,a=>putAll vs (k+1) rest (a.put o.dst (vs k))
def SameF (ops:Array Oper) (n:Nat) (a0 a:Act):Prop :=
 a.defers=a0.defers/\a.tmps.size=a0.tmps.size/\∀t,(∀(i:Nat) (o:Oper),i<n->ops[i]? = some o->o.dst≠some t)->a.tmps.getD t undef=a0.tmps.getD t undef
def argV (ks:Nat->Option Nat) (f:Nat->Value) (j:Nat):Value:=match ks j with|some k=>f k|none=>undef
def StepRG (F:Nat->Value->World->World->Prop) (K:World->World->Prop) (ks:Nat->Option Nat) (P:Program) (ops:Array Oper) (n:Nat) (R:Nat->Value->Value->World->Prop) (w0:World) (a0:Act) (Q:Exit->Act->World->Prop) (i:Nat) (o:Oper):Prop :=
 ∀(a:Act) (w:World),K w0 w->SameF ops n a0 a->(∀e∈o.after,Region.binds .any e=true->R e.on (argV ks (slotV ops a) e.on) (slotV ops a e.on) w) ->
  if Region.wanted o (yielded ops a.tmps)=true then o.wp P a w (fun a' w'=>∃v,a'=a.put o.dst v/\K w w'/\R i (argV ks (slotV ops a) i) (if o.dst.isSome then v else undef) w'/\F i (if o.dst.isSome then v else undef) w w') Q else R i (argV ks (slotV ops a) i) undef w/\F i undef w w
def Dst (ops:Array Oper) (S:Nat->Bool) (n:Nat) (listed:Array Bool) (a:Act) (w:World):Prop:=(∀p,p<n->S p=true->listed.getD p false=true->∃g,slotV ops a p=.pointer (some ⟨g,0,none⟩)/\g<w.heap.size)/\(∀p q,p<n->q<n->S p=true->S q=true->p≠q->listed.getD p false=true->listed.getD q false=true->slotV ops a p≠slotV ops a q)
def okRG (ops:Array Oper) (n:Nat):Bool :=
 (List.range ops.size).all fun i=>match ops[i]? with
  | none=>true
  | some o=>(o.after.all fun e=> !Region.binds .any e||decide (e.on<i))&&(match o.dst with|some d=>decide (d<n)|none=>true) &&
   (List.range ops.size).all fun j=>decide (j=i)||match (ops[j]?).bind (·.dst),o.dst with|some d,some d'=>d != d'|_,_=>true
section
variable {P:Program} {ops:Array Oper} {R:Nat->Value->Value->World->Prop} {w0:World} {a0:Act} {Q:Exit->Act->World->Prop}
theorem any_rg {F:Nat->Value->World->World->Prop} {K:World->World->Prop} {ks:Nat->Option Nat} (hK:Cls K) {n g:Nat} (S:Nat->Bool) (hKz:∀w w',K w w'->w.heap.size<=w'.heap.size) (hF:∀p,S p=true->∀v w w',F p v w w'->v=.pointer (some ⟨w.heap.size,0,none⟩)/\w.heap.size<w'.heap.size) (hok:okRG ops a0.tmps.size=true) (hsc:ops.size<=n∨(Region.sinkB .any ops n=true/\Region.chainB .any ops n=true)) (hn:n<=ops.size)
 (hks:∀i o k,ops[i]? = some o->ks i=some k->∃e∈o.after,Region.binds .any e=true/\e.on=k) (hst:∀i x v w w',R i x v w->K w w'->R i x v w') (hsteps:∀i o,i<n->ops[i]? = some o->StepRG F K ks P ops n R w0 a0 Q i o)
 (hfin:∀listed a w,HeadInv .any ops n listed->(∀i,i<n->listed.getD i true=true)->K w0 w->SameF ops n a0 a->(∀i,i<n->R i (argV ks (slotV ops a) i) (slotV ops a i) w)->(∀p q,p<n->q<n->S p=true->S q=true->p≠q->slotV ops a p≠slotV ops a q)->wpAny P .any ops Q g listed a w) :
 ∀(fuel:Nat) (listed:Array Bool) (a:Act) (w:World),HeadInv .any ops n listed->((List.range n).countP (fun i=> !listed.getD i true))=fuel->K w0 w->SameF ops n a0 a ->
  (∀i,i<n->listed.getD i false=true->R i (argV ks (slotV ops a) i) (slotV ops a i) w)->Dst ops S n listed a w->wpAny P .any ops Q (fuel+g) listed a w:=by
 intro fuel
 induction fuel with
 | zero =>
  intro listed a w inv hcnt hb hsame hR hD
  have hall:∀i,i<n->listed.getD i true=true:=by
   intro i hi;have:=List.countP_eq_zero.1 hcnt i (List.mem_range.2 hi);simpa using this
  rw[Nat.zero_add];have hall':∀i,i<n->listed.getD i false=true:=fun i hi=>by have:=hall i hi;simpa [Array.getD_eq_getD_getElem?,inv.size,show i<ops.size by omega] using this
  exact hfin listed a w inv hall hb hsame (fun i hi=>hR i hi (hall' i hi)) (fun p q hp hq sp sq hne=>hD.2 p q hp hq sp sq hne (hall' p hp) (hall' q hq))
 | succ fuel ih =>
  intro listed a w inv hcnt hb hsame hR hD
  have hex:∃i,i<n/\listed.getD i true=false:=by
   have h0:0<(List.range n).countP (fun i=> !listed.getD i true):=by omega
   obtain⟨i,hi,hp⟩:=List.countP_pos_iff.1 h0;exact ⟨i,List.mem_range.1 hi,by simpa using hp⟩
  rw[show fuel+1+g=(fuel+g)+1 by omega];refine ⟨fun he=>?_,fun i hi=>?_⟩
  · exfalso
    have hempty:∀i,i<n->listed.getD i true=true:=by
     intro i
     induction i using Nat.strongRecOn with
     | _ i ih =>
      intro hi
      cases hl:listed.getD i true with
      | true=>rfl
      | false =>
       have hoi:ops[i]? = some (ops[i]'(by omega)):=Array.getElem?_eq_getElem (by omega)
       have:i∈Region.ready .any ops listed:=mem_ready.2 ⟨hl,_,hoi,fun e hem hbd=>by
        have hlt:=(okRG_spec hok hoi).1 e hem hbd;have:=ih e.on hlt (by omega)
        simpa [Array.getD_eq_getD_getElem?,inv.size,show e.on<ops.size by omega] using this⟩
       rw[he]at this;cases this
    obtain⟨i,hi,hu⟩:=hex;rw [hempty i hi]at hu;cases hu
  obtain⟨hun,o,ho,hdeps⟩:=mem_ready.1 hi;have hin:i<ops.size:=(Array.getElem?_eq_some_iff.1 ho).1
  have hhead:i<n:=by
   obtain⟨k,hk,hu⟩:=hex
   rcases Nat.lt_or_ge i n with h|h
   · exact h
   · rcases hsc with hsc|⟨hs,hc⟩
     · omega
     · exact absurd hi (tail_waits hs hc (by omega) inv _ k rfl hk hu i h)
  obtain⟨hback,hbound,hdist⟩:=okRG_spec hok ho
  have hc':(List.range n).countP (fun j=> !(listed.setIfInBounds i true).getD j true)=fuel:=by
   have:=count_one (n:=n) (by rw[inv.size];exact hin) hun (List.range n) List.nodup_range (List.mem_range.2 hhead);omega
  have hstep:=hsteps i o hhead ho a w hb hsame (fun e he hbd=>hR e.on (by have:=hback e he hbd;omega) (hdeps e he hbd))
  have hput:∀v,SameF ops n a0 (a.put o.dst v):=by
   intro v;obtain ⟨e1,e2,e3⟩:=hsame
   cases hd:o.dst with
   | none=>exact⟨e1,e2,e3⟩
   | some d =>
    refine⟨e1,by simpa [Act.put] using e2,fun t ht=>?_⟩;rw [getD_put,if_neg (fun hh=>ht i o hhead ho (by rw[hd,hh.1])),e3 t ht]
  have hslot:∀v j,j≠i->slotV ops (a.put o.dst v) j=slotV ops a j:=by
   intro v j hj
   unfold slotV
   cases hd:o.dst with
   | none=>rfl
   | some d =>
    cases hoj:ops[j]? with
    | none=>rfl
    | some oj =>
     cases hdj:oj.dst with
     | none=>simp[hdj]
     | some dj =>
      simp only[Option.bind_some,hdj];rw [getD_put,if_neg (fun hh=>hdist j oj dj d hj hoj hdj hd hh.1)]
  have hself:∀v,slotV ops (a.put o.dst v) i=if o.dst.isSome then v else undef:=by
   intro v
   unfold slotV
   rw[ho]
   cases hd:o.dst with
   | none=>simp[hd]
   | some d =>
    simp only[Option.bind_some,hd,Option.isSome_some,if_true];rw [getD_put,if_pos ⟨rfl,by rw[hsame.2.1];exact hbound d hd⟩]
  have harg:∀v j oj,ops[j]? = some oj->(j=i∨listed.getD j false=true)->argV ks (slotV ops (a.put o.dst v)) j=argV ks (slotV ops a) j:=by
   intro v j oj hoj hj
   unfold argV
   cases hk:ks j with
   | none=>rfl
   | some k =>
    obtain⟨e,he,hbd,rfl⟩:=hks j oj k hoj hk;refine hslot v _ fun hki=>?_
    rcases hj with rfl|hj
    · have e1:oj=o:=Option.some.inj (hoj.symm.trans ho);subst e1;have:=hback e he hbd;omega
    · have hl:=inv.closed j oj hoj hj e he hbd;rw [hki]at hl;rw [getD_both hun]at hl;cases hl
  have hnext:∀v w',K w w'->R i (argV ks (slotV ops a) i) (if o.dst.isSome then v else undef) w'->F i (if o.dst.isSome then v else undef) w w'->wpAny P .any ops Q (fuel+g) (listed.setIfInBounds i true) (a.put o.dst v) w':=by
   intro v w' hbw hr hf;refine ih _ _ _ (inv.set hi hhead) hc' (hK.trans hb hbw) (hput v) (fun j hjn hj=>?_) ?_
   rotate_left
   · obtain⟨d1,d3⟩:=hD;have hz:=hKz _ _ hbw;have hls:∀j,j≠i->(listed.setIfInBounds i true).getD j false=true->listed.getD j false=true:=fun j hj h=>by rw[←getD_set_ne false (fun h=>hj h.symm)];exact h
     refine⟨fun p hp sp hl=>?_,fun p q hp hq sp sq hpq hl hl2=>?_⟩
     · by_cases e:p=i
       · subst e;rw[hself];obtain⟨e1,e2⟩:=hF _ sp _ _ _ hf;exact⟨_,e1,e2⟩
       · rw[hslot v p e];obtain⟨g,e1,e2⟩:=d1 p hp sp (hls p e hl);exact⟨g,e1,by omega⟩
     · by_cases e:p=i
       · subst e;rw [hself,hslot v q (Ne.symm hpq)];obtain ⟨e1,e2⟩:=hF _ sp _ _ _ hf;obtain ⟨g,e3,e4⟩:=d1 q hq sq (hls q (Ne.symm hpq) hl2);rw [e1,e3];intro h
         injection h with h;injection h with h;injection h with h1 h2
         omega
       · by_cases e':q=i
         · subst e';rw [hself,hslot v p hpq];obtain ⟨e1,e2⟩:=hF _ sq _ _ _ hf;obtain ⟨g,e3,e4⟩:=d1 p hp sp (hls p hpq hl);rw [e1,e3];intro h
           injection h with h;injection h with h;injection h with h1 h2
           omega
         · rw[hslot v p e,hslot v q e'];exact d3 p q hp hq sp sq hpq (hls p e hl) (hls q e' hl2)
   by_cases hji:j=i
   · subst hji;rw[hself,harg v _ o ho (.inl rfl)];exact hr
   · have hlj:listed.getD j false=true:=by rw[←getD_set_ne false (fun h=>hji h.symm)];exact hj
     rw[hslot v j hji,harg v j (ops[j]'(by omega)) (Array.getElem?_eq_getElem (by omega)) (.inr hlj)];exact hst _ _ _ _ _ (hR j hjn hlj) hbw
  unfold wpOp
  simp only[ho];by_cases hw:Region.wanted o (yielded ops a.tmps)=true
  · rw[if_pos hw]at hstep ⊢;refine .inl ?_;exact Oper.wp_mono (fun a' w' hh=>by obtain⟨v,e,hb',hr,hf⟩:=hh;subst e;exact hnext v w' hb' hr hf) hstep
  · rw[if_neg hw]at hstep ⊢;exact hnext undef w (hK.refl _) (by split <;> exact hstep.1) (by split <;> exact hstep.2)
theorem putAll_size (vs:Nat->Value):∀(l:List Oper) (k:Nat) (a:Act),(putAll vs k l a).tmps.size=a.tmps.size/\(putAll vs k l a).defers=a.defers
 | [],_,_=>⟨rfl,rfl⟩
 | o :: l,k,a=>by
  have:=putAll_size vs l (k+1) (a.put o.dst (vs k));refine ⟨this.1.trans ?_,this.2.trans ?_⟩ <;> cases o.dst <;> simp[Act.put]
theorem putAll_ne (vs:Nat->Value) (t:Nat):∀(l:List Oper) (k:Nat) (a:Act),(∀o∈l,o.dst≠some t)->(putAll vs k l a).tmps.getD t undef=a.tmps.getD t undef
 | [],_,_,_=>rfl
 | o :: l,k,a,h=>by
  refine (putAll_ne vs t l (k+1) _ fun o ho=>h o (by simp[ho])).trans ?_
  cases hd:o.dst with
  | none=>rfl
  | some d=>rw[getD_put,if_neg (fun hh=>h o (by simp) (by rw[hd,hh.1]))]
theorem putAll_eq (vs:Nat->Value) (t:Nat):∀(l:List Oper) (k j:Nat) (o:Oper) (a:Act),l[j]? = some o->o.dst=some t->(∀(i:Nat) (o':Oper),j<i->l[i]? = some o'->o'.dst≠some t)->t<a.tmps.size ->
 (putAll vs k l a).tmps.getD t undef=vs (k+j)
 | [],_,_,_,_,h,_,_,_=>by simp at h
 | x :: l,k,0,o,a,h,hd,hu,ht=>by
  obtain rfl:x=o:=by simpa using h
  refine (putAll_ne vs t l (k+1) _ fun o ho=>?_).trans ?_
  · obtain⟨i,hi⟩:=List.mem_iff_getElem?.1 ho;exact hu (i+1) o (by omega) (by simpa using hi)
  · rw[hd,getD_put,if_pos ⟨rfl,ht⟩];rfl
 | x :: l,k,j+1,o,a,h,hd,hu,ht=>by
  have:=putAll_eq vs t l (k+1) j o (a.put x.dst (vs k)) (by simpa using h) hd (fun i o' hji hi=>hu (i+1) o' (by omega) (by simpa using hi)) (by cases x.dst <;> simpa [Act.put] using ht);rw [show putAll vs k (x :: l) a=putAll vs (k+1) l (a.put x.dst (vs k)) from rfl,this,show k+1+j=k+(j+1) by omega]
def looksB (ops:Array Oper) (n:Nat):Bool :=
 (List.range n).all fun i=>match ops[i]? with
  | none=>true
  | some o=>o.guard.isNone&&(match o.op with|.select ..=>false|_=>true) &&
   (o.looksAt ops).all fun t=>(List.range ops.size).all fun j=>match ops[j]? with|some oj=>oj.dst != some t||decide (j<i)||decide (n<=j)|none=>true
def seen (ops:Array Oper) (vs:Nat->Value) (i:Nat) (a0:Act):Act:=putAll vs 0 (ops.toList.take i) a0
theorem take_get {ops:Array Oper} {i j:Nat} {o:Oper}:(ops.toList.take i)[j]? = some o↔j<i/\ops[j]? = some o:=by
 rw[List.getElem?_take]
 split
 · simp[*]
 · constructor
   · intro h;cases h
   · intro h;omega
theorem take_get' {l:List Oper} {i j:Nat} {o:Oper} (h:(l.take i)[j]? = some o):j<i/\l[j]? = some o:=by
 rw[List.getElem?_take]at h
 split at h
 · exact⟨by assumption,h⟩
 · cases h
theorem act_ext {a b:Act} (h:a.tmps=b.tmps) (h':a.defers=b.defers):a=b:=by cases a;cases b;simp_all
theorem seen_slot {n i:Nat} {a:Act} (hin:i<=n) (hok:okRG ops a0.tmps.size=true) (hsame:SameF ops n a0 a) {t:Nat} (hl:∀(j:Nat) (oj:Oper),ops[j]? = some oj->oj.dst=some t->j<i∨n<=j) :
 (seen ops (slotV ops a) i a0).tmps.getD t undef=a.tmps.getD t undef:=by
 by_cases hw:∃(j:Nat) (oj:Oper),j<n/\ops[j]? = some oj/\oj.dst=some t
 · obtain⟨j,oj,hjn,hj,hd⟩:=hw;have hsp:=okRG_spec hok hj;have hji:j<i:=(hl j oj hj hd).resolve_right (by omega)
   unfold seen
   rw[putAll_eq (slotV ops a) t _ 0 j oj a0 (take_get.2 ⟨hji,hj⟩) hd (fun k o' hjk hk hd'=>hsp.2.2 k o' t t (by omega) (take_get.1 hk).2 hd' hd rfl) (hsp.2.1 t hd)];simp [slotV,hj,hd]
 · have hno:∀(j:Nat) (oj:Oper),j<n->ops[j]? = some oj->oj.dst≠some t:=fun j oj hjn hj hd=>hw ⟨j,oj,hjn,hj,hd⟩
   rw[hsame.2.2 t hno]
   unfold seen
   refine putAll_ne _ _ _ _ _ fun o ho=>?_
   obtain⟨j,hj⟩:=List.mem_iff_getElem?.1 ho;have:=(take_get.1 hj).1;exact hno j o (by omega) (take_get.1 hj).2
def AllE (ks:Nat->Option Nat) (R:Nat->Value->Value->World->Prop) (vs:Nat->Value) (w:World):List Edge->Prop
 | []=>True
 | e :: l=>(Region.binds .any e=true->R e.on (argV ks vs e.on) (vs e.on) w)/\AllE ks R vs w l
theorem AllE_of {ks:Nat->Option Nat} {R:Nat->Value->Value->World->Prop} {vs:Nat->Value} {w:World}:∀(l:List Edge),(∀e∈l,Region.binds .any e=true->R e.on (argV ks vs e.on) (vs e.on) w)->AllE ks R vs w l
 | [],_=>trivial
 | e :: l,h=>⟨h e (by simp),AllE_of l fun e he=>h e (by simp[he])⟩
def dstV (o:Oper) (a:Act):Value:=match o.dst with|some d=>a.tmps.getD d undef|none=>undef
def UserRG (F:Nat->Value->World->World->Prop) (K:World->World->Prop) (ks:Nat->Option Nat) (P:Program) (ops:Array Oper) (R:Nat->Value->Value->World->Prop) (w0:World) (a0:Act) (i:Nat) (o:Oper):Prop :=
 ∀(vs:Nat->Value) (w:World),K w0 w->AllE ks R vs w o.after.toList ->
  wpList P ops (fun e a' w'=>e=.normal/\a'.defers=a0.defers/\K w w'/\R i (argV ks vs i) (dstV o a') w'/\F i (dstV o a') w w') [o] (seen ops vs i a0) w
def UsersRG (F:Nat->Value->World->World->Prop) (K:World->World->Prop) (ks:Nat->Option Nat) (P:Program) (ops:Array Oper) (R:Nat->Value->Value->World->Prop) (w0:World) (a0:Act):Nat->List Oper->Prop
 | _,[]=>True
 | k,o :: l=>UserRG F K ks P ops R w0 a0 k o/\UsersRG F K ks P ops R w0 a0 (k+1) l
theorem UsersRG.get {F:Nat->Value->World->World->Prop} {K:World->World->Prop} {ks:Nat->Option Nat} {P:Program} {ops:Array Oper} {R:Nat->Value->Value->World->Prop} {w0:World} {a0:Act}:∀(l:List Oper) (k j:Nat) (o:Oper),UsersRG F K ks P ops R w0 a0 k l->l[j]? = some o->UserRG F K ks P ops R w0 a0 (k+j) o
 | [],_,_,_,_,h=>by simp at h
 | x :: l,k,0,o,hh,h=>by
  obtain rfl:x=o:=by simpa using h
  exact hh.1
 | x :: l,k,j+1,o,hh,h=>by
  have:=UsersRG.get l (k+1) j o hh.2 (by simpa using h)
  rwa [show k+1+j=k+(j+1) by omega]at this
theorem not_letsOut {K:World->World->Prop} {a0:Act} {R:Value->World->Prop} {w:World} {o:Oper} (h:LetsOut (fun e a' w'=>e=.normal/\a'.defers=a0.defers/\K w w'/\R (dstV o a') w')):False:=by
 obtain⟨_,_,h,_⟩:=h;cases h
theorem step_of_userG {F:Nat->Value->World->World->Prop} {K:World->World->Prop} {ks:Nat->Option Nat} {n i:Nat} {o:Oper} (hok:okRG ops a0.tmps.size=true) (hlk:looksG ops n=true) (hi:i<n) (hin:n<=ops.size) (ho:ops[i]? = some o) (h:UserRG F K ks P ops R w0 a0 i o):StepRG F K ks P ops n R w0 a0 Q i o:=by
 intro a w hb hsame hdeps;have h1:=List.all_eq_true.1 hlk i (List.mem_range.2 hi);simp only[ho,Bool.and_eq_true]at h1;obtain ⟨hsel,hl⟩:=h1;have hu:=h (slotV ops a) w hb (AllE_of _ fun e he hbd=>hdeps e (by simpa using he) hbd)
 have hslots:∀t∈o.looksAt ops,(seen ops (slotV ops a) i a0).tmps.getD t undef=a.tmps.getD t undef:=fun t ht=>by
  have h2:=List.all_eq_true.1 hl t ht;refine seen_slot (Nat.le_of_lt hi) hok hsame fun j oj hj hd=>?_
  have h3:=List.all_eq_true.1 h2 j (List.mem_range.2 (Array.getElem?_eq_some_iff.1 hj).1);simpa [hj,hd] using h3
 have hsz:=putAll_size (slotV ops a) (ops.toList.take i) 0 a0;have hsz':(seen ops (slotV ops a) i a0).tmps.size=a.tmps.size:=by rw[seen,hsz.1,hsame.2.1]
 have hput:∀v,dstV o ((seen ops (slotV ops a) i a0).put o.dst v)=if o.dst.isSome then v else undef:=by
  intro v
  unfold dstV
  cases hd:o.dst with
  | none=>rfl
  | some d =>
   simp only[Option.isSome_some,if_true];rw [getD_put,if_pos ⟨rfl,by rw[seen,hsz.1];exact (okRG_spec hok ho).2.1 d hd⟩]
 simp only[wpList]at hu;rw [wanted_same hsz' hslots]at hu;by_cases hw:Region.wanted o (yielded ops a.tmps)=true
 · rw[if_pos hw]at hu ⊢
   have hexec:execOp a.eval o=execOp (seen ops (slotV ops a) i a0).eval o:=by
    refine execOp_congr o (fun cs b e=>by rw[e]at hsel;simp at hsel) fun x hx=>?_
    cases x with
    | tmp t=>exact (hslots t (List.mem_append_left _ (List.mem_filterMap.2 ⟨.tmp t,by simpa using hx,rfl⟩))).symm
    | _=>rfl
   rcases hu with hu|hu
   · unfold Oper.wp at hu ⊢
     rw[hexec];generalize (execOp (seen ops (slotV ops a) i a0).eval o).run P w=r at hu
     cases r with
     | halt x w'=>cases x <;> simp only[Oper.upon]at hu ⊢ <;> first|exact absurd hu.1 (by simp)|exact hu
     | ok nx w' =>
      cases nx <;> simp only[Oper.upon]at hu ⊢
      case value v=>exact⟨v,rfl,hu.2.2.1,by rw[←hput];exact hu.2.2.2⟩
      case skip=>exact⟨undef,rfl,hu.2.2.1,by rw[←hput];exact hu.2.2.2⟩
      case defer d =>
       exfalso
       have:=hu.2.1;have h9:=congrArg List.length this;cases hd:o.dst <;> simp[hd,Act.put,seen,hsz.2]at h9
      case enter f args =>
       refine Calls.mono hu fun e w'' he=>?_
       cases e with
       | returned v=>exact⟨v,rfl,he.2.2.1,by rw[←hput];exact he.2.2.2⟩
       | panicked c=>exact absurd he.1 (by simp)
       | outgrown=>exact (not_letsOut (R:=fun v w'=>R i (argV ks (slotV ops a) i) v w'/\F i v w w') he).elim
      case row s args=>exact Rows.mono hu fun v w'' he=>⟨v,rfl,he.2.2.1,by rw[←hput];exact he.2.2.2⟩
      all_goals exact hu.elim
   · exact (not_letsOut (R:=fun v w'=>R i (argV ks (slotV ops a) i) v w'/\F i v w w') hu.2).elim
 · rw[if_neg hw]at hu ⊢;have h9:=hu.2.2.2;rw [hput]at h9
   split at h9 <;> exact h9
theorem any_region_rg {F:Nat->Value->World->World->Prop} {K:World->World->Prop} (hK:Cls K) (ks:Nat->Option Nat) {l:List Oper} {Q:Exit->Act->World->Prop} {a0:Act} {w0:World} (n:Nat) (R:Nat->Value->Value->World->Prop) (S:Nat->Bool) (hKz:∀w w',K w w'->w.heap.size<=w'.heap.size) (hF:∀p,S p=true->∀v w w',F p v w w'->v=.pointer (some ⟨w.heap.size,0,none⟩)/\w.heap.size<w'.heap.size)
 (hB:(okRG l.toArray a0.tmps.size&&looksG l.toArray n&&(decide (l.length<=n)||(Region.sinkB .any l.toArray n&&Region.chainB .any l.toArray n))&&decide (n<=l.length)&&Region.seqB .any l.toArray (l.length-n) n ((List.range l.length).map fun i=>decide (i<n)).toArray)=true)
 (hks:∀i o k,l.toArray[i]? = some o->ks i=some k->∃e∈o.after,Region.binds .any e=true/\e.on=k) (hst:∀i x v w w',R i x v w->K w w'->R i x v w') (hsteps:UsersRG F K ks P l.toArray R w0 a0 0 (l.take n))
 (hfin:∀vs w',K w0 w'->(∀i,i<n->R i (argV ks vs i) (vs i) w')->(∀p q,p<n->q<n->S p=true->S q=true->p≠q->vs p≠vs q)->wpList P l.toArray Q (l.drop n) (putAll vs 0 (l.take n) a0) w'):wpAny P .any l.toArray Q l.toArray.size (Array.replicate l.toArray.size false) a0 { w0 with drawn:=w0.drawn+1 }:=by
 simp only[Bool.and_eq_true,decide_eq_true_eq]at hB;obtain ⟨⟨⟨⟨hok,hlk⟩,hsc⟩,hn⟩,hseq⟩:=hB
 have hsc':l.toArray.size<=n∨(Region.sinkB .any l.toArray n=true/\Region.chainB .any l.toArray n=true):=by
  rw[Bool.or_eq_true,Bool.and_eq_true,decide_eq_true_eq]at hsc;simpa using hsc
 have hn':n<=l.toArray.size:=by simpa using hn
 have hb0:K w0 { w0 with drawn:=w0.drawn+1 }:=hK.drawn w0 _
 have inv0:HeadInv .any l.toArray n (Array.replicate l.toArray.size false) :=
  ⟨by simp,fun j oj _ hl=>(by rw[getD_replicate_false]at hl;cases hl),fun t _ ht=>getD_in (by simpa using ht) (getD_replicate_false _ _)⟩
 have H:=any_rg (F:=F) (ks:=ks) hK S hKz hF (P:=P) (ops:=l.toArray) (R:=R) (w0:=w0) (a0:=a0) (Q:=Q) (n:=n) (g:=l.length-n) hok hsc' hn' hks hst (fun i o hi ho=>step_of_userG hok hlk hi hn' ho (by
  have:=UsersRG.get (l.take n) 0 i o hsteps (by rw[List.getElem?_take,if_pos hi];simpa using ho)
  rwa [Nat.zero_add]at this)) (fun listed a w inv hall hb hsame hR hdq=>by
  have hlst:listed=((List.range l.length).map fun i=>decide (i<n)).toArray:=by
   apply Array.ext
   · simp[inv.size]
   · intro i h1 h2;have hi:i<l.length:=by simpa using h2
     simp only[List.getElem_toArray,List.getElem_map,List.getElem_range]
     rcases Nat.lt_or_ge i n with h|h
     · have:=hall i h;simp [Array.getD_eq_getD_getElem?,h1]at this
       simp[h,this]
     · have:=inv.tail i h (by simpa using hi);simp [Array.getD_eq_getD_getElem?,h1]at this
       simp[this];omega
  have hfr:a=putAll (slotV l.toArray a) 0 (l.take n) a0:=by
   have hsz:=putAll_size (slotV l.toArray a) (l.take n) 0 a0
   have key:a.tmps=(putAll (slotV l.toArray a) 0 (l.take n) a0).tmps:=by
    apply Array.ext
    · rw[hsz.1,hsame.2.1]
    · intro t h1 h2;have e1:a.tmps[t]=a.tmps.getD t undef:=by simp[Array.getD_eq_getD_getElem?,h1]
      have e2:(putAll (slotV l.toArray a) 0 (l.take n) a0).tmps[t]=(putAll (slotV l.toArray a) 0 (l.take n) a0).tmps.getD t undef:=by simp[Array.getD_eq_getD_getElem?,h2]
      rw[e1,e2];by_cases hw:∃(j:Nat) (oj:Oper),j<n/\l.toArray[j]? = some oj/\oj.dst=some t
      · obtain⟨j,oj,hjn,hj,hd⟩:=hw;have hsp:=okRG_spec hok hj;rw [putAll_eq (slotV l.toArray a) t (l.take n) 0 j oj a0 (by rw[List.getElem?_take,if_pos hjn];simpa using hj) hd (fun k o' hjk hk hd'=>hsp.2.2 k o' t t (by omega) (by simpa using (take_get' hk).2) hd' hd rfl) (hsp.2.1 t hd)];have hj':l[j]? = some oj:=by simpa using hj
        simp[slotV,hj',hd]
      · have hno:∀(j:Nat) (oj:Oper),j<n->l.toArray[j]? = some oj->oj.dst≠some t:=fun j oj hjn hj hd=>hw ⟨j,oj,hjn,hj,hd⟩
        rw[hsame.2.2 t hno];refine (putAll_ne _ _ _ _ _ fun o ho=>?_).symm;obtain ⟨j,hj⟩:=List.mem_iff_getElem?.1 ho;exact hno j o (take_get' hj).1 (by simpa using (take_get' hj).2)
   have kd:a.defers=(putAll (slotV l.toArray a) 0 (l.take n) a0).defers:=by rw[hsz.2,hsame.1]
   exact act_ext key kd
  have h2:=hfin (slotV l.toArray a) w hb hR hdq;rw [←hfr]at h2;have h3:=wpAny_of_seq (P:=P) (ops:=l.toArray) (md:=.any) (Q':=Q) (l.drop n) n listed a w (fun j=>by simp[List.getElem?_drop]) (by rw[hlst];simpa using hseq) h2
  simpa using h3) n (Array.replicate l.toArray.size false) a0 { w0 with drawn:=w0.drawn+1 } inv0 (by
   have:(List.range n).countP (fun i=> !(Array.replicate l.toArray.size false).getD i true)=(List.range n).length:=List.countP_eq_length.2 fun i hi=>by
    have:=List.mem_range.1 hi;simp [Array.getD_eq_getD_getElem?,show i<l.length by omega]
   simpa using this) hb0 ⟨rfl,rfl,fun _ _=>rfl⟩ (fun i _ h=>by rw[getD_replicate_false]at h;cases h) ⟨fun p _ _ h=>(by rw[getD_replicate_false]at h;cases h),fun p q _ _ _ _ _ h=>(by rw[getD_replicate_false]at h;cases h)⟩
 rw[show n+(l.length-n)=l.toArray.size by simp;omega]at H;exact H
end
abbrev Rl:=Value->Value->World->Prop
def Stab (K:World->World->Prop) (p:Rl):Prop:=∀x v w w',p x v w->K w w'->p x v w'
def Eqv (u:Value):Rl:=fun _ v _=>v=u
def Anyv:Rl:=fun _ _ _=>True
theorem stab_eqv {K:World->World->Prop} (u:Value):Stab K (Eqv u):=fun _ _ _ _ h _=>h
theorem stab_any {K:World->World->Prop}:Stab K Anyv:=fun _ _ _ _ _ _=>trivial
def rel (ps:List Rl) (i:Nat):Rl:=ps.getD i Anyv
def AllS (K:World->World->Prop):List Rl->Prop
 | []=>True
 | p :: l=>Stab K p/\AllS K l
def AllR (ks:Nat->Option Nat) (vs:Nat->Value) (w:World):Nat->List Rl->Prop
 | _,[]=>True
 | k,p :: l=>p (argV ks vs k) (vs k) w/\AllR ks vs w (k+1) l
theorem AllS.get {K:World->World->Prop}:∀(ps:List Rl) (i:Nat),AllS K ps->Stab K (ps.getD i Anyv)
 | [],i,_=>by simpa using stab_any
 | p :: l,0,h=>by simpa using h.1
 | p :: l,i+1,h=>by simpa using AllS.get l i h.2
theorem AllR_of {ks:Nat->Option Nat} {vs:Nat->Value} {w:World}:∀(ps:List Rl) (k:Nat),(∀i,i<ps.length->(ps.getD i Anyv) (argV ks vs (k+i)) (vs (k+i)) w)->AllR ks vs w k ps
 | [],_,_=>trivial
 | p :: l,k,h=>⟨by simpa using h 0 (by simp),AllR_of l (k+1) fun i hi=>by
  have:=h (i+1) (by simp;omega)
  rw[show k+1+i=k+(i+1) by omega];simpa using this⟩
def depB (o:Oper) (j:Nat):Bool:=o.after.toList.any fun e=>Region.binds .any e&&e.on==j
def putD (vs:Nat->Value):Nat->List (Option Tmp)->Act->Act
 | _,[],a=>a
 | k,d :: rest,a=>putD vs (k+1) rest (a.put d (vs k))
theorem putAll_D (vs:Nat->Value):∀(l:List Oper) (k:Nat) (a:Act),putAll vs k l a=putD vs k (l.map (·.dst)) a
 | [],_,_=>rfl
 | o :: l,k,a=>putAll_D vs l (k+1) _
def UsersG (F:Nat->Value->World->World->Prop) (K:World->World->Prop) (ks:Nat->Option Nat) (P:Program) (ops:Array Oper) (ps:List Rl) (w0:World) (a0:Act):Nat->List (Option Tmp)->List Oper->List Rl->Prop
 | k,pre,o :: l,q :: qs=>(∀(vs:Nat->Value) (w:World),K w0 w->(∀j,depB o j=true->rel ps j (argV ks vs j) (vs j) w) ->
  wpList P ops (fun e a' w'=>e=.normal/\a'.defers=a0.defers/\K w w'/\q (argV ks vs k) (dstV o a') w'/\F k (dstV o a') w w') [o] (putD vs 0 pre a0) w)/\UsersG F K ks P ops ps w0 a0 (k+1) (pre++[o.dst]) l qs
 | _,_,_,_=>True
theorem AllE_get {ks:Nat->Option Nat} {R:Nat->Value->Value->World->Prop} {vs:Nat->Value} {w:World}:∀(l:List Edge),AllE ks R vs w l->∀e∈l,Region.binds .any e=true->R e.on (argV ks vs e.on) (vs e.on) w
 | [],_,e,he,_=>by cases he
 | x :: l,h,e,he,hb=>by
  rcases List.mem_cons.1 he with rfl|he
  · exact h.1 hb
  · exact AllE_get l h.2 e he hb
theorem UsersG.rg {F:Nat->Value->World->World->Prop} {K:World->World->Prop} {ks:Nat->Option Nat} {P:Program} {ps:List Rl} {w0:World} {a0:Act} {L:List Oper} {n:Nat} (hnp:n<=ps.length):∀(l:List Oper) (k:Nat),(∀j,l[j]? = (L.take n)[k+j]?)->UsersG F K ks P L.toArray ps w0 a0 k ((L.take k).map (·.dst)) l (ps.drop k)->UsersRG F K ks P L.toArray (rel ps) w0 a0 k l
 | [],_,_,_=>trivial
 | o :: l,k,hl,h=>by
  have h0:(L.take n)[k]? = some o:=by simpa using (hl 0).symm
  obtain⟨hkn,hLo⟩:=take_get' h0;have hkp:k<ps.length:=by omega
  rw[List.drop_eq_getElem_cons hkp]at h;refine ⟨fun vs w hb hE=>?_,UsersG.rg hnp l (k+1) (fun j=>by have:=hl (j+1);simpa [Nat.add_assoc,Nat.add_comm 1 j] using this) ?_⟩
  · have hu:=h.1 vs w hb fun j hj=>by
     obtain⟨e,he,hej⟩:=List.any_eq_true.1 hj;simp only[Bool.and_eq_true,beq_iff_eq]at hej;have:=AllE_get _ hE e he hej.1
     rwa [hej.2]at this
    have hfr:seen L.toArray vs k a0=putD vs 0 ((L.take k).map (·.dst)) a0:=putAll_D vs _ 0 a0;rw [hfr];have hq:ps[k]=rel ps k:=by simp[rel,List.getD_eq_getElem?_getD,hkp]
    rw[hq]at hu;exact hu
  · have h2:=h.2
    have e1:(L.take k).map (·.dst)++[o.dst]=(L.take (k+1)).map (·.dst):=by
     rw[List.take_add_one,hLo];simp
    rw[e1]at h2;exact h2
def ksOf (l:List (Nat × Nat)) (i:Nat):Option Nat:=(l.find? (·.1==i)).map (·.2)
def ksB (L:List Oper) (l:List (Nat × Nat)):Bool:=l.all fun p=>match L[p.1]? with|some o=>depB o p.2|none=>true
theorem ksB_spec {L:List Oper} {l:List (Nat × Nat)} (h:ksB L l=true) (i:Nat) (o:Oper) (k:Nat) (ho:L.toArray[i]? = some o) (hk:ksOf l i=some k):∃e∈o.after,Region.binds .any e=true/\e.on=k:=by
 unfold ksOf at hk
 cases hf:l.find? (·.1==i) with
 | none=>rw[hf]at hk;cases hk
 | some p =>
  rw[hf]at hk;have hp:=List.find?_some hf;have hm:=List.mem_of_find?_eq_some hf;have h1:=List.all_eq_true.1 h p hm;have e1:p.1=i:=by simpa using hp
  have e2:p.2=k:=by simpa using hk
  have ho':L[i]? = some o:=by simpa using ho
  rw[e1,ho']at h1;simp only[e2]at h1;obtain ⟨e,he,hej⟩:=List.any_eq_true.1 h1;simp only[Bool.and_eq_true,beq_iff_eq]at hej;exact ⟨e,by simpa using he,hej.1,hej.2⟩
theorem any_region_rgl {F:Nat->Value->World->World->Prop} {K:World->World->Prop} (hK:Cls K) (kl:List (Nat × Nat)) {P:Program} {l:List Oper} {Q:Exit->Act->World->Prop} {a0:Act} {w0:World} (ps:List Rl) (n sz:Nat) (S:Nat->Bool) (hKz:∀w w',K w w'->w.heap.size<=w'.heap.size) (hF:∀p,S p=true->∀v w w',F p v w w'->v=.pointer (some ⟨w.heap.size,0,none⟩)/\w.heap.size<w'.heap.size) (hnp:ps.length=n) (hsz:a0.tmps.size=sz)
 (hB:(okRG l.toArray sz&&looksG l.toArray n&&(decide (l.length<=n)||(Region.sinkB .any l.toArray n&&Region.chainB .any l.toArray n))&&decide (n<=l.length)&&Region.seqB .any l.toArray (l.length-n) n ((List.range l.length).map fun i=>decide (i<n)).toArray)=true)
 (hkl:ksB l kl=true) (hst:AllS K ps) (hsteps:UsersG F K (ksOf kl) P l.toArray ps w0 a0 0 [] (l.take n) ps)
 (hfin:∀vs w',K w0 w'->AllR (ksOf kl) vs w' 0 ps->(∀p q,p<n->q<n->S p=true->S q=true->p≠q->vs p≠vs q)->wpList P l.toArray Q (l.drop n) (putD vs 0 ((l.take n).map (·.dst)) a0) w'):wpAny P .any l.toArray Q l.toArray.size (Array.replicate l.toArray.size false) a0 { w0 with drawn:=w0.drawn+1 }:=by
 subst hnp hsz;refine any_region_rg (F:=F) hK (ksOf kl) ps.length (rel ps) S hKz hF hB (ksB_spec hkl) (fun i x v w w' h hb=>AllS.get ps i hst x v w w' h hb) (UsersG.rg (Nat.le_refl _) (l.take ps.length) 0 (fun j=>by simp) hsteps) fun vs w' hb hR hdq=>by rw[putAll_D];exact hfin vs w' hb (AllR_of ps 0 fun i hi=>by rw[Nat.zero_add];exact hR i hi) hdq
theorem wp_region_rgl {F:Nat->Value->World->World->Prop} {K:World->World->Prop} (hK:Cls K) (kl:List (Nat × Nat)) {P:Program} {id:Nat} {l:List Oper} {Q:Exit->Act->World->Prop} {a0:Act} {w0:World} (ps:List Rl) (n sz:Nat) (S:Nat->Bool) (hKz:∀w w',K w w'->w.heap.size<=w'.heap.size) (hF:∀p,S p=true->∀v w w',F p v w w'->v=.pointer (some ⟨w.heap.size,0,none⟩)/\w.heap.size<w'.heap.size) (hm:P.follows .mixedOrders=true) (hnp:ps.length=n) (hsz:a0.tmps.size=sz)
 (hB:(okRG l.toArray sz&&looksG l.toArray n&&(decide (l.length<=n)||(Region.sinkB .any l.toArray n&&Region.chainB .any l.toArray n))&&decide (n<=l.length)&&Region.seqB .any l.toArray (l.length-n) n ((List.range l.length).map fun i=>decide (i<n)).toArray)=true)
 (hkl:ksB l kl=true) (hst:AllS K ps) (hsteps:UsersG F K (ksOf kl) P l.toArray ps w0 a0 0 [] (l.take n) ps)
 (hfin:∀vs w',K w0 w'->AllR (ksOf kl) vs w' 0 ps->(∀p q,p<n->q<n->S p=true->S q=true->p≠q->vs p≠vs q)->wpList P l.toArray Q (l.drop n) (putD vs 0 ((l.take n).map (·.dst)) a0) w'):(Code.region id l.toArray true).wp P Q a0 w0 :=
 wp_region_any hm (any_region_rgl hK kl ps n sz S hKz hF hnp hsz hB hkl hst hsteps hfin)
end Go.Proofs.YtelljijajgiabaaGreatDoor.RA
namespace Go.Proofs.YtelljijajgiabaaGreatDoor
open Go.RowKit Go.Shelf
theorem results_Q1 {fn:Func} {t:Tmp} {g:Nat} {n d:ByteArray} (h:fn.results=#[.cell t 51]) (tmps:Array Value) (w:World) (ht:tmps.getD t undef=.pointer (some ⟨g,0,none⟩)) (hB:Bx w g 51 #[.string n,.string d]) :
 (results fn tmps).run Tryz.prog w=.ok (.agg #[.string n,.string d]) w:=by
 have h0:=hB.cell 0 rfl;have h1:=hB.cell 1 rfl;have ht':tmps[t]?.getD undef=.pointer (some ⟨g,0,none⟩):=by simpa using ht
 simp only[results,h];simp [go_sem,ht',h0,h1,loadVar]
theorem ratio_t (f:Nat->Int) (g1 g2 g3 g4:Nat) (k n:Nat) (den:Int) (q:Rat) (sd qa qb:List UInt8) (w:World) (hf:∀i,Rq.Sz 183 (f i)) (hn:n<=100) (hk:k<=n+1) (hd:0<den) (hds:Rq.Sz 160 den) (hsd:Ix den sd) (hE:Env w) (hq:Kp (Rat.divInt (Tb.sm f k (n+1-k)) den=q)) (lq:LQ q qa qb)
 (hT:∀(i:Nat) (s:List UInt8) (W:World),k<=i->i<=n->Ix (f i) s->Below w.heap.size w W->Calls Tryz.prog 191 #[.int .i64 i,.pointer (some ⟨g1,0,none⟩),.pointer (some ⟨g2,0,none⟩),.pointer (some ⟨g3,0,none⟩),.pointer (some ⟨g4,0,none⟩)] W fun e w'=>e=.returned (.string ⟨s.toArray⟩)/\Below W.heap.size W w') :
 Calls Tryz.prog 154 #[.int .i64 k,.int .i64 n,.string ⟨sd.toArray⟩,.func (.func 191) #[] #[.pointer (some ⟨g1,0,none⟩),.pointer (some ⟨g2,0,none⟩),.pointer (some ⟨g3,0,none⟩),.pointer (some ⟨g4,0,none⟩)]] w fun e w'=>e=.returned (.agg #[.string ⟨qa.toArray⟩,.string ⟨qb.toArray⟩])/\Below w.heap.size w w':=by
 have hb0:=bNewW w (.cells #[.string ⟨#[]⟩,.string ⟨#[]⟩] 51);have BR:=Bx.mk w 51 #[.string ⟨#[]⟩,.string ⟨#[]⟩];have z0:Ix 0 [48]:=⟨itoa_0⟩
 go_enter Tryz.func154,Tryz.ntmps154
 go_wp2_with fail
 go_loopw [9,10] (fun s9 s10 wr=>∃(i:Nat) (s:List UInt8),s10=.int .i64 i/\s9=.string ⟨s.toArray⟩/\k<=i/\i<=n+1/\Ix (Tb.sm f k (i-k)) s/\Bx wr w.heap.size 51 #[.string ⟨#[]⟩,.string ⟨#[]⟩]/\Below w.heap.size w wr) (fun _ s10 _=>n+1-(intOf s10).toNat)
 case atStart=>exact⟨k,[48],rfl,rfl,Nat.le_refl _,hk,by rw[Nat.sub_self];exact z0,BR,hb0⟩
 case round =>
  clear hb0 BR z0;obtain ⟨i,s,rfl,rfl,hki,hin,hs,hB,hb⟩:=hrel;have hEr:=hE.below hb;by_cases hlt:i<=n
  · have t0:decide ((i:Int)<=(n:Int))=true:=by simp;omega
    obtain⟨st,est⟩:=Ix.ex (f i);obtain ⟨s2,es2⟩:=Ix.ex (Tb.sm f k (i+1-k));have hC:=hT i st wr hki hlt est hb;have hP:=fun w1 (hb1:Below wr.heap.size wr w1)=>plus_s w1 hs est es2 ⟨by rw[show i+1-k=(i-k)+1 by omega];show _=Tb.sm f k (i-k)+f (k+(i-k));rw[show k+(i-k)=i by omega]⟩ (Tb.sm_sz k hf (by omega)) (hf i) (Tb.sm_sz k hf (by omega)) (by decide) (by decide) (by decide) (hEr.below hb1)
    clear hT hs est hEr hE;go_wp2_with fail;refine hC.mono ?_;rintro _ w1 ⟨rfl,hb1⟩;have hP1:=hP w1 hb1;clear hC hP;go_wp2_with fail;refine hP1.mono ?_;rintro _ w2 ⟨rfl,hb2⟩;clear hP1;replace hB:=(hB.call hb1).call hb2;replace hb:=bCall (bCall hb hb1) hb2;clear hb1 hb2;go_wp2;exact ⟨⟨i+1,s2,by go_num,rfl,by omega,by omega,es2,hB,hb⟩,by simp[intOf] <;> omega⟩
  · obtain rfl:i=n+1:=by omega
    have hM:=Make_ok (Tb.sm f k (n+1-k)) den wr ((Tb.sm_sz (j:=183) k hf (m:=n+1-k) (by omega)).fits (by decide)) (hds.fits (by decide)) (by omega) hEr;rw [hs.out,hsd.out,hq.out,lq.eq]at hM;have t0:decide (((n+1:Nat):Int)<=(n:Int))=false:=by simp;omega
    clear hT hs hE hEr hq lq;go_wp2_with fail;refine hM.mono ?_;rintro _ w1 ⟨rfl,hb1⟩;clear hM;have B2:=(hB.call hb1).new (.cells #[.string ⟨qa.toArray⟩,.string ⟨qb.toArray⟩] 51);have B3:=Bx.mk w1 51 #[.string ⟨qa.toArray⟩,.string ⟨qb.toArray⟩];have hb2:=bNew (bCall hb hb1) (.cells #[.string ⟨qa.toArray⟩,.string ⟨qb.toArray⟩] 51);have c0:=B2.cell 0 rfl;have c1:=B2.cell 1 rfl;have f0:=B2.frozen 0;have f1:=B2.frozen 1;have d0:=B3.cell 0 rfl;have d1:=B3.cell 1 rfl;have B4:=(B2.set 0 (.string ⟨qa.toArray⟩)).set 1 (.string ⟨qb.toArray⟩);have hb4:=bSet (bSet hb2 (p:=⟨w.heap.size,0,none⟩) (Nat.le_refl _) (.string ⟨qa.toArray⟩)) (p:=⟨w.heap.size,1,none⟩) (Nat.le_refl _) (.string ⟨qb.toArray⟩);clear hB hb hb1;go_wp2;exact bodyPost_ret (results_Q1 rfl _ _ rfl B4) rfl ⟨rfl,hb4⟩
theorem ratio_h (f:Nat->Int) (g1 g2 g3:Nat) (k n:Nat) (den:Int) (q:Rat) (sd qa qb:List UInt8) (w:World) (hf:∀i,Rq.Sz 183 (f i)) (hn:n<=100) (hk:k<=n+1) (hd:0<den) (hds:Rq.Sz 160 den) (hsd:Ix den sd) (hE:Env w) (hq:Kp (Rat.divInt (Tb.sm f k (n+1-k)) den=q)) (lq:LQ q qa qb)
 (hT:∀(i:Nat) (s:List UInt8) (W:World),k<=i->i<=n->Ix (f i) s->Below w.heap.size w W->Calls Tryz.prog 155 #[.int .i64 i,.pointer (some ⟨g1,0,none⟩),.pointer (some ⟨g2,0,none⟩),.pointer (some ⟨g3,0,none⟩)] W fun e w'=>e=.returned (.string ⟨s.toArray⟩)/\Below W.heap.size W w') :
 Calls Tryz.prog 154 #[.int .i64 k,.int .i64 n,.string ⟨sd.toArray⟩,.func (.func 155) #[] #[.pointer (some ⟨g1,0,none⟩),.pointer (some ⟨g2,0,none⟩),.pointer (some ⟨g3,0,none⟩)]] w fun e w'=>e=.returned (.agg #[.string ⟨qa.toArray⟩,.string ⟨qb.toArray⟩])/\Below w.heap.size w w':=by
 have hb0:=bNewW w (.cells #[.string ⟨#[]⟩,.string ⟨#[]⟩] 51);have BR:=Bx.mk w 51 #[.string ⟨#[]⟩,.string ⟨#[]⟩];have z0:Ix 0 [48]:=⟨itoa_0⟩
 go_enter Tryz.func154,Tryz.ntmps154
 go_wp2_with fail
 go_loopw [9,10] (fun s9 s10 wr=>∃(i:Nat) (s:List UInt8),s10=.int .i64 i/\s9=.string ⟨s.toArray⟩/\k<=i/\i<=n+1/\Ix (Tb.sm f k (i-k)) s/\Bx wr w.heap.size 51 #[.string ⟨#[]⟩,.string ⟨#[]⟩]/\Below w.heap.size w wr) (fun _ s10 _=>n+1-(intOf s10).toNat)
 case atStart=>exact⟨k,[48],rfl,rfl,Nat.le_refl _,hk,by rw[Nat.sub_self];exact z0,BR,hb0⟩
 case round =>
  clear hb0 BR z0;obtain ⟨i,s,rfl,rfl,hki,hin,hs,hB,hb⟩:=hrel;have hEr:=hE.below hb;by_cases hlt:i<=n
  · have t0:decide ((i:Int)<=(n:Int))=true:=by simp;omega
    obtain⟨st,est⟩:=Ix.ex (f i);obtain ⟨s2,es2⟩:=Ix.ex (Tb.sm f k (i+1-k));have hC:=hT i st wr hki hlt est hb;have hP:=fun w1 (hb1:Below wr.heap.size wr w1)=>plus_s w1 hs est es2 ⟨by rw[show i+1-k=(i-k)+1 by omega];show _=Tb.sm f k (i-k)+f (k+(i-k));rw[show k+(i-k)=i by omega]⟩ (Tb.sm_sz k hf (by omega)) (hf i) (Tb.sm_sz k hf (by omega)) (by decide) (by decide) (by decide) (hEr.below hb1)
    clear hT hs est hEr hE;go_wp2_with fail;refine hC.mono ?_;rintro _ w1 ⟨rfl,hb1⟩;have hP1:=hP w1 hb1;clear hC hP;go_wp2_with fail;refine hP1.mono ?_;rintro _ w2 ⟨rfl,hb2⟩;clear hP1;replace hB:=(hB.call hb1).call hb2;replace hb:=bCall (bCall hb hb1) hb2;clear hb1 hb2;go_wp2;exact ⟨⟨i+1,s2,by go_num,rfl,by omega,by omega,es2,hB,hb⟩,by simp[intOf] <;> omega⟩
  · obtain rfl:i=n+1:=by omega
    have hM:=Make_ok (Tb.sm f k (n+1-k)) den wr ((Tb.sm_sz (j:=183) k hf (m:=n+1-k) (by omega)).fits (by decide)) (hds.fits (by decide)) (by omega) hEr;rw [hs.out,hsd.out,hq.out,lq.eq]at hM;have t0:decide (((n+1:Nat):Int)<=(n:Int))=false:=by simp;omega
    clear hT hs hE hEr hq lq;go_wp2_with fail;refine hM.mono ?_;rintro _ w1 ⟨rfl,hb1⟩;clear hM;have B2:=(hB.call hb1).new (.cells #[.string ⟨qa.toArray⟩,.string ⟨qb.toArray⟩] 51);have B3:=Bx.mk w1 51 #[.string ⟨qa.toArray⟩,.string ⟨qb.toArray⟩];have hb2:=bNew (bCall hb hb1) (.cells #[.string ⟨qa.toArray⟩,.string ⟨qb.toArray⟩] 51);have c0:=B2.cell 0 rfl;have c1:=B2.cell 1 rfl;have f0:=B2.frozen 0;have f1:=B2.frozen 1;have d0:=B3.cell 0 rfl;have d1:=B3.cell 1 rfl;have B4:=(B2.set 0 (.string ⟨qa.toArray⟩)).set 1 (.string ⟨qb.toArray⟩);have hb4:=bSet (bSet hb2 (p:=⟨w.heap.size,0,none⟩) (Nat.le_refl _) (.string ⟨qa.toArray⟩)) (p:=⟨w.heap.size,1,none⟩) (Nat.le_refl _) (.string ⟨qb.toArray⟩);clear hB hb hb1;go_wp2;exact bodyPost_ret (results_Q1 rfl _ _ rfl B4) rfl ⟨rfl,hb4⟩
structure Pw (a:Int) (n g:Nat) (W:World):Prop where
 out:∃A cap,Bx W g 192 #[.slice A (n+1) cap]/\At 1 strC W W.heap.size A (pwl a n)/\n+1<=cap
theorem Pw.call {a:Int} {n g:Nat} {W W':World} (h:Pw a n g W) (hb:Below W.heap.size W W'):Pw a n g W':=by
 obtain⟨A,cap,h1,h2,h3⟩:=h.out;exact ⟨A,cap,h1.call hb,(h2.below hb).more hb.size,h3⟩
structure Tl (n:Nat) (c e:Int) (gn ga gr gy go:Nat) (W:World):Prop where
 hn:Bx W gn 3 #[.int .i64 n]
 hr:Bx W gr 180 (rowC (pt n))
 hy:Pw c n gy W
 ho:Pw (e-c) n go W
 ha:Pw e n ga W
theorem Tl.call {n:Nat} {c e:Int} {gn ga gr gy go:Nat} {W W':World} (h:Tl n c e gn ga gr gy go W) (hb:Below W.heap.size W W'):Tl n c e gn ga gr gy go W' :=
 ⟨h.hn.call hb,h.hr.call hb,h.hy.call hb,h.ho.call hb,h.ha.call hb⟩
theorem Pw.cells {a:Int} {n g:Nat} {W:World} (h:Pw a n g W):∃b off cap,n+1<=cap/\(∀d os,(Sort.grow (redrawn W d) os).cell? ⟨g,0,none⟩=some (.slice (some ⟨b,off,none⟩) (n+1) cap)) /\
 ∀(j:Nat) (s:List UInt8),j<=n->Ix (a ^ j) s->∀d os,(Sort.grow (redrawn W d) os).cell? ⟨b,off+j,none⟩=some (.string ⟨s.toArray⟩):=by
 obtain⟨A,cap,h1,h2,h3⟩:=h.out;obtain ⟨b,off,rfl,hb,hc⟩:=h2 (by rw[pwl_len];omega);refine ⟨b,off,cap,h3,fun d os=>(h1.again d os).cell 0 rfl,fun j s hj hs d os=>?_⟩;have h4:=hc j _ (pwl_get a (by omega)) 0 _ rfl;rw [Nat.mul_one,Nat.add_zero,hs.out]at h4;exact ((below_regrown W d os).cell (p:=⟨b,off+j,none⟩) hb).trans h4
theorem term_any (n i:Nat) (c e:Int) (gn ga gr gy go:Nat) (s:List UInt8) (w:World) (hT:Tl n c e gn ga gr gy go w) (hn:n<=50) (hi:i<=n) (h0:0<=c) (h1:c<=e) (h2:e<=1000) (hs:Ix (Tb.tm n c (e-c) i) s) (hE:Env w) :
 Calls Tryz.prog 191 #[.int .i64 i,.pointer (some ⟨gr,0,none⟩),.pointer (some ⟨gy,0,none⟩),.pointer (some ⟨go,0,none⟩),.pointer (some ⟨gn,0,none⟩)] w fun e' w'=>e'=.returned (.string ⟨s.toArray⟩)/\Below w.heap.size w w':=by
 obtain⟨by_,oy,cy,hcy,yb,yc⟩:=hT.hy.cells;obtain ⟨bo,oo,co,hco,ob,oc⟩:=hT.ho.cells;obtain ⟨s1,e1⟩:=Ix.ex (c ^ i);obtain ⟨s2,e2⟩:=Ix.ex ((e-c) ^ (n-i));obtain ⟨s3,e3⟩:=Ix.ex (c ^ i*(e-c) ^ (n-i));have e4:=pt_sum n i;have gN:=fun d os=>(hT.hn.again d os).cell 0 rfl
 have gR:=fun d os=>(hT.hr.again d os).cell i (rowC_get (pt n) (by omega))
 have y1:=yc i s1 hi e1;have o1:=oc (n-i) s2 (by omega) e2;have k1:=fun d os=>times_s (Sort.grow (redrawn w d) os) e1 e2 e3 ⟨rfl⟩ (Tb.pow_sz h0 (by omega) i) (Tb.pow_sz (c:=e-c) (by omega) (by omega) (n-i)) ((Tb.pow_sz h0 (by omega) i).mul (Tb.pow_sz (c:=e-c) (by omega) (by omega) (n-i))) (by omega) (by omega) (by omega) (hE.below (below_regrown w d os))
 have k2:=fun d os=>times_s (Sort.grow (redrawn w d) os) e4 e3 hs ⟨rfl⟩ (Tb.ch_sz (by omega) i) ((Tb.pow_sz h0 (by omega) i).mul (Tb.pow_sz (c:=e-c) (by omega) (by omega) (n-i))) (Tb.tm_sz hn h0 (by omega) (d:=e-c) (by omega) (by omega) i) (by decide) (by omega) (by decide) (hE.below (below_regrown w d os))
 obtain⟨m,hm⟩:∃m,n-i=m:=⟨_,rfl⟩
 have hni:(n:Int)-(i:Int)=(m:Int):=by omega
 rw[hm]at o1;have hm2:m<=n:=by omega
 generalize pt n i=sp at *;clear yc oc hT e1 e2 e3 e4 hs hE hm
 go_enter Tryz.func191,Tryz.ntmps191
 go_wp2;refine wp_region_quiet_below (by kernel_rfl) (by kernel_rfl) ?_
 repeat (go_big_quiet_step (first
  | (go_at_call 156;with_reducible exact Calls.regrown_of (k1 _ _))
  | (go_at_call 156;with_reducible exact Calls.regrown_of (k2 _ _))))
 refine wpQuiet_nil ?_;rintro _ ⟨z,rfl⟩;have hbz:=below_regrown w z.d z.os;clear k1 k2 yb ob y1 o1 gN gR;generalize Sort.grow (redrawn w z.d) z.os=W2 at *;go_wp2;go_ret;exact ⟨rfl,hbz⟩
theorem tail_any (n k:Nat) (c e:Int) (gn ga gr gy go:Nat) (qa qb:List UInt8) (w:World) (hT:Tl n c e gn ga gr gy go w) (hn:n<=50) (hk:k<=n+1) (h0:0<=c) (h1:c<=e) (h2:e<=1000) (h3:1<=e) (lq:LQ (Tb.Pq n k c (e-c)) qa qb) (hE:Env w) :
 Calls Tryz.prog 190 #[.int .i64 k,.pointer (some ⟨gn,0,none⟩),.pointer (some ⟨ga,0,none⟩),.pointer (some ⟨gr,0,none⟩),.pointer (some ⟨gy,0,none⟩),.pointer (some ⟨go,0,none⟩)] w fun e' w'=>e'=.returned (.agg #[.string ⟨qa.toArray⟩,.string ⟨qb.toArray⟩])/\Below w.heap.size w w':=by
 have hbA:=bNewW w (.cells #[.string ⟨#[]⟩,.string ⟨#[]⟩] 51);have BR:=Bx.mk w 51 #[.string ⟨#[]⟩,.string ⟨#[]⟩];have hTA:=hT.call hbA;have hEA:=hE.below hbA;obtain ⟨sd,esd⟩:=Ix.ex (e ^ n)
 have hq:Kp (Rat.divInt (Tb.sm (Tb.tm n c (e-c)) k (n+1-k)) (e ^ n)=Tb.Pq n k c (e-c)):=⟨by
  show _=Rat.divInt (Tb.S n k c (e-c)) ((c+(e-c)) ^ n)
  rw[show c+(e-c)=e by omega];rfl⟩
 have hrat:=fun W (hW:Below (w.alloc (.cells #[.string ⟨#[]⟩,.string ⟨#[]⟩] 51)).heap.size (w.alloc (.cells #[.string ⟨#[]⟩,.string ⟨#[]⟩] 51)) W) =>
  ratio_t (Tb.tm n c (e-c)) gr gy go gn k n (e ^ n) _ sd qa qb W (fun i=>Tb.tm_sz hn h0 (by omega) (by omega) (by omega) i) (by omega) hk (Int.pow_pos (by omega)) ((Tb.pow_sz (c:=e) (by omega) h2 n).mono (by omega)) esd (hEA.below hW) hq lq
   (fun i s X hki hin hs hX=>term_any n i c e gn ga gr gy go s X ((hTA.call hW).call hX) hn hin h0 h1 h2 hs ((hEA.below hW).below hX))
 obtain⟨ba,oa,ca,hca,ab,ac⟩:=hTA.ha.cells;have a1:=ac n sd (Nat.le_refl _) esd;have gN:=fun d os=>(hTA.hn.again d os).cell 0 rfl
 generalize hW0:w.alloc (.cells #[.string ⟨#[]⟩,.string ⟨#[]⟩] 51)=W0 at *;have kr:=fun d os=>hrat (Sort.grow (redrawn W0 d) os) (below_regrown W0 d os)
 clear hrat ac hTA hT hE hEA esd hq lq
 go_enter Tryz.func190,Tryz.ntmps190
 go_wp2
 try rw[hW0]
 clear hW0;refine wp_region_below_tail 8 (by kernel_rfl) (by kernel_rfl) ?_;simp only[List.take,List.drop]
 repeat (go_big_quiet_step (first|(go_at_call 154;with_reducible exact Calls.regrown_of (kr _ _))))
 refine wpQuiet_nil ?_;rintro _ ⟨z,rfl⟩;have hbz:=bAgain hbA z.d z.os;replace BR:=BR.again z.d z.os;clear kr ab a1 gN hbA;generalize Sort.grow (redrawn W0 z.d) z.os=W2 at *;have c0:=BR.cell 0 rfl;have c1:=BR.cell 1 rfl;have f0:=BR.frozen 0;have f1:=BR.frozen 1;have B4:=(BR.set 0 (.string ⟨qa.toArray⟩)).set 1 (.string ⟨qb.toArray⟩);have hb4:=bSet (bSet hbz (p:=⟨w.heap.size,0,none⟩) (Nat.le_refl _) (.string ⟨qa.toArray⟩)) (p:=⟨w.heap.size,1,none⟩) (Nat.le_refl _) (.string ⟨qb.toArray⟩);go_wp2;exact bodyPost_ret (results_Q1 rfl _ _ rfl B4) rfl ⟨rfl,hb4⟩
def chB (c e:Int):Bool:=Tp.within e 1 1000&&Tp.within c 0 e
theorem chB_iff {c e:Int}:chB c e=true↔1<=e/\e<=1000/\0<=c/\c<=e:=by
 unfold chB
 rw[Bool.and_eq_true,Tp.within_iff,Tp.within_iff];omega
theorem isChance_any (c e:Int) (w:World) :
 Calls Tryz.prog 188 #[.agg #[.int .i64 c,.int .i64 e]] w fun e' w'=>e'=.returned (.bool (chB c e))/\Below w.heap.size w w':=by
 have hI1:=fun w0=>calls_below (isIn_any e 1 1000 w0)
 have hI2:=fun w0=>calls_below (isIn_any c 0 e w0)
 have hd:Kp (chB c e=(Tp.within e 1 1000&&Tp.within c 0 e)):=⟨rfl⟩
 have B:=Bx.mk w 29 #[.int .i64 c,.int .i64 e];have hb:=bNew (bStart w) (.cells #[.int .i64 c,.int .i64 e] 29);have c0:=B.cell 0 rfl;have c1:=B.cell 1 rfl;generalize Tp.within c 0 e=r2 at *
 cases h1:Tp.within e 1 1000 with
 | true =>
  rw[h1]at hI1 hd;clear h1
  go_enter Tryz.func188,Tryz.ntmps188
  go_wp2_with fail;refine (hI1 _).mono ?_;rintro e w1 ⟨rfl,hb1⟩;have d0:=(B.call hb1).cell 0 rfl;have d1:=(B.call hb1).cell 1 rfl;go_wp2_with fail;refine (hI2 _).mono ?_;rintro e w2 ⟨rfl,hb2⟩;go_wp2;go_ret;exact ⟨ret_bool (by rw[hd.out];simp),bCall (bCall hb hb1) hb2⟩
 | false =>
  rw[h1]at hI1 hd;clear h1
  go_enter Tryz.func188,Tryz.ntmps188
  go_wp2_with fail;refine (hI1 _).mono ?_;rintro e w1 ⟨rfl,hb1⟩;go_wp2;go_ret;exact ⟨ret_bool (by rw[hd.out];simp),bCall hb hb1⟩
def FB (i:Nat) (v:Value) (w w':World):Prop:=17<=i/\i<=20->v=.pointer (some ⟨w.heap.size,0,none⟩)/\w.heap.size<w'.heap.size
theorem FB.no {i:Nat} {v:Value} {w w':World} (h:i<17):FB i v w w':=fun e=>by omega
def KA (w w':World):Prop:=Below w.heap.size w w'
theorem cls_KA:RA.Cls KA:=⟨fun w=>Below.refl _ _,fun h k=>bCall h k,fun w n=>⟨rfl,rfl,rfl,Nat.le_refl _,fun _ _=>rfl⟩⟩
def PwR (a:Int) (n:Nat):RA.Rl:=fun _ v W=>RowN 9 1 0 (n+1) ((pwl a n).flatMap strC) v W
theorem stab_pw (a:Int) (n:Nat):RA.Stab KA (PwR a n):=fun x v w w' h hb=>stab_rowN _ _ _ _ _ v w w' h hb
theorem RowC.weak {e:TypeId} {size B cap n:Nat} {flat:List Value} {v:Value} {w:World} (h:RowC e size B cap n flat v w):RowC e size 0 cap n flat v w:=by
 obtain⟨g,cells,h1,h2,h3⟩:=h;exact ⟨g,cells,h1,Nat.zero_le _,h3⟩
theorem bx_ne {W:World} {a b:Nat} {t t':TypeId} {cs cs':Array Value} (h:Bx W a t cs) (h':Bx W b t' cs') (hne:t≠t'):a≠b:=by
 rintro rfl;have e:=h.symm.trans h'
 injection e with e
 injection e with e1 e2
 exact hne e2
theorem pw_of {W:World} {a:Int} {n gb cap g:Nat} {cells:Array Value} (hB:Bx W gb 192 #[.slice (some ⟨g,0,none⟩) (n+1) cap]) (hc:n+1<=cap) (hx:Bx W g 9 cells) (hs:cells.size=cap*1) (hf:cells.toList.take ((n+1)*1)=(pwl a n).flatMap strC):Pw a n gb W:=by
 have hR:RowC 9 1 0 cap (pwl a n).length ((pwl a n).flatMap strC) (.slice (some ⟨g,0,none⟩) (n+1) cap) W:=by
  rw[pwl_len];exact⟨g,cells,rfl,Nat.zero_le _,hc,hx,hs,hf⟩
 obtain⟨A,e,h1,h2⟩:=hR.at strC_len;rw [pwl_len]at e h2
 injection e with e1
 subst e1;exact ⟨_,cap,hB,h1,hc⟩
def BoR (B:Nat) (t:TypeId) (cs:Array Value):RA.Rl:=fun _ v W=>∃g,v=.pointer (some ⟨g,0,none⟩)/\B<=g/\Bx W g t cs
theorem stab_bo (B:Nat) (t:TypeId) (cs:Array Value):RA.Stab KA (BoR B t cs):=fun x v w w' ⟨g,h1,h2,h3⟩ hb=>⟨g,h1,h2,h3.call hb⟩
theorem wp_row_store {o:Oper} {a:Act} {w:World} {K:Act->World->Prop} {Q:Exit->Act->World->Prop} {x y:Operand} (ho:o.op=.store 180 x y) {g:Nat} (hx:a.eval x=.pointer (some ⟨g,0,none⟩)) {t:TypeId} {old:Array Value} {f:Nat->List UInt8}
 (hy:a.eval y=.agg (rowC f)) (hB:Bx w g t old) (hs:old.size=101) (h:K (a.put o.dst undef) (w.setRow g (rowC f))):o.wp Tryz.prog a w K Q :=
 wp_store_row 180 x y ho g (rowC f) hx hy t old hB (by rw[rowC_size];exact tri_size) (by rw[rowC_size];exact hs) (rowC_one f) h
theorem tails_good (n:Nat) (c e:Int) (w:World) (hn:n<=50) (h0:0<=c) (h1:c<=e) (h2:e<=1000) (h3:1<=e) (hE:Env w) :
 Calls Tryz.prog 151 #[.int .i64 n,.agg #[.int .i64 c,.int .i64 e]] w fun e' w'=>(∃gn ga gr gy go,e'=.returned (.tuple #[.func (.func 190) #[] #[.pointer (some ⟨gn,0,none⟩),.pointer (some ⟨ga,0,none⟩),.pointer (some ⟨gr,0,none⟩),.pointer (some ⟨gy,0,none⟩),.pointer (some ⟨go,0,none⟩)],.int .i64 0])/\Tl n c e gn ga gr gy go w')/\Below w.heap.size w w':=by
 have B0:=(Bx.mk w 3 #[.int .i64 n]).new (.cells #[.int .i64 c,.int .i64 e] 29);have B1:=Bx.mk (w.alloc (.cells #[.int .i64 n] 3)) 29 #[.int .i64 c,.int .i64 e];rw [alloc_size]at B1;have hb:=bNew (bNewW w (.cells #[.int .i64 n] 3)) (.cells #[.int .i64 c,.int .i64 e] 29);have hC:=fun w0=>isChance_any c e w0
 rw[chB_iff.2 ⟨h3,h2,h0,h1⟩]at hC;have hI:=fun w0=>isIn_any n 0 50 w0
 rw[Tp.within_iff.2 ⟨by omega,by omega⟩]at hI;have c0:=B0.cell 0 rfl;have c1:=B1.cell 0 rfl;have c2:=B1.cell 1 rfl
 go_enter Tryz.func151,Tryz.ntmps151
 go_upto_region 3 with (first|(go_at_call 188;refine (hC _).mono ?_;rintro e w1 ⟨rfl,hb1⟩;clear hC;have d0:=(B0.call hb1).cell 0 rfl)|(go_at_call 152;refine (hI _).mono ?_;rintro e w2 ⟨rfl,rfl⟩;clear hI))
 replace hb:=bCall hb hb1;replace B0:=B0.call hb1;replace B1:=B1.call hb1;have hE1:=hE.below hb;clear c0 c1 c2 d0 hb1 hE
 refine RA.wp_region_rgl (F:=FB) cls_KA [] [RA.Eqv (.int .i64 n),RA.Eqv (.agg (rowC (pt n))),RA.Eqv (.pointer (some ⟨w.heap.size+1,0,none⟩)),RA.Eqv (.int .i64 c),RA.Eqv (.int .i64 n),PwR c n,RA.Eqv (.pointer (some ⟨w.heap.size+1,1,none⟩)),RA.Eqv (.int .i64 e),RA.Eqv (.pointer (some ⟨w.heap.size+1,0,none⟩)),RA.Eqv (.int .i64 c),RA.Eqv (.int .i64 (e-c)),RA.Eqv (.int .i64 n),PwR (e-c) n,RA.Eqv (.pointer (some ⟨w.heap.size+1,1,none⟩)),RA.Eqv (.int .i64 e),RA.Eqv (.int .i64 n),PwR e n,
  BoR w1.heap.size 180 Tryz.zeroCells180,BoR w1.heap.size 192 #[.slice none 0 0],BoR w1.heap.size 192 #[.slice none 0 0],BoR w1.heap.size 192 #[.slice none 0 0]] 21 36 (fun i=>decide (17<=i)&&decide (i<=20)) (fun _ _ h=>h.size) (fun p hp v w w' h=>h (by simpa using hp)) rfl rfl rfl (by kernel_rfl) (by kernel_rfl) ?_ ?_ ?_
 · simp only[RA.AllS]
   repeat' apply And.intro
   all_goals first|exact RA.stab_eqv _|exact stab_pw _ _|exact stab_bo _ _ _|trivial
 · simp only[RA.UsersG,List.take,List.length];refine ⟨?_,?_,?_,?_,?_,?_,?_,?_,?_,?_,?_,?_,?_,?_,?_,?_,?_,?_,?_,?_,?_,trivial⟩;all_goals (intro vs w2 hb2 hd;simp only[RA.putD,Act.put,List.nil_append,List.cons_append,List.setIfInBounds_toArray,List.set_cons_succ,List.set_cons_zero,Nat.reduceAdd])
   · have q0:=(B0.call hb2).cell 0 rfl;clear hd;go_wp2;exact⟨Below.refl _ _,rfl,FB.no (by decide)⟩
   · have e0:vs 0=_:=hd 0 rfl;have hC:=pascal_any n w2 (by omega) (hE1.below hb2);clear hd;rw[e0];go_wp2_with fail;refine hC.mono ?_;clear hC;rintro _ w9 ⟨rfl,hb9⟩;go_wp2;exact ⟨hb9,rfl,FB.no (by decide)⟩
   · clear hd;go_wp2;exact⟨Below.refl _ _,rfl,FB.no (by decide)⟩
   · have e2:vs 2=_:=hd 2 rfl;have q0:=(B1.call hb2).cell 0 rfl;clear hd;rw[e2];go_wp2;exact⟨Below.refl _ _,rfl,FB.no (by decide)⟩
   · have q0:=(B0.call hb2).cell 0 rfl;clear hd;go_wp2;exact⟨Below.refl _ _,rfl,FB.no (by decide)⟩
   · have e3:vs 3=_:=hd 3 rfl;have e4:vs 4=_:=hd 4 rfl;have hC:=powers_any (c) n w2 (by omega) (by omega) hn (hE1.below hb2);clear hd;rw[e3,e4];go_wp2_with fail;refine hC.mono ?_;clear hC;rintro _ w9 ⟨⟨v9,rfl,cap,hr9,hm9⟩,hb9⟩;have hr8:=hr9;obtain ⟨x9,x8,rfl,-,-,-,-,-⟩:=hr8;go_wp2;exact ⟨hb9,⟨cap,hr9.weak,hm9⟩,FB.no (by decide)⟩
   · clear hd;go_wp2;exact⟨Below.refl _ _,rfl,FB.no (by decide)⟩
   · have e6:vs 6=_:=hd 6 rfl;have q0:=(B1.call hb2).cell 1 rfl;clear hd;rw[e6];go_wp2;exact⟨Below.refl _ _,rfl,FB.no (by decide)⟩
   · clear hd;go_wp2;exact⟨Below.refl _ _,rfl,FB.no (by decide)⟩
   · have e8:vs 8=_:=hd 8 rfl;have q0:=(B1.call hb2).cell 0 rfl;clear hd;rw[e8];go_wp2;exact⟨Below.refl _ _,rfl,FB.no (by decide)⟩
   · have e7:vs 7=_:=hd 7 rfl;have e9:vs 9=_:=hd 9 rfl;clear hd;rw[e7,e9];go_wp2;exact⟨Below.refl _ _,rfl,FB.no (by decide)⟩
   · have q0:=(B0.call hb2).cell 0 rfl;clear hd;go_wp2;exact⟨Below.refl _ _,rfl,FB.no (by decide)⟩
   · have e10:vs 10=_:=hd 10 rfl;have e11:vs 11=_:=hd 11 rfl;have hC:=powers_any (e-c) n w2 (by omega) (by omega) hn (hE1.below hb2);clear hd;rw[e10,e11];go_wp2_with fail;refine hC.mono ?_;clear hC;rintro _ w9 ⟨⟨v9,rfl,cap,hr9,hm9⟩,hb9⟩;have hr8:=hr9;obtain ⟨x9,x8,rfl,-,-,-,-,-⟩:=hr8;go_wp2;exact ⟨hb9,⟨cap,hr9.weak,hm9⟩,FB.no (by decide)⟩
   · clear hd;go_wp2;exact⟨Below.refl _ _,rfl,FB.no (by decide)⟩
   · have e13:vs 13=_:=hd 13 rfl;have q0:=(B1.call hb2).cell 1 rfl;clear hd;rw[e13];go_wp2;exact⟨Below.refl _ _,rfl,FB.no (by decide)⟩
   · have q0:=(B0.call hb2).cell 0 rfl;clear hd;go_wp2;exact⟨Below.refl _ _,rfl,FB.no (by decide)⟩
   · have e14:vs 14=_:=hd 14 rfl;have e15:vs 15=_:=hd 15 rfl;have hC:=powers_any (e) n w2 (by omega) (by omega) hn (hE1.below hb2);clear hd;rw[e14,e15];go_wp2_with fail;refine hC.mono ?_;clear hC;rintro _ w9 ⟨⟨v9,rfl,cap,hr9,hm9⟩,hb9⟩;have hr8:=hr9;obtain ⟨x9,x8,rfl,-,-,-,-,-⟩:=hr8;go_wp2;exact ⟨hb9,⟨cap,hr9.weak,hm9⟩,FB.no (by decide)⟩
   · clear hd;go_wp2;exact⟨bNewW _ _,⟨_,rfl,Below.size hb2,Bx.mk _ _ _⟩,fun _=>⟨rfl,by rw[alloc_size];omega⟩⟩
   · clear hd;go_wp2;exact⟨bNewW _ _,⟨_,rfl,Below.size hb2,Bx.mk _ _ _⟩,fun _=>⟨rfl,by rw[alloc_size];omega⟩⟩
   · clear hd;go_wp2;exact⟨bNewW _ _,⟨_,rfl,Below.size hb2,Bx.mk _ _ _⟩,fun _=>⟨rfl,by rw[alloc_size];omega⟩⟩
   · clear hd;go_wp2;exact⟨bNewW _ _,⟨_,rfl,Below.size hb2,Bx.mk _ _ _⟩,fun _=>⟨rfl,by rw[alloc_size];omega⟩⟩
 · intro vs W1 hba hR hne;simp only[RA.AllR,RA.Eqv]at hR;obtain ⟨e0,e1,e2,e3,e4,⟨k5,⟨x5,y5,e5,-,l5,X5,z5,f5⟩,-⟩,e6,e7,e8,e9,e10,e11,⟨k12,⟨x12,y12,e12,-,l12,X12,z12,f12⟩,-⟩,e13,e14,e15,⟨k16,⟨x16,y16,e16,-,l16,X16,z16,f16⟩,-⟩,⟨g17,e17,b17,B17⟩,⟨g18,e18,b18,B18⟩,⟨g19,e19,b19,B19⟩,⟨g20,e20,b20,B20⟩,-⟩:=hR
   have ne:∀i j x y,17<=i->i<=20->17<=j->j<=20->i≠j->vs i=.pointer (some ⟨x,0,none⟩)->vs j=.pointer (some ⟨y,0,none⟩)->x≠y:=fun i j x y h1 h2 h3 h4 h5 h6 h7 h8 =>
    hne i j (by omega) (by omega) (by simp[h1,h2]) (by simp[h3,h4]) h5 (by rw[h6,h7,h8])
   have n1:=ne 17 18 _ _ (by decide) (by decide) (by decide) (by decide) (by decide) e17 e18;have n2:=ne 17 19 _ _ (by decide) (by decide) (by decide) (by decide) (by decide) e17 e19;have n3:=ne 17 20 _ _ (by decide) (by decide) (by decide) (by decide) (by decide) e17 e20;have n4:=ne 18 19 _ _ (by decide) (by decide) (by decide) (by decide) (by decide) e18 e19;have n5:=ne 18 20 _ _ (by decide) (by decide) (by decide) (by decide) (by decide) e18 e20;have n6:=ne 19 20 _ _ (by decide) (by decide) (by decide) (by decide) (by decide) e19 e20;replace hba:Below w1.heap.size w1 W1:=hba;simp only[List.drop,List.take,List.map,RA.putD,Act.put,List.setIfInBounds_toArray,List.set_cons_succ,List.set_cons_zero,Nat.reduceAdd];rw [e0,e1,e2,e3,e4,e5,e6,e7,e8,e9,e10,e11,e12,e13,e14,e15,e16,e17,e18,e19,e20];have hzz:=zc_size;generalize Tryz.zeroCells180=zc at *;clear e0 e1 e2 e3 e4 e5 e6 e7 e8 e9 e10 e11 e12 e13 e14 e15 e16 e17 e18 e19 e20 ne hne;refine wpList_plain rfl fun _ hK=>wp_row_store rfl rfl rfl B17 hzz (hK _ _ ?_)
   have hbR:=hba.trans ((below_setRow W1 (rowC (pt n)) b17).mono (Nat.le_refl _));have R17:=bx_setRow B17 (rowC (pt n));have o18:Bx (W1.setRow g17 (rowC (pt n))) g18 192 #[.slice none 0 0]:=(setRow_other _ (fun h=>n1 h.symm)).trans B18;have o19:Bx (W1.setRow g17 (rowC (pt n))) g19 192 #[.slice none 0 0]:=(setRow_other _ (fun h=>n2 h.symm)).trans B19;have o20:Bx (W1.setRow g17 (rowC (pt n))) g20 192 #[.slice none 0 0]:=(setRow_other _ (fun h=>n3 h.symm)).trans B20;have m5:Bx (W1.setRow g17 (rowC (pt n))) x5 9 y5:=(setRow_other _ (bx_ne X5 B17 (by decide))).trans X5;have m12:Bx (W1.setRow g17 (rowC (pt n))) x12 9 y12:=(setRow_other _ (bx_ne X12 B17 (by decide))).trans X12;have m16:Bx (W1.setRow g17 (rowC (pt n))) x16 9 y16:=(setRow_other _ (bx_ne X16 B17 (by decide))).trans X16;clear B17 B18 B19 B20 X5 X12 X16;generalize W1.setRow g17 (rowC (pt n))=W2 at *;have fz0:=o18.frozen 0;have dz0:=o18.cell 0 rfl;have R17_0:Bx (W2.setCell ⟨g18,0,none⟩ (.slice (some ⟨x5,0,none⟩) (n+1) k5)) g17 180 (rowC (pt n)):=R17.far (p:=⟨g18,0,none⟩) (n1) (.slice (some ⟨x5,0,none⟩) (n+1) k5);have o18_0:Bx (W2.setCell ⟨g18,0,none⟩ (.slice (some ⟨x5,0,none⟩) (n+1) k5)) g18 192 #[.slice (some ⟨x5,0,none⟩) (n+1) k5]:=by simpa using o18.set 0 (.slice (some ⟨x5,0,none⟩) (n+1) k5)
   have o19_0:Bx (W2.setCell ⟨g18,0,none⟩ (.slice (some ⟨x5,0,none⟩) (n+1) k5)) g19 192 #[.slice none 0 0]:=o19.far (p:=⟨g18,0,none⟩) (fun h=>n4 h.symm) (.slice (some ⟨x5,0,none⟩) (n+1) k5);have o20_0:Bx (W2.setCell ⟨g18,0,none⟩ (.slice (some ⟨x5,0,none⟩) (n+1) k5)) g20 192 #[.slice none 0 0]:=o20.far (p:=⟨g18,0,none⟩) (fun h=>n5 h.symm) (.slice (some ⟨x5,0,none⟩) (n+1) k5);have m5_0:Bx (W2.setCell ⟨g18,0,none⟩ (.slice (some ⟨x5,0,none⟩) (n+1) k5)) x5 9 y5:=m5.far (p:=⟨g18,0,none⟩) (bx_ne m5 o18 (by decide)) (.slice (some ⟨x5,0,none⟩) (n+1) k5);have m12_0:Bx (W2.setCell ⟨g18,0,none⟩ (.slice (some ⟨x5,0,none⟩) (n+1) k5)) x12 9 y12:=m12.far (p:=⟨g18,0,none⟩) (bx_ne m12 o18 (by decide)) (.slice (some ⟨x5,0,none⟩) (n+1) k5);have m16_0:Bx (W2.setCell ⟨g18,0,none⟩ (.slice (some ⟨x5,0,none⟩) (n+1) k5)) x16 9 y16:=m16.far (p:=⟨g18,0,none⟩) (bx_ne m16 o18 (by decide)) (.slice (some ⟨x5,0,none⟩) (n+1) k5);have hb_0:Below w1.heap.size w1 (W2.setCell ⟨g18,0,none⟩ (.slice (some ⟨x5,0,none⟩) (n+1) k5)):=hbR.setCell (p:=⟨g18,0,none⟩) b18 (.slice (some ⟨x5,0,none⟩) (n+1) k5);have fz1:=o19_0.frozen 0;have dz1:=o19_0.cell 0 rfl;have R17_1:Bx ((W2.setCell ⟨g18,0,none⟩ (.slice (some ⟨x5,0,none⟩) (n+1) k5)).setCell ⟨g19,0,none⟩ (.slice (some ⟨x12,0,none⟩) (n+1) k12)) g17 180 (rowC (pt n)):=R17_0.far (p:=⟨g19,0,none⟩) (n2) (.slice (some ⟨x12,0,none⟩) (n+1) k12);have o18_1:Bx ((W2.setCell ⟨g18,0,none⟩ (.slice (some ⟨x5,0,none⟩) (n+1) k5)).setCell ⟨g19,0,none⟩ (.slice (some ⟨x12,0,none⟩) (n+1) k12)) g18 192 #[.slice (some ⟨x5,0,none⟩) (n+1) k5]:=o18_0.far (p:=⟨g19,0,none⟩) (n4) (.slice (some ⟨x12,0,none⟩) (n+1) k12);have o19_1:Bx ((W2.setCell ⟨g18,0,none⟩ (.slice (some ⟨x5,0,none⟩) (n+1) k5)).setCell ⟨g19,0,none⟩ (.slice (some ⟨x12,0,none⟩) (n+1) k12)) g19 192 #[.slice (some ⟨x12,0,none⟩) (n+1) k12]:=by simpa using o19_0.set 0 (.slice (some ⟨x12,0,none⟩) (n+1) k12)
   have o20_1:Bx ((W2.setCell ⟨g18,0,none⟩ (.slice (some ⟨x5,0,none⟩) (n+1) k5)).setCell ⟨g19,0,none⟩ (.slice (some ⟨x12,0,none⟩) (n+1) k12)) g20 192 #[.slice none 0 0]:=o20_0.far (p:=⟨g19,0,none⟩) (fun h=>n6 h.symm) (.slice (some ⟨x12,0,none⟩) (n+1) k12);have m5_1:Bx ((W2.setCell ⟨g18,0,none⟩ (.slice (some ⟨x5,0,none⟩) (n+1) k5)).setCell ⟨g19,0,none⟩ (.slice (some ⟨x12,0,none⟩) (n+1) k12)) x5 9 y5:=m5_0.far (p:=⟨g19,0,none⟩) (bx_ne m5_0 o19_0 (by decide)) (.slice (some ⟨x12,0,none⟩) (n+1) k12);have m12_1:Bx ((W2.setCell ⟨g18,0,none⟩ (.slice (some ⟨x5,0,none⟩) (n+1) k5)).setCell ⟨g19,0,none⟩ (.slice (some ⟨x12,0,none⟩) (n+1) k12)) x12 9 y12:=m12_0.far (p:=⟨g19,0,none⟩) (bx_ne m12_0 o19_0 (by decide)) (.slice (some ⟨x12,0,none⟩) (n+1) k12);have m16_1:Bx ((W2.setCell ⟨g18,0,none⟩ (.slice (some ⟨x5,0,none⟩) (n+1) k5)).setCell ⟨g19,0,none⟩ (.slice (some ⟨x12,0,none⟩) (n+1) k12)) x16 9 y16:=m16_0.far (p:=⟨g19,0,none⟩) (bx_ne m16_0 o19_0 (by decide)) (.slice (some ⟨x12,0,none⟩) (n+1) k12);have hb_1:Below w1.heap.size w1 ((W2.setCell ⟨g18,0,none⟩ (.slice (some ⟨x5,0,none⟩) (n+1) k5)).setCell ⟨g19,0,none⟩ (.slice (some ⟨x12,0,none⟩) (n+1) k12)):=hb_0.setCell (p:=⟨g19,0,none⟩) b19 (.slice (some ⟨x12,0,none⟩) (n+1) k12);have fz2:=o20_1.frozen 0;have dz2:=o20_1.cell 0 rfl;have R17_2:Bx (((W2.setCell ⟨g18,0,none⟩ (.slice (some ⟨x5,0,none⟩) (n+1) k5)).setCell ⟨g19,0,none⟩ (.slice (some ⟨x12,0,none⟩) (n+1) k12)).setCell ⟨g20,0,none⟩ (.slice (some ⟨x16,0,none⟩) (n+1) k16)) g17 180 (rowC (pt n)):=R17_1.far (p:=⟨g20,0,none⟩) (n3) (.slice (some ⟨x16,0,none⟩) (n+1) k16);have o18_2:Bx (((W2.setCell ⟨g18,0,none⟩ (.slice (some ⟨x5,0,none⟩) (n+1) k5)).setCell ⟨g19,0,none⟩ (.slice (some ⟨x12,0,none⟩) (n+1) k12)).setCell ⟨g20,0,none⟩ (.slice (some ⟨x16,0,none⟩) (n+1) k16)) g18 192 #[.slice (some ⟨x5,0,none⟩) (n+1) k5]:=o18_1.far (p:=⟨g20,0,none⟩) (n5) (.slice (some ⟨x16,0,none⟩) (n+1) k16);have o19_2:Bx (((W2.setCell ⟨g18,0,none⟩ (.slice (some ⟨x5,0,none⟩) (n+1) k5)).setCell ⟨g19,0,none⟩ (.slice (some ⟨x12,0,none⟩) (n+1) k12)).setCell ⟨g20,0,none⟩ (.slice (some ⟨x16,0,none⟩) (n+1) k16)) g19 192 #[.slice (some ⟨x12,0,none⟩) (n+1) k12]:=o19_1.far (p:=⟨g20,0,none⟩) (n6) (.slice (some ⟨x16,0,none⟩) (n+1) k16);have o20_2:Bx (((W2.setCell ⟨g18,0,none⟩ (.slice (some ⟨x5,0,none⟩) (n+1) k5)).setCell ⟨g19,0,none⟩ (.slice (some ⟨x12,0,none⟩) (n+1) k12)).setCell ⟨g20,0,none⟩ (.slice (some ⟨x16,0,none⟩) (n+1) k16)) g20 192 #[.slice (some ⟨x16,0,none⟩) (n+1) k16]:=by simpa using o20_1.set 0 (.slice (some ⟨x16,0,none⟩) (n+1) k16)
   have m5_2:Bx (((W2.setCell ⟨g18,0,none⟩ (.slice (some ⟨x5,0,none⟩) (n+1) k5)).setCell ⟨g19,0,none⟩ (.slice (some ⟨x12,0,none⟩) (n+1) k12)).setCell ⟨g20,0,none⟩ (.slice (some ⟨x16,0,none⟩) (n+1) k16)) x5 9 y5:=m5_1.far (p:=⟨g20,0,none⟩) (bx_ne m5_1 o20_1 (by decide)) (.slice (some ⟨x16,0,none⟩) (n+1) k16);have m12_2:Bx (((W2.setCell ⟨g18,0,none⟩ (.slice (some ⟨x5,0,none⟩) (n+1) k5)).setCell ⟨g19,0,none⟩ (.slice (some ⟨x12,0,none⟩) (n+1) k12)).setCell ⟨g20,0,none⟩ (.slice (some ⟨x16,0,none⟩) (n+1) k16)) x12 9 y12:=m12_1.far (p:=⟨g20,0,none⟩) (bx_ne m12_1 o20_1 (by decide)) (.slice (some ⟨x16,0,none⟩) (n+1) k16);have m16_2:Bx (((W2.setCell ⟨g18,0,none⟩ (.slice (some ⟨x5,0,none⟩) (n+1) k5)).setCell ⟨g19,0,none⟩ (.slice (some ⟨x12,0,none⟩) (n+1) k12)).setCell ⟨g20,0,none⟩ (.slice (some ⟨x16,0,none⟩) (n+1) k16)) x16 9 y16:=m16_1.far (p:=⟨g20,0,none⟩) (bx_ne m16_1 o20_1 (by decide)) (.slice (some ⟨x16,0,none⟩) (n+1) k16);have hb_2:Below w1.heap.size w1 (((W2.setCell ⟨g18,0,none⟩ (.slice (some ⟨x5,0,none⟩) (n+1) k5)).setCell ⟨g19,0,none⟩ (.slice (some ⟨x12,0,none⟩) (n+1) k12)).setCell ⟨g20,0,none⟩ (.slice (some ⟨x16,0,none⟩) (n+1) k16)):=hb_1.setCell (p:=⟨g20,0,none⟩) b20 (.slice (some ⟨x16,0,none⟩) (n+1) k16);have hfin:Tl n c e w.heap.size g20 g17 g18 g19 (((W2.setCell ⟨g18,0,none⟩ (.slice (some ⟨x5,0,none⟩) (n+1) k5)).setCell ⟨g19,0,none⟩ (.slice (some ⟨x12,0,none⟩) (n+1) k12)).setCell ⟨g20,0,none⟩ (.slice (some ⟨x16,0,none⟩) (n+1) k16)):=⟨B0.call hb_2,R17_2,pw_of o18_2 l5 m5_2 z5 f5,pw_of o19_2 l12 m12_2 z12 f12,pw_of o20_2 l16 m16_2 z16 f16⟩
   have hbF:=bCall hb hb_2;clear R17 o18 o19 o20 m5 m12 m16 R17_0 R17_1 R17_2 o18_0 o18_1 o18_2 o19_0 o19_1 o19_2 o20_0 o20_1 o20_2 m5_0 m5_1 m5_2 m12_0 m12_1 m12_2 m16_0 m16_1 m16_2 hb_0 hb_1 hb_2 hbR B0 B1 hba f5 f12 f16 z5 z12 z16;go_wp2;exact bodyPost_ret (results_tmp2 rfl _ _ _) rfl ⟨⟨_,_,_,_,_,rfl,hfin⟩,hbF⟩
theorem Binomial_good (n k:Nat) (c e:Int) (qa qb:List UInt8) (w:World) (hn:n<=50) (hk:k<=n+1) (h0:0<=c) (h1:c<=e) (h2:e<=1000) (h3:1<=e) (lq:LQ (Tb.Pq n k c (e-c)) qa qb) (hE:Env w) :
 Calls Tryz.prog 107 #[.int .i64 n,.int .i64 k,.agg #[.int .i64 c,.int .i64 e]] w fun e' w'=>e'=.returned (.tuple #[.agg #[.string ⟨qa.toArray⟩,.string ⟨qb.toArray⟩],.int .i64 0])/\Below w.heap.size w w':=by
 have B0:=(Bx.mk w 29 #[.int .i64 c,.int .i64 e]).new (.cells #[.string ⟨#[]⟩,.string ⟨#[]⟩] 51);have B1:=Bx.mk (w.alloc (.cells #[.int .i64 c,.int .i64 e] 29)) 51 #[.string ⟨#[]⟩,.string ⟨#[]⟩];rw [alloc_size]at B1;have hb:=bNew (bNewW w (.cells #[.int .i64 c,.int .i64 e] 29)) (.cells #[.string ⟨#[]⟩,.string ⟨#[]⟩] 51);have c0:=B0.cell 0 rfl;have c1:=B0.cell 1 rfl;have hC:=tails_good n c e _ hn h0 h1 h2 h3 (hE.below hb);have hI:=fun w0=>isIn_any k 0 ((n:Int)+1) w0
 rw[Tp.within_iff.2 ⟨by omega,by omega⟩]at hI;have hEE:=fun w1 (hb1:Below w.heap.size w w1)=>hE.below hb1
 clear hE
 go_enter Tryz.func107,Tryz.ntmps107
 go_wp2_with fail;refine hC.mono ?_;rintro _ w1 ⟨⟨gn,ga,gr,gy,go,rfl,hT⟩,hb1⟩;replace hb:=bCall hb hb1;replace B1:=B1.call hb1;have hK:=tail_any n k c e gn ga gr gy go qa qb w1 hT hn hk h0 h1 h2 h3 lq (hEE w1 hb);clear hC hb1 B0 c0 c1 hT hEE lq
 go_wp2_with (first|(go_at_call 152;refine (hI _).mono ?_;rintro e w2 ⟨rfl,rfl⟩;clear hI))
 refine hK.mono ?_;rintro _ w2 ⟨rfl,hb2⟩;clear hK;have c0:=(B1.call hb2).cell 0 rfl;have c1:=(B1.call hb2).cell 1 rfl;have f0:=(B1.call hb2).frozen 0;have f1:=(B1.call hb2).frozen 1;have B4:=((B1.call hb2).set 0 (.string ⟨qa.toArray⟩)).set 1 (.string ⟨qb.toArray⟩);have hb4:=bSet (bSet (bCall hb hb2) (p:=⟨w.heap.size+1,0,none⟩) (Nat.le_succ _) (.string ⟨qa.toArray⟩)) (p:=⟨w.heap.size+1,1,none⟩) (Nat.le_succ _) (.string ⟨qb.toArray⟩);go_wp2;exact bodyPost_ret (results_Q rfl _ _ rfl rfl B4) rfl ⟨rfl,hb4⟩
end Go.Proofs.YtelljijajgiabaaGreatDoor

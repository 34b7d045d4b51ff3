import Derived.Test.YtohgjenaclfegaaGreatDoorShelf
import Derived.Test.YtohgjenaclfegaaGreatDoorQK01
import Derived.MapKept
import Derived.WideMake
set_option linter.unusedVariables false
set_option linter.unusedSimpArgs false
set_option maxRecDepth 100000
set_option maxHeartbeats 8000000
namespace Go.Proofs.YtohgjenaclfegaaGreatDoor.RA
open Go.RowKit
def nU (ops:Array Oper):Nat->Nat->Nat->Bool
 | 0,_,_=>false
 | f+1,t,i=>match ops[t]? with
  | some o=>o.after.toList.any fun e=>Region.binds .any e&&(e.on==i||nU ops f e.on i)
  | none=>false
def Ja (ops:Array Oper) (n:Nat):Bool:=(List.range ops.size).all fun t=>decide (t<n)||(List.range n).all fun i=>nU ops ops.size t i
theorem oM {ops:Array Oper} {n:Nat} {listed:Array Bool} (inv:HeadInv .any ops n listed):∀(f t i:Nat) (o:Oper),ops[t]? = some o->(∀e∈o.after,Region.binds .any e=true->listed.getD e.on false=true)->nU ops f t i=true->listed.getD i false=true
 | 0,t,i,o,ho,hall,h=>by simp[nU]at h
 | f+1,t,i,o,ho,hall,h=>by
  rw[nU,ho]at h;obtain ⟨e,he,h2⟩:=List.any_eq_true.1 h;simp only[Bool.and_eq_true,Bool.or_eq_true,beq_iff_eq]at h2;have he':e∈o.after:=by simpa using he
  have hl:=hall e he' h2.1
  rcases h2.2 with h3|h3
  · rw[←h3];exact hl
  · cases ho2:ops[e.on]? with
    | none =>
     cases f with
     | zero=>simp[nU]at h3
     | succ f=>rw[nU,ho2]at h3;cases h3
    | some o2=>exact oM inv f e.on i o2 ho2 (inv.closed e.on o2 ho2 hl) h3
theorem zq {ops:Array Oper} {n:Nat} (h:Ja ops n=true):∀listed,HeadInv .any ops n listed->∀i,i<n->listed.getD i true=false->∀t,n<=t->t ∉ Region.ready .any ops listed:=fun listed inv i hi hu t ht hr=>by
 obtain⟨_,ot,hot,hall⟩:=mem_ready.1 hr;have htl:t<ops.size:=(Array.getElem?_eq_some_iff.1 hot).1;have h1:=List.all_eq_true.1 h t (List.mem_range.2 htl);simp only[Bool.or_eq_true,decide_eq_true_eq]at h1
 rcases h1 with h1|h1
 · omega
 · have h2:=oM inv ops.size t i ot hot hall (List.all_eq_true.1 h1 i (List.mem_range.2 hi));rw [getD_both hu]at h2;cases h2
section
variable {P:Program} {ops:Array Oper} {R:Nat->Value->Value->World->Prop} {w0:World} {a0:Act} {Q:Exit->Act->World->Prop}
theorem Ql {F:Nat->Value->World->World->Prop} {K:World->World->Prop} {ks:Nat->Option Nat} (hK:Cls K) {n g:Nat} (S:Nat->Bool) (L6:(∃p,S p=true)->∀w w',K w w'->w.heap.size<=w'.heap.size) (hF:∀p,S p=true->∀v w w',F p v w w'->v=.pointer (some ⟨w.heap.size,0,none⟩)/\w.heap.size<w'.heap.size) (hok:iI ops a0.tmps.size=true) (htw:∀listed,HeadInv .any ops n listed->∀i,i<n->listed.getD i true=false->∀t,n<=t->t ∉ Region.ready .any ops listed) (hn:n<=ops.size)
 (hks:∀i o k,ops[i]? = some o->ks i=some k->∃e∈o.after,Region.binds .any e=true/\e.on=k) (hst:∀i x v w w',R i x v w->K w w'->R i x v w') (hsteps:∀i o,i<n->ops[i]? = some o->qJ F K ks P ops n R w0 a0 Q i o)
 (hfin:∀listed a w,HeadInv .any ops n listed->(∀i,i<n->listed.getD i true=true)->K w0 w->kW ops n a0 a->(∀i,i<n->R i (dZ ks (aC ops a) i) (aC ops a i) w)->(∀p q,p<n->q<n->S p=true->S q=true->p≠q->aC ops a p≠aC ops a q)->wpAny P .any ops Q g listed a w) :
 ∀(fuel:Nat) (listed:Array Bool) (a:Act) (w:World),HeadInv .any ops n listed->((List.range n).countP (fun i=> !listed.getD i true))=fuel->K w0 w->kW ops n a0 a ->
  (∀i,i<n->listed.getD i false=true->R i (dZ ks (aC ops a) i) (aC ops a i) w)->Dst ops S n listed a w->wpAny P .any ops Q (fuel+g) listed a w:=by
 intro fuel
 induction fuel with
 | zero =>
  intro listed a w inv hcnt hb hsame hR hD
  have hall:∀i,i<n->listed.getD i true=true:=by
   intro i hi;have:=List.countP_eq_zero.1 hcnt i (List.mem_range.2 hi);simpa using this
  rw[Nat.zero_add];have hall':∀i,i<n->listed.getD i false=true:=fun i hi=>by have:=hall i hi;simpa [Array.getD_eq_getD_getElem?,inv.size,show i<ops.size by omega] using this
  exact hfin listed a w inv hall hb hsame (fun i hi=>hR i hi (hall' i hi)) (fun p q hp hq sp sq hne=>hD.2 p q hp hq sp sq hne (hall' p hp) (hall' q hq))
 | succ fuel ih =>
  intro listed a w inv hcnt hb hsame hR hD
  have hex:∃i,i<n/\listed.getD i true=false:=by
   have h0:0<(List.range n).countP (fun i=> !listed.getD i true):=by omega
   obtain⟨i,hi,hp⟩:=List.countP_pos_iff.1 h0;exact ⟨i,List.mem_range.1 hi,by simpa using hp⟩
  rw[show fuel+1+g=(fuel+g)+1 by omega];refine ⟨fun he=>?_,fun i hi=>?_⟩
  · exfalso
    have hempty:∀i,i<n->listed.getD i true=true:=by
     intro i
     induction i using Nat.strongRecOn with
     | _ i ih =>
      intro hi
      cases hl:listed.getD i true with
      | true=>rfl
      | false =>
       have hoi:ops[i]? = some (ops[i]'(by omega)):=Array.getElem?_eq_getElem (by omega)
       have:i∈Region.ready .any ops listed:=mem_ready.2 ⟨hl,_,hoi,fun e hem hbd=>by
        have hlt:=(dJ hok hoi).1 e hem hbd;have:=ih e.on hlt (by omega)
        simpa [Array.getD_eq_getD_getElem?,inv.size,show e.on<ops.size by omega] using this⟩
       rw[he]at this;cases this
    obtain⟨i,hi,hu⟩:=hex;rw [hempty i hi]at hu;cases hu
  obtain⟨hun,o,ho,pG⟩:=mem_ready.1 hi;have hin:i<ops.size:=(Array.getElem?_eq_some_iff.1 ho).1
  have hhead:i<n:=by
   obtain⟨k,hk,hu⟩:=hex
   rcases Nat.lt_or_ge i n with h|h
   · exact h
   · exact absurd hi (htw listed inv k hk hu i h)
  obtain⟨hback,hbound,hdist⟩:=dJ hok ho
  have hc':(List.range n).countP (fun j=> !(listed.setIfInBounds i true).getD j true)=fuel:=by
   have:=count_one (n:=n) (by rw[inv.size];exact hin) hun (List.range n) List.nodup_range (List.mem_range.2 hhead);omega
  have hstep:=hsteps i o hhead ho a w hb hsame (fun e he hbd=>hR e.on (by have:=hback e he hbd;omega) (pG e he hbd))
  have hput:∀v,kW ops n a0 (a.put o.dst v):=by
   intro v;obtain ⟨e1,e2,e3⟩:=hsame
   cases hd:o.dst with
   | none=>exact⟨e1,e2,e3⟩
   | some d =>
    refine⟨e1,by simpa [Act.put] using e2,fun t ht=>?_⟩;rw [dP,if_neg (fun hh=>ht i o hhead ho (by rw[hd,hh.1])),e3 t ht]
  have iF:∀v j,j≠i->aC ops (a.put o.dst v) j=aC ops a j:=by
   intro v j hj
   unfold aC
   cases hd:o.dst with
   | none=>rfl
   | some d =>
    cases hoj:ops[j]? with
    | none=>rfl
    | some oj =>
     cases hdj:oj.dst with
     | none=>simp[hdj]
     | some dj =>
      simp only[Option.bind_some,hdj];rw [dP,if_neg (fun hh=>hdist j oj dj d hj hoj hdj hd hh.1)]
  have hself:∀v,aC ops (a.put o.dst v) i=if o.dst.isSome then v else undef:=by
   intro v
   unfold aC
   rw[ho]
   cases hd:o.dst with
   | none=>simp[hd]
   | some d =>
    simp only[Option.bind_some,hd,Option.isSome_some,if_true];rw [dP,if_pos ⟨rfl,by rw[hsame.2.1];exact hbound d hd⟩]
  have harg:∀v j oj,ops[j]? = some oj->(j=i∨listed.getD j false=true)->dZ ks (aC ops (a.put o.dst v)) j=dZ ks (aC ops a) j:=by
   intro v j oj hoj hj
   unfold dZ
   cases hk:ks j with
   | none=>rfl
   | some k =>
    obtain⟨e,he,hbd,rfl⟩:=hks j oj k hoj hk;refine iF v _ fun hki=>?_
    rcases hj with rfl|hj
    · have e1:oj=o:=Option.some.inj (hoj.symm.trans ho);subst e1;have:=hback e he hbd;omega
    · have hl:=inv.closed j oj hoj hj e he hbd;rw [hki]at hl;rw [getD_both hun]at hl;cases hl
  have hnext:∀v w',K w w'->R i (dZ ks (aC ops a) i) (if o.dst.isSome then v else undef) w'->F i (if o.dst.isSome then v else undef) w w'->wpAny P .any ops Q (fuel+g) (listed.setIfInBounds i true) (a.put o.dst v) w':=by
   intro v w' hbw hr hf;refine ih _ _ _ (inv.set hi hhead) hc' (hK.trans hb hbw) (hput v) (fun j hjn hj=>?_) ?_
   rotate_left
   · obtain⟨d1,d3⟩:=hD;have hz:=fun h=>L6 h _ _ hbw
     have hls:∀j,j≠i->(listed.setIfInBounds i true).getD j false=true->listed.getD j false=true:=fun j hj h=>by rw[←getD_set_ne false (fun h=>hj h.symm)];exact h
     refine⟨fun p hp sp hl=>?_,fun p q hp hq sp sq hpq hl hl2=>?_⟩
     · by_cases e:p=i
       · subst e;rw[hself];obtain⟨e1,e2⟩:=hF _ sp _ _ _ hf;exact⟨_,e1,e2⟩
       · rw[iF v p e];obtain⟨g,e1,e2⟩:=d1 p hp sp (hls p e hl);exact⟨g,e1,Nat.lt_of_lt_of_le e2 (hz ⟨p,sp⟩)⟩
     · by_cases e:p=i
       · subst e;rw [hself,iF v q (Ne.symm hpq)];obtain ⟨e1,e2⟩:=hF _ sp _ _ _ hf;obtain ⟨g,e3,e4⟩:=d1 q hq sq (hls q (Ne.symm hpq) hl2);rw [e1,e3];intro h
         injection h with h;injection h with h;injection h with h1 h2
         omega
       · by_cases e':q=i
         · subst e';rw [hself,iF v p hpq];obtain ⟨e1,e2⟩:=hF _ sq _ _ _ hf;obtain ⟨g,e3,e4⟩:=d1 p hp sp (hls p hpq hl);rw [e1,e3];intro h
           injection h with h;injection h with h;injection h with h1 h2
           omega
         · rw[iF v p e,iF v q e'];exact d3 p q hp hq sp sq hpq (hls p e hl) (hls q e' hl2)
   by_cases hji:j=i
   · subst hji;rw[hself,harg v _ o ho (.inl rfl)];exact hr
   · have hlj:listed.getD j false=true:=by rw[←getD_set_ne false (fun h=>hji h.symm)];exact hj
     rw[iF v j hji,harg v j (ops[j]'(by omega)) (Array.getElem?_eq_getElem (by omega)) (.inr hlj)];exact hst _ _ _ _ _ (hR j hjn hlj) hbw
  unfold wpOp
  simp only[ho];by_cases hw:Region.wanted o (yielded ops a.tmps)=true
  · rw[if_pos hw]at hstep ⊢;refine .inl ?_;exact Oper.wp_mono (fun a' w' hh=>by obtain⟨v,e,hb',hr,hf⟩:=hh;subst e;exact hnext v w' hb' hr hf) hstep
  · rw[if_neg hw]at hstep ⊢;exact hnext undef w (hK.refl _) (by split <;> exact hstep.1) (by split <;> exact hstep.2)
theorem uP {F:Nat->Value->World->World->Prop} {K:World->World->Prop} (hK:Cls K) (ks:Nat->Option Nat) {l:List Oper} {Q:Exit->Act->World->Prop} {a0:Act} {w0:World} (n:Nat) (R:Nat->Value->Value->World->Prop) (S:Nat->Bool) (L6:(∃p,S p=true)->∀w w',K w w'->w.heap.size<=w'.heap.size) (hF:∀p,S p=true->∀v w w',F p v w w'->v=.pointer (some ⟨w.heap.size,0,none⟩)/\w.heap.size<w'.heap.size)
 (hB:(iI l.toArray a0.tmps.size&&gW l.toArray n&&Ja l.toArray n&&decide (n<=l.length))=true)
 (hks:∀i o k,l.toArray[i]? = some o->ks i=some k->∃e∈o.after,Region.binds .any e=true/\e.on=k) (hst:∀i x v w w',R i x v w->K w w'->R i x v w') (hsteps:aZ F K ks P l.toArray R w0 a0 0 (l.take n))
 (hfin:∀vs w',K w0 w'->(∀i,i<n->R i (dZ ks vs i) (vs i) w')->(∀p q,p<n->q<n->S p=true->S q=true->p≠q->vs p≠vs q)->wpAny P .any l.toArray Q (l.length-n) ((List.range l.length).map fun i=>decide (i<n)).toArray (bK vs 0 (l.take n) a0) w'):wpAny P .any l.toArray Q l.toArray.size (Array.replicate l.toArray.size false) a0 { w0 with drawn:=w0.drawn+1 }:=by
 simp only[Bool.and_eq_true,decide_eq_true_eq]at hB;obtain ⟨⟨⟨hok,hlk⟩,hsc⟩,hn⟩:=hB;have hn':n<=l.toArray.size:=by simpa using hn
 have hb0:K w0 { w0 with drawn:=w0.drawn+1 }:=hK.drawn w0 _
 have inv0:HeadInv .any l.toArray n (Array.replicate l.toArray.size false) :=
  ⟨by simp,fun j oj _ hl=>(by rw[getD_replicate_false]at hl;cases hl),fun t _ ht=>getD_in (by simpa using ht) (getD_replicate_false _ _)⟩
 have H:=Ql (F:=F) (ks:=ks) hK S L6 hF (P:=P) (ops:=l.toArray) (R:=R) (w0:=w0) (a0:=a0) (Q:=Q) (n:=n) (g:=l.length-n) hok (zq hsc) hn' hks hst (fun i o hi ho=>nJ hok hlk hi hn' ho (by
  have:=aZ.get (l.take n) 0 i o hsteps (by rw[List.getElem?_take,if_pos hi];simpa using ho)
  rwa [Nat.zero_add]at this)) (fun listed a w inv hall hb hsame hR Q9=>by
  have Ll:listed=((List.range l.length).map fun i=>decide (i<n)).toArray:=by
   apply Array.ext
   · simp[inv.size]
   · intro i h1 h2;have hi:i<l.length:=by simpa using h2
     simp only[List.getElem_toArray,List.getElem_map,List.getElem_range]
     rcases Nat.lt_or_ge i n with h|h
     · have:=hall i h;simp [Array.getD_eq_getD_getElem?,h1]at this
       simp[h,this]
     · have:=inv.tail i h (by simpa using hi);simp [Array.getD_eq_getD_getElem?,h1]at this
       simp[this];omega
  have hfr:a=bK (aC l.toArray a) 0 (l.take n) a0:=by
   have hsz:=fZ (aC l.toArray a) (l.take n) 0 a0
   have key:a.tmps=(bK (aC l.toArray a) 0 (l.take n) a0).tmps:=by
    apply Array.ext
    · rw[hsz.1,hsame.2.1]
    · intro t h1 h2;have e1:a.tmps[t]=a.tmps.getD t undef:=by simp[Array.getD_eq_getD_getElem?,h1]
      have e2:(bK (aC l.toArray a) 0 (l.take n) a0).tmps[t]=(bK (aC l.toArray a) 0 (l.take n) a0).tmps.getD t undef:=by simp[Array.getD_eq_getD_getElem?,h2]
      rw[e1,e2];by_cases hw:∃(j:Nat) (oj:Oper),j<n/\l.toArray[j]? = some oj/\oj.dst=some t
      · obtain⟨j,oj,hjn,hj,hd⟩:=hw;have hsp:=dJ hok hj;rw [jL (aC l.toArray a) t (l.take n) 0 j oj a0 (by rw[List.getElem?_take,if_pos hjn];simpa using hj) hd (fun k o' hjk hk hd'=>hsp.2.2 k o' t t (by omega) (by simpa using (cZ hk).2) hd' hd rfl) (hsp.2.1 t hd)];have hj':l[j]? = some oj:=by simpa using hj
        simp[aC,hj',hd]
      · have hno:∀(j:Nat) (oj:Oper),j<n->l.toArray[j]? = some oj->oj.dst≠some t:=fun j oj hjn hj hd=>hw ⟨j,oj,hjn,hj,hd⟩
        rw[hsame.2.2 t hno];refine (iL _ _ _ _ _ fun o ho=>?_).symm;obtain ⟨j,hj⟩:=List.mem_iff_getElem?.1 ho;exact hno j o (cZ hj).1 (by simpa using (cZ hj).2)
   have kd:a.defers=(bK (aC l.toArray a) 0 (l.take n) a0).defers:=by rw[hsz.2,hsame.1]
   exact yT key kd
  have h2:=hfin (aC l.toArray a) w hb hR Q9;rw [←hfr]at h2;rw [Ll]
  exact h2) n (Array.replicate l.toArray.size false) a0 { w0 with drawn:=w0.drawn+1 } inv0 (by
   have:(List.range n).countP (fun i=> !(Array.replicate l.toArray.size false).getD i true)=(List.range n).length:=List.countP_eq_length.2 fun i hi=>by
    have:=List.mem_range.1 hi;simp [Array.getD_eq_getD_getElem?,show i<l.length by omega]
   simpa using this) hb0 ⟨rfl,rfl,fun _ _=>rfl⟩ (fun i _ h=>by rw[getD_replicate_false]at h;cases h) ⟨fun p _ _ h=>(by rw[getD_replicate_false]at h;cases h),fun p q _ _ _ _ _ h=>(by rw[getD_replicate_false]at h;cases h)⟩
 rw[show n+(l.length-n)=l.toArray.size by simp;omega]at H;exact H
end
end Go.Proofs.YtohgjenaclfegaaGreatDoor.RA
namespace Go.Proofs.YtohgjenaclfegaaGreatDoor.RS
open Go.RowKit
theorem u_ {K:World->World->Prop} (hK:Cls K) (kl:List (Nat × Nat)) {P:Program} {id:Nat} {l:List Oper} {Q:Exit->Act->World->Prop} {a0:Act} {w0:World} (ps:List Rl) (n sz:Nat) (hm:P.follows .mixedOrders=true) (hnp:ps.length=n) (hsz:a0.tmps.size=sz)
 (hB:(iI l.toArray sz&&gW l.toArray n&&RA.Ja l.toArray n&&decide (n<=l.length))=true)
 (hkl:QW l kl=true) (hst:aY K ps) (hsteps:aT K (kY kl) P l.toArray ps w0 a0 0 [] (l.take n) ps) (L:Array Bool) (hL:((List.range l.length).map fun i=>decide (i<n)).toArray=L) (g:Nat) (hg:l.length-n=g)
 (hfin:∀vs w',K w0 w'->bV (kY kl) vs w' 0 ps->wpAny P .any l.toArray Q g L (aN vs 0 ((l.take n).map (·.dst)) a0) w'):(Code.region id l.toArray true).wp P Q a0 w0:=by
 subst hnp hsz hL hg;refine wp_region_any hm (RA.uP (F:=fun _ _ _ _=>True) ⟨hK.refl,hK.trans,hK.drawn⟩ (kY kl) ps.length (rel ps) (fun _=>false) (fun h=>by obtain⟨p,hp⟩:=h;cases hp) (fun p hp=>by cases hp) hB (o_ hkl) (fun i x v w w' h hb=>aY.get ps i hst x v w w' h hb) (aZ.a _ _ (aT.rg (Nat.le_refl _) (l.take ps.length) 0 (fun j=>by simp) hsteps)) fun vs w' hb hR _=>by rw[bJ];exact hfin vs w' hb (dS ps 0 fun i hi=>by rw[Nat.zero_add];exact hR i hi))
end Go.Proofs.YtohgjenaclfegaaGreatDoor.RS
namespace Go.Proofs.YtohgjenaclfegaaGreatDoor
open Go.RowKit
def Env (w : World) : Prop := Lib.TabIs Tryz.prog w "internal/strconv.uint64pow10" .u64 Lib.pow10Tab
theorem Env.below {w w':World} (h:Env w) (hb:Below w.heap.size w w'):Env w':=by
 unfold Env Lib.TabIs at *
 unfold World.var? at *
 cases hg : Tryz.prog.globalNamed "internal/strconv.uint64pow10" with
 | none=>rw[hg]at h;cases h
 | some g =>
  rw[hg]at h;simp only[Option.bind_some]at h ⊢
  have hlt:g<w.heap.size:=by
   rcases Nat.lt_or_ge g w.heap.size with h1|h1
   · exact h1
   · rw[Array.getElem?_eq_none h1]at h;cases h
  rw[hb.block g hlt];exact h
theorem Env.drewN {w:World} (h:Env w) (n:Nat):Env (w.drewN n):=h.below (below_drewN (Below.refl _ _) n)
theorem Env.YH {w:World} (h:Env w) (d:Nat) (os:Array Obj):Env (Sort.grow (redrawn w d) os):=h.below (below_regrown w d os)
theorem below_grow (w:World) (k:Nat) (os:Array Obj):Below w.heap.size w (Sort.grow (w.drewN k) os):=below_regrown w _ os
theorem NH (s cs:List UInt8) (w:World) (hs:s.length<=1000000) (hc:cs.length<=1000) (ha:∀b∈cs,b.toNat<128) :
 bP 213 #[.string ⟨s.toArray⟩,.string ⟨cs.toArray⟩] w (.string ⟨(Lib.trimS s cs).toArray⟩):=by
 refine (Any.strings_Trim_laid Tryz.laysTrim (by kernel_rfl) ⟨s.toArray⟩ ⟨cs.toArray⟩ w (show s.length<=_ by omega) (show cs.length< _ by omega) (fun j b hb=>ha b ?_)).mono fun e w' h=>h
 exact List.mem_of_getElem? hb
theorem Eu (s:List UInt8) (c:Int) (w:World) (h0:0<=c) (hc:c<=1000000) (hs:s.length<=1000000) :
 bP 259 #[.string ⟨s.toArray⟩,.int .i64 c] w (.string ⟨(Lib.repeatL s c.toNat).toArray⟩):=by
 obtain⟨c,rfl⟩:=Int.eq_ofNat_of_zero_le h0;have:s.length*c<=1000000*1000000:=Nat.mul_le_mul hs (by omega);exact Tryz.strings_Repeat ⟨s.toArray⟩ c w (by omega) (show s.length*c<=_ by omega)
theorem B_ (n:Int) (w:World) (h0: -9223372036854775808<=n) (h1:n<=9223372036854775807) (hE:Env w) :
 bP 99 #[.int .i64 n] w (.string ⟨(Lib.itoa n).toArray⟩) :=
 (Tryz.strconv_Itoa n h0 h1 w hE).mono fun _ _ ⟨he,k,os,hw⟩=>⟨he,by rw[hw];exact below_grow w k os⟩
theorem NW (s:List UInt8) (v:Int) (w:World) (hs:s.length<=1000000) (h:Lib.atoiAll s=.ok v) :
 bP 287 #[.string ⟨s.toArray⟩] w (.tuple #[.int .i64 v,.nilIface]) :=
 (Tryz.strconv_Atoi_ok ⟨s.toArray⟩ (show s.length<=_ by omega) v h w).mono fun _ _ ⟨he,hw⟩=>⟨he,by
  rcases hw with rfl|⟨t,rfl⟩
  · exact Below.refl _ _
  · exact Lib.bytesWorld_below _ _ _⟩
theorem zo (s cs:List UInt8):Lib.trimS s cs=[]↔∀b∈s,b∈cs:=by
 have hd:∀l:List UInt8,l.dropWhile (cs.contains ·)=[]↔∀b∈l,b∈cs:=by
  intro l
  induction l with
  | nil=>simp
  | cons x l ih =>
   rw[List.dropWhile_cons];by_cases hx:x∈cs
   · simp[hx];simpa using ih
   · simp[hx]
 unfold Lib.trimS Lib.trimLeftS
 rw[hd]
 unfold Lib.trimRightS
 constructor
 · intro h b hb;by_cases hall:∀b∈s,b∈cs
   · exact hall b hb
   · have hne:s.reverse.dropWhile (cs.contains ·)≠[]:=fun he=>hall (fun b hb=>((hd s.reverse).1 he) b (by simpa using hb))
     obtain⟨x,l,hl⟩:=List.exists_cons_of_ne_nil hne;have hx:=h x (by rw[hl];simp);have:cs.contains x=true:=by simpa using hx
     have h2:=List.head?_dropWhile_not (cs.contains ·) s.reverse;rw [hl]at h2;simp at h2
     exact absurd hx h2
 · intro h b hb
   exact h b (by
    have:=(List.dropWhile_suffix (cs.contains ·) (l:=s.reverse)).subset (by simpa using hb)
    simpa using this)
def numOf (s:List UInt8):Nat:=s.foldl (fun n c=>10*n+(c.toNat-48)) 0
def jy (n:Nat) (s:List UInt8):Nat:=s.foldl (fun n c=>10*n+(c.toNat-48)) n
theorem tY:∀(s:List UInt8) (n:Nat),(∀c∈s,c.toNat<=57)->jy n s<(n+1)*10 ^ s.length
 | [],n,_=>by simp[jy]
 | c :: s,n,h=>by
  have h1:=tY s (10*n+(c.toNat-48)) (fun d hd=>h d (by simp[hd]));have h2:=h c (by simp);have h3:(10*n+(c.toNat-48)+1)*10 ^ s.length<=((n+1)*10)*10 ^ s.length:=Nat.mul_le_mul_right _ (by omega)
  show jy (10*n+(c.toNat-48)) s< _
  rw[List.length_cons,Nat.pow_succ,Nat.mul_comm (10 ^ s.length) 10,←Nat.mul_assoc];omega
theorem JZ (s:List UInt8) (h:∀c∈s,c.toNat<=57):numOf s<10 ^ s.length:=by
 have:=tY s 0 h
 show jy 0 s< _
 simpa using this
theorem tZ:∀(s:List UInt8) (n:Nat),n<=jy n s
 | [],n=>Nat.le_refl _
 | c :: s,n=>Nat.le_trans (by omega) (tZ s (10*n+(c.toNat-48)))
theorem oV:∀(s:List UInt8) (n:Nat),(∀c∈s,48<=c.toNat/\c.toNat<=57)->jy n s<1000000000000000000->Lib.parseUint10 n s=.ok (jy n s)
 | [],n,_,_=>rfl
 | c :: s,n,h,hb=>by
  have hc:=h c (by simp);have hge:=tZ s (10*n+(c.toNat-48));have hb':jy (10*n+(c.toNat-48)) s<1000000000000000000:=hb;have e:n*10+(c.toNat-48)=10*n+(c.toNat-48):=by omega
  rw[Lib.parseUint10,if_pos hc,if_neg (by omega),if_neg (by omega),e];exact oV s _ (fun d hd=>h d (by simp[hd])) hb'
theorem Bl (s:List UInt8) (h:∀c∈s,48<=c.toNat/\c.toNat<=57) (hne:s≠[]) (hl:s.length<=18):Lib.atoiAll s=.ok (numOf s:Int):=by
 have hlt:=JZ s (fun c hc=>(h c hc).2);have h18:10 ^ s.length<=10 ^ 18:=Nat.pow_le_pow_right (by decide) hl;have hp:=oV s 0 h (by show numOf s< _;omega)
 match s,hne with
 | c :: r,_ =>
  have hc:=h c (by simp);have hm:Lib.parseMag (c :: r)=.ok (numOf (c :: r)):=by unfold Lib.parseMag;rw[if_neg (by simp)];exact hp
  have e1:(if c.toNat=43∨c.toNat=45 then r else c :: r)=c :: r:=if_neg (by omega);have hb:numOf (c :: r)<1000000000000000000:=by omega
  rw[Lib.atoiAll];simp only[e1,hm];rw [if_neg (by omega),if_neg (by omega),if_neg (by omega)]
def UR {α:Type} (n:Nat) (P:Program) (gf:Nat) (lb:Array Value) (encs:α->Array Value) (R:List α->α->Prop) (S G:List α->Prop) (Kw:World->Prop):Prop :=
 ∀(l:Nat) (J Jx:List α->World->Prop) (W:World),Kw W->uU J->uU Jx->(∀s X,J s X->Kw X)->(∀s X,J s X->G s) ->
  (∀pre x X,J pre X->R pre x->YieldAt Fence.wide (n-1) P l (encs x) X fun e Y=>(e=.returned (.bool true)/\J (pre++[x]) Y/\Fr W.heap.size X Y)∨(e=.returned (.bool false)/\Jx (pre++[x]) Y)) ->
  J [] W->CallsIn Fence.wide n P gf (#[.func (.yield l) #[] #[]]++lb) W fun e Y=>(∃v,e=.returned v)/\((∃xs,S xs/\J xs Y)∨∃pre,Jx pre Y)
def RH {α:Type} (B:Nat) (I:List α->World->Prop) (Ix:Code->List α->World->Prop) (xs:List α) (W:World):Exit->Act->World->Prop
 | .normal,_,Y=>Fr B W Y/\I xs Y
 | .ret,_,Y=>Fr B W Y/\Ix .ret xs Y
 | .exit id,_,Y=>Fr B W Y/\Ix (.exit id) xs Y
 | _,_,_=>False
theorem vC {α:Type} {n:Nat} {P:Program} {g:Operand} {ps:Array Tmp} {assign body:Code} {Q:Exit->Act->World->Prop} {a:Act} {w:World} {Kw:World->Prop} (h1:1<=n) {gf:Nat} {lb:Array Value} (hg:a.eval g=.func (.func gf) #[] lb)
 (eg:∀args w,(callFunc gf args).run P w=.ok (.enter gf args) w) {encs:α->Array Value} {R:List α->α->Prop} {S G:List α->Prop} (hseq:UR (n-1) P gf lb encs R S G Kw) (hb0:∀X,Below w.heap.size w X->Kw X) (hps:∀x,(encs x).size=ps.size)
 (I:List α->World->Prop) (Ix:Code->List α->World->Prop) (hI:uU I) (yE:BI w.heap.size I) (hIx:∀c,uU (Ix c)) (kD:∀c,BI w.heap.size (Ix c)) (rV:∀s X,I s X->Kw X) (hG:∀s X,I s X->G s) (hz:I [] w) (Ax:α->Act->World->Prop) (hAx:∀x a' X l o o',Ax x a' X->X.heap[l]? = some o->o.isCells=false->Ax x a' (X.putObj l o'))
 (hassign:∀(l:Nat) (x:α) (W:World) (K:Act->World->Prop),(∀a' W',Below W.heap.size W W'->Ax x a' W'->K a' W') ->
  assign.wpIn (Fence.wide.inRound l) (n-1-1) P (Exit.then K (fun _ _ _=>False)) { tmps:=(ps.zip (encs x)).foldl (fun t (p,v)=>t.setIfInBounds p v) a.tmps,defers:=[] } W)
 (hbody:∀(l:Nat) (pre:List α) (x:α) (a':Act) (W:World),I pre W->Ax x a' W->R pre x->body.wpIn (Fence.wide.inRound l) (n-1-1) P (RH w.heap.size I Ix (pre++[x]) W) a' W)
 (hdone:∀(D:Nat) (xs:List α) (W:World),w.heap.size<=D->S xs->I xs W->W.heap[D]? = some (.deferred (some []))->Q .normal { a with defers:={ target:=.collected D,args:=#[] } :: a.defers } W)
 (hstop:∀(D:Nat) (c:Code) (pre:List α) (W:World),w.heap.size<=D->Ix c pre W->W.heap[D]? = some (.deferred (some []))->c.wpIn Fence.wide n P Q { a with defers:={ target:=.collected D,args:=#[] } :: a.defers } W) :
 (Code.rangeFunc g ps assign body).wpIn Fence.wide n P Q a w:=by
 refine wpIn_rangeFunc fun fn hfn=>?_
 obtain⟨mk,hmk⟩:∃mk:LoopState->Option Code->Loop,mk=fun st pe=>{ state:=st,pending:=pe,fn:=fn,tmps:=a.tmps,params:=ps,assign:=assign,body:=body,defers:=w.heap.size }:=⟨_,rfl⟩
 obtain⟨V,hV⟩:∃V,V=(w.alloc (.deferred (some []))).alloc (.loop (mk .ready none)):=⟨_,rfl⟩
 have IJ:Below w.heap.size w V:=by rw[hV];exact bNew (bNew (aP w) _) _
 have Zz:V.heap.size=w.heap.size+2:=by rw[hV,World.size_alloc,World.size_alloc]
 have Ui:V.heap[w.heap.size+1]? = some (.loop (mk .ready none)):=by
  have h:=World.alloc_heap_new (w.alloc (.deferred (some []))) (.loop (mk .ready none));rw [World.size_alloc]at h;rw [hV];exact h
 have Uj:V.heap[w.heap.size]? = some (.deferred (some [])):=by
  rw[hV];exact (Below.heap_alloc _ _ _ (by rw[World.size_alloc];omega)).trans (World.alloc_heap_new w _)
 refine⟨w.heap.size+1,[{ target:=.collected w.heap.size,args:=#[] }],V,{ target:=.fn (.func gf) lb,args:=#[.func (.yield (w.heap.size+1)) #[] #[]] },V,gf,#[.func (.yield (w.heap.size+1)) #[] #[]]++lb,V,?_,?_,fun _ _=>trivial,?_,fun _=>h1,?_⟩
 · rw[hV,hmk];exact run_enterLoop_outer _ _ _ _ _
 · simp only[resolve,hg];simp [go_sem]
 · simp[invoke,go_sem,eg]
 have two:∀(st:LoopState) (pe:Option Code) (X Y:World),X.heap[w.heap.size+1]? = some (.loop (mk st pe))/\X.heap[w.heap.size]? = some (.deferred (some []))->Below X.heap.size X Y->Y.heap[w.heap.size+1]? = some (.loop (mk st pe))/\Y.heap[w.heap.size]? = some (.deferred (some [])):=fun st pe X Y h hb =>
  ⟨(hb.block _ (Array.getElem?_eq_some_iff.1 h.1).1).trans h.1,(hb.block _ (Array.getElem?_eq_some_iff.1 h.2).1).trans h.2⟩
 refine (hseq (w.heap.size+1) (fun s X=>I s X/\X.heap[w.heap.size+1]? = some (.loop (mk .ready none))/\X.heap[w.heap.size]? = some (.deferred (some [])))
  (fun s X=>∃c,Ix c s X/\X.heap[w.heap.size+1]? = some (.loop (mk .done (some c)))/\X.heap[w.heap.size]? = some (.deferred (some []))) V (hb0 V IJ)
  (fun s X Y h hb=>⟨hI s X Y h.1 hb,two _ _ X Y h.2 hb⟩) (fun s X Y ⟨c,h,h2⟩ hb=>⟨c,hIx c s X Y h hb,two _ _ X Y h2 hb⟩) (fun s X h=>rV s X h.1) (fun s X h=>hG s X h.1) ?_ ⟨hI _ _ _ hz IJ,Ui,Uj⟩).mono ?_
 · intro pre x X hX hlen;obtain ⟨hi,hl,hd⟩:=hX;have hlt:w.heap.size+1<X.heap.size:=(Array.getElem?_eq_some_iff.1 hl).1;have Wy:=hlt;have hy:=run_yield (P:=P) (args:=encs x) hl (by rw[hmk];exact hps x);rw [hmk]at hy;refine ⟨fn,_,assign,body,hy,roundIn_of_wpIn hfn (hassign _ x X _ fun a' X0 hb0 ha0=>⟨_,run_beginRound ((hb0.block _ hlt).trans hl) (by rw[hmk]),?_⟩)⟩;have hsz0:=hb0.size;replace hi:=hI _ _ _ hi hb0;replace hl:=(hb0.block _ hlt).trans hl;replace hd:=(hb0.block _ (show w.heap.size<X.heap.size by omega)).trans hd;replace hlt:w.heap.size+1<X0.heap.size:=by omega
   obtain⟨X1,hX1⟩:∃X1,X1=X0.putObj (w.heap.size+1) (.loop { mk .ready none with state:=.busy }):=⟨_,rfl⟩
   rw[←hX1];have hl1:X1.heap[w.heap.size+1]? = some (.loop { mk .ready none with state:=.busy }):=by rw[hX1];exact World.putObj_heap_same hlt
   have hd1:X1.heap[w.heap.size]? = some (.deferred (some [])):=by rw[hX1];exact (World.putObj_heap_other (by omega)).trans hd
   have hs1:Fr V.heap.size X X1:=by rw[hX1];exact (Fr.below hb0).trans (Fr.put _ (by omega))
   have ha1:Ax x a' X1:=by rw[hX1];exact hAx _ _ _ _ _ _ ha0 hl rfl
   have hi1:I pre X1:=by rw[hX1];exact yE _ _ _ _ _ hi (by omega) hl rfl
   refine wpIn_mono (hbody _ pre x a' X1 hi1 ha1 hlen) ?_
   have fin:∀(jump:Option Code) (Y:World),Fr w.heap.size X1 Y ->
    ∃o o',Y.heap[w.heap.size+1]? = some o/\o.isCells=false/\(Instr.endRound (w.heap.size+1) jump).run P Y=.ok (.bool jump.isNone) (Y.putObj (w.heap.size+1) o')/\(Y.putObj (w.heap.size+1) o').heap[w.heap.size+1]? = some (.loop (mk (if jump.isNone then .ready else .done) jump))/\(Y.putObj (w.heap.size+1) o').heap[w.heap.size]? = some (.deferred (some [])):=fun jump Y hk=>by
    have hl2:=hk.keep _ _ (by omega) hl1;have hd2:=hk.keep _ _ (by omega) hd1;have he:=run_endRound (P:=P) jump hl2;have hlt2:=(Array.getElem?_eq_some_iff.1 hl2).1;refine ⟨_,_,hl2,rfl,he,?_,(World.putObj_heap_other (by omega)).trans hd2⟩;rw [World.putObj_heap_same hlt2,hmk]
   rintro e a3 Y hp
   cases e with
   | normal =>
    obtain⟨o,o',h1',h2',hr,vK,vM⟩:=fin none Y hp.1;refine ⟨_,_,hr,.inl ⟨rfl,⟨yE _ _ _ _ _ hp.2 (by omega) h1' h2',vK,vM⟩,(hs1.trans (hp.1.more (by omega))).trans (Fr.put _ (by omega))⟩⟩
   | ret =>
    obtain⟨o,o',h1',h2',hr,vK,vM⟩:=fin (some .ret) Y hp.1;exact ⟨_,_,hr,.inr ⟨rfl,_,kD _ _ _ _ _ _ hp.2 (by omega) h1' h2',vK,vM⟩⟩
   | exit id =>
    obtain⟨o,o',h1',h2',hr,vK,vM⟩:=fin (some (.exit id)) Y hp.1;exact ⟨_,_,hr,.inr ⟨rfl,_,kD _ _ _ _ _ _ hp.2 (by omega) h1' h2',vK,vM⟩⟩
   | _=>exact hp.elim
 · rintro e Y ⟨⟨v,rfl⟩,(⟨xs,hS,hi,hl,hd⟩|⟨pre,c,hi,hl,hd⟩)⟩
   · have hr:=run_endLoop (P:=P) hl (by rw[hmk];simp);refine ⟨none,_,by rw[hr,hmk],hdone _ xs _ (Nat.le_refl _) hS (yE _ _ _ _ _ hi (by omega) hl rfl) ((World.putObj_heap_other (by omega)).trans hd)⟩
   · have hr:=run_endLoop (P:=P) hl (by rw[hmk];simp);refine ⟨some c,_,by rw[hr,hmk],hstop _ c pre _ (Nat.le_refl _) (kD _ _ _ _ _ _ hi (by omega) hl rfl) ((World.putObj_heap_other (by omega)).trans hd)⟩
theorem jA {P:Program} {w:World} {mty kt et:TypeId} {r clock:Nat} {es:Array MapEntry} (hm:P.underlying mty=some (.map kt et)) (hk:P.underlying kt=some (.int .i64)) (hb:w.heap[r]? = some (.map es clock)) (key:Int) (val:Value)
 (hf:Instr.findNow (.int .i64) (.int .i64 key) es.toList 0=some none) :
 (Instr.mapUpdate mty (.map (some r)) (.int .i64 key) val).run P w=.ok () (w.putObj r (.map (es.push { key:=.int .i64 key,val:=val,born:=clock }) (clock+1))):=by
 have hc:(Instr.checkKey false 10000 kt (.int .i64 key)).run P w=.ok () w:=MapKept.run_checkKey (k:=.int .i64 key) hk (by simp[MapKept.IsKey]) false 9999;simp [Instr.mapUpdate,run_underlying hm,MapKept.run_getObj_map hb,hc,MapKept.run_findKey hk hf,MapKept.run_setObj_map _ hb,Result.andThen]
 rfl
theorem Ph {P:Program} {w:World} {mty kt et:TypeId} {r clock i:Nat} {es:Array MapEntry} (hm:P.underlying mty=some (.map kt et)) (hk:P.underlying kt=some (.int .i64)) (hb:w.heap[r]? = some (.map es clock)) (key:Int) {v:Value}
 (hf:Instr.findNow (.int .i64) (.int .i64 key) es.toList 0=some (some (i,v))) :
 (Instr.lookup mty (.map (some r)) (.int .i64 key) true).run P w=.ok (.tuple #[v,.bool true]) w:=by
 have hc:(Instr.checkKey es.isEmpty 10000 kt (.int .i64 key)).run P w=.ok () w:=MapKept.run_checkKey (k:=.int .i64 key) hk (by simp[MapKept.IsKey]) _ 9999;simp [Instr.lookup,run_underlying hm,MapKept.run_getObj_map hb,hc,MapKept.run_findKey hk hf,Result.andThen]
theorem iC {w:World} {r:Nat} {o o':Obj} (hb:w.heap[r]? = some o):(w.putObj r o').heap[r]? = some o':=World.putObj_heap_same (Array.getElem?_eq_some_iff.1 hb).1
end Go.Proofs.YtohgjenaclfegaaGreatDoor
namespace Go.Proofs.YtohgjenaclfegaaGreatDoor.RK
open Go.RowKit
structure Cls (K:World->World->Prop):Prop where
 refl:∀w,K w w
 trans:∀ {a b c},K a b->K b c->K a c
 drawn:∀(w:World) n,K w { w with drawn:=n }
def b_ (K:World->World->Prop) (p:Value->World->Prop):Prop:=∀v w w',p v w->K w w'->p v w'
def ak (u:Value):Value->World->Prop:=fun v _=>v=u
def gU:Value->World->Prop:=fun _ _=>True
theorem aI {K:World->World->Prop} (u:Value):b_ K (ak u):=fun _ _ _ h _=>h
theorem gI {K:World->World->Prop}:b_ K gU:=fun _ _ _ _ _=>trivial
def rel (ps:List (Value->World->Prop)) (i:Nat) (v:Value) (w:World):Prop:=(ps.getD i gU) v w
def aY (K:World->World->Prop):List (Value->World->Prop)->Prop
 | []=>True
 | p :: l=>b_ K p/\aY K l
def bV (vs:Nat->Value) (w:World):Nat->List (Value->World->Prop)->Prop
 | _,[]=>True
 | k,p :: l=>p (vs k) w/\bV vs w (k+1) l
theorem aY.get {K:World->World->Prop}:∀(ps:List (Value->World->Prop)) (i:Nat),aY K ps->b_ K (ps.getD i gU)
 | [],i,_=>by simpa using gI
 | p :: l,0,h=>by simpa using h.1
 | p :: l,i+1,h=>by simpa using aY.get l i h.2
theorem dS {vs:Nat->Value} {w:World}:∀(ps:List (Value->World->Prop)) (k:Nat),(∀i,i<ps.length->(ps.getD i gU) (vs (k+i)) w)->bV vs w k ps
 | [],_,_=>trivial
 | p :: l,k,h=>⟨by simpa using h 0 (by simp),dS l (k+1) fun i hi=>by
  have:=h (i+1) (by simp;omega)
  rw[show k+1+i=k+(i+1) by omega];simpa using this⟩
def uF (o:Oper) (j:Nat):Bool:=o.after.toList.any fun e=>Region.binds .any e&&e.on==j
def aN (vs:Nat->Value):Nat->List (Option Tmp)->Act->Act
 | _,[],a=>a
 | k,d :: rest,a=>aN vs (k+1) rest (a.put d (vs k))
theorem bJ (vs:Nat->Value):∀(l:List Oper) (k:Nat) (a:Act),bK vs k l a=aN vs k (l.map (·.dst)) a
 | [],_,_=>rfl
 | o :: l,k,a=>bJ vs l (k+1) _
def Users (K:World->World->Prop) (P:Program) (ps:List (Value->World->Prop)) (w0:World) (a0:Act):List (Option Tmp)->List Oper->List (Value->World->Prop)->Prop
 | pre,o :: l,q :: qs=>(∀(vs:Nat->Value) (w:World),K w0 w->(∀j,uF o j=true->rel ps j (vs j) w) ->
  wpList P #[] (fun e a' w'=>e=.normal/\a'.defers=a0.defers/\K w w'/\q (lW o a') w') [o] (aN vs 0 pre a0) w)/\Users K P ps w0 a0 (pre++[o.dst]) l qs
 | _,_,_=>True
theorem Users.rg {K:World->World->Prop} {P:Program} {ps:List (Value->World->Prop)} {w0:World} {a0:Act} {L:List Oper} {n:Nat} (hlk:eF L.toArray n=true) (hnp:n<=ps.length):∀(l:List Oper) (k:Nat),(∀j,l[j]? = (L.take n)[k+j]?)->Users K P ps w0 a0 ((L.take k).map (·.dst)) l (ps.drop k)->RS.aZ K (fun _=>none) P L.toArray (fun i _ v w=>rel ps i v w) w0 a0 k l
 | [],_,_,_=>trivial
 | o :: l,k,hl,h=>by
  have h0:(L.take n)[k]? = some o:=by simpa using (hl 0).symm
  obtain⟨hkn,hLo⟩:=cZ h0;have hkp:k<ps.length:=by omega
  rw[List.drop_eq_getElem_cons hkp]at h;refine ⟨fun vs w hb hE=>?_,Users.rg hlk hnp l (k+1) (fun j=>by have:=hl (j+1);simpa [Nat.add_assoc,Nat.add_comm 1 j] using this) ?_⟩
  · have h1:=List.all_eq_true.1 hlk k (List.mem_range.2 hkn);have LZ:L.toArray[k]? = some o:=by simpa using hLo
    simp only[LZ,Bool.and_eq_true]at h1
    have hu:=h.1 vs w hb fun j hj=>by
     obtain⟨e,he,nY⟩:=List.any_eq_true.1 hj;simp only[Bool.and_eq_true,beq_iff_eq]at nY;have:=RS.eP _ hE e he nY.1
     rwa [nY.2]at this
    have hfr:seen L.toArray vs k a0=aN vs 0 ((L.take k).map (·.dst)) a0:=bJ vs _ 0 a0;rw [hfr];refine nN (ops:=#[]) (by simpa using h1.1.1) ?_;have hq:ps[k]=ps.getD k gU:=by simp[List.getD_eq_getElem?_getD,hkp]
    rw[hq]at hu;exact hu
  · have h2:=h.2
    have e1:(L.take k).map (·.dst)++[o.dst]=(L.take (k+1)).map (·.dst):=by
     rw[List.take_add_one,hLo];simp
    rw[e1]at h2;exact h2
theorem bM {K:World->World->Prop} (hK:Cls K) {P:Program} {l:List Oper} {Q:Exit->Act->World->Prop} {a0:Act} {w0:World} (ps:List (Value->World->Prop)) (n sz:Nat) (hnp:ps.length=n) (hsz:a0.tmps.size=sz)
 (hB:(iI l.toArray sz&&eF l.toArray n&&(decide (l.length<=n)||(Region.sinkB .any l.toArray n&&Region.chainB .any l.toArray n))&&decide (n<=l.length)&&Region.seqB .any l.toArray (l.length-n) n ((List.range l.length).map fun i=>decide (i<n)).toArray)=true)
 (hst:aY K ps) (hsteps:Users K P ps w0 a0 [] (l.take n) ps)
 (hfin:∀vs w',K w0 w'->bV vs w' 0 ps->wpList P l.toArray Q (l.drop n) (aN vs 0 ((l.take n).map (·.dst)) a0) w'):wpAny P .any l.toArray Q l.toArray.size (Array.replicate l.toArray.size false) a0 { w0 with drawn:=w0.drawn+1 }:=by
 subst hnp hsz;have hlk:eF l.toArray ps.length=true:=by simp only[Bool.and_eq_true]at hB;exact hB.1.1.1.2
 replace hB:(iI l.toArray a0.tmps.size&&gW l.toArray ps.length&&(decide (l.length<=ps.length)||(Region.sinkB .any l.toArray ps.length&&Region.chainB .any l.toArray ps.length))&&decide (ps.length<=l.length)&&Region.seqB .any l.toArray (l.length-ps.length) ps.length ((List.range l.length).map fun i=>decide (i<ps.length)).toArray)=true:=by
  simp only[Bool.and_eq_true]at hB ⊢;exact ⟨⟨⟨⟨hB.1.1.1.1,wS hlk⟩,hB.1.1.2⟩,hB.1.2⟩,hB.2⟩
 refine RS.dH ⟨hK.refl,hK.trans,hK.drawn⟩ (fun _=>none) ps.length (fun i _ v w=>rel ps i v w) hB (fun _ _ _ _ h=>by cases h) (fun i _ v w w' h hb=>aY.get ps i hst v w w' h hb) (Users.rg hlk (Nat.le_refl _) (l.take ps.length) 0 (fun j=>by simp) hsteps) fun vs w' hb hR=>by rw[bJ];exact hfin vs w' hb (dS ps 0 fun i hi=>by rw[Nat.zero_add];exact hR i hi)
theorem au {K:World->World->Prop} (hK:Cls K) {P:Program} {id:Nat} {l:List Oper} {Q:Exit->Act->World->Prop} {a0:Act} {w0:World} (ps:List (Value->World->Prop)) (n sz:Nat) (hm:P.follows .mixedOrders=true) (hnp:ps.length=n) (hsz:a0.tmps.size=sz)
 (hB:(iI l.toArray sz&&eF l.toArray n&&(decide (l.length<=n)||(Region.sinkB .any l.toArray n&&Region.chainB .any l.toArray n))&&decide (n<=l.length)&&Region.seqB .any l.toArray (l.length-n) n ((List.range l.length).map fun i=>decide (i<n)).toArray)=true)
 (hst:aY K ps) (hsteps:Users K P ps w0 a0 [] (l.take n) ps)
 (hfin:∀vs w',K w0 w'->bV vs w' 0 ps->wpList P l.toArray Q (l.drop n) (aN vs 0 ((l.take n).map (·.dst)) a0) w'):(Code.region id l.toArray true).wp P Q a0 w0 :=
 wp_region_any hm (bM hK ps n sz hnp hsz hB hst hsteps hfin)
end Go.Proofs.YtohgjenaclfegaaGreatDoor.RK

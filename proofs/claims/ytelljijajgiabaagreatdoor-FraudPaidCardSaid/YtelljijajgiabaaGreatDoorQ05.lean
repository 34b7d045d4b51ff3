import Derived.Test.YtelljijajgiabaaGreatDoorQ04
set_option linter.unusedVariables false
set_option linter.unusedSimpArgs false
set_option maxRecDepth 100000
set_option maxHeartbeats 8000000
namespace Rq
def Sz (k:Nat) (z:Int):Prop:=z.natAbs<10 ^ k
theorem Sz.mono {j k:Nat} {z:Int} (h:Sz j z) (hk:j<=k):Sz k z:=Nat.lt_of_lt_of_le h (Nat.pow_le_pow_right (by decide) hk)
theorem Sz.fits {k:Nat} {z:Int} (h:Sz k z) (hk:k<=200):Ig.fits z:=h.mono hk
theorem Sz.add {k:Nat} {x y:Int} (hx:Sz k x) (hy:Sz k y):Sz (k+1) (x+y):=by
 unfold Sz at *
 rw[Nat.pow_succ];omega
theorem Sz.neg {k:Nat} {x:Int} (hx:Sz k x):Sz k (-x):=by unfold Sz at *;omega
theorem Sz.mul {j k:Nat} {x y:Int} (hx:Sz j x) (hy:Sz k y):Sz (j+k) (x*y):=by
 unfold Sz at *
 rw[Int.natAbs_mul,Nat.pow_add];exact Nat.mul_lt_mul'' hx hy
theorem sz_zero:Sz 1 0:=by unfold Sz;decide
structure Qz (j k:Nat) (q:Rat):Prop where
 num:Sz j q.num
 den:Sz k (q.den:Int)
theorem Qz.fq {j k:Nat} {q:Rat} (h:Qz j k q) (hj:j<=200) (hk:k<=200):Fq q:=⟨h.num.fits hj,h.den.fits hk⟩
theorem Qz.mono {j k j' k':Nat} {q:Rat} (h:Qz j k q) (hj:j<=j') (hk:k<=k'):Qz j' k' q:=⟨h.num.mono hj,h.den.mono hk⟩
def cmpQ (x y:Rat):Int:=Go.Proofs.YtelljijajgiabaaGreatDoor.cmpZ (x.num*y.den) (y.num*x.den)
theorem cmp_lt {x y:Rat}:cmpQ x y= -1↔x<y:=by
 rw[Rat.lt_iff]
 unfold cmpQ Go.Proofs.YtelljijajgiabaaGreatDoor.cmpZ
 split
 · simp[*]
 · split <;> simp[*]
theorem cmp_gt {x y:Rat}:cmpQ x y=1↔y<x:=by
 rw[Rat.lt_iff]
 unfold cmpQ Go.Proofs.YtelljijajgiabaaGreatDoor.cmpZ
 split
 · simp;omega
 · split <;> simp[*]
theorem cmp_eq {x y:Rat}:cmpQ x y=0↔x=y:=by
 have h:=Rat.divInt_eq_divInt_iff (n₁:=x.num) (n₂:=y.num) (den_ne' x) (den_ne' y);rw [Rat.num_divInt_den,Rat.num_divInt_den]at h;rw [h]
 unfold cmpQ Go.Proofs.YtelljijajgiabaaGreatDoor.cmpZ
 split
 · simp;omega
 · split <;> simp <;> omega
theorem cmp_cases (x y:Rat):(cmpQ x y= -1/\x<y)∨(cmpQ x y=0/\x=y)∨(cmpQ x y=1/\y<x):=by
 have h:cmpQ x y= -1∨cmpQ x y=0∨cmpQ x y=1:=by
  unfold cmpQ Go.Proofs.YtelljijajgiabaaGreatDoor.cmpZ
  split
  · simp
  · split <;> simp
 rcases h with h|h|h
 · exact .inl ⟨h,cmp_lt.1 h⟩
 · exact .inr (.inl ⟨h,cmp_eq.1 h⟩)
 · exact .inr (.inr ⟨h,cmp_gt.1 h⟩)
end Rq
namespace Go.Proofs.YtelljijajgiabaaGreatDoor.RK
open Go.RowKit
structure Cls (K:World->World->Prop):Prop where
 refl:∀w,K w w
 trans:∀ {a b c},K a b->K b c->K a c
 drawn:∀(w:World) n,K w { w with drawn:=n }
def slotV (ops:Array Oper) (a:Act) (j:Nat):Value :=
 match (ops[j]?).bind (·.dst) with
 | some d=>a.tmps.getD d undef
 | none=>undef
def putAll (vs:Nat->Value):Nat->List Oper->Act->Act
 | _,[],a=>a
 | k,o :: rest,a=>putAll vs (k+1) rest (a.put o.dst (vs k))
def SameF (ops:Array Oper) (n:Nat) (a0 a:Act):Prop :=
 a.defers=a0.defers/\a.tmps.size=a0.tmps.size/\∀t,(∀(i:Nat) (o:Oper),i<n->ops[i]? = some o->o.dst≠some t)->a.tmps.getD t undef=a0.tmps.getD t undef
def StepRG (K:World->World->Prop) (P:Program) (ops:Array Oper) (n:Nat) (R:Nat->Value->World->Prop) (w0:World) (a0:Act) (Q:Exit->Act->World->Prop) (i:Nat) (o:Oper):Prop :=
 ∀(a:Act) (w:World),K w0 w->SameF ops n a0 a->(∀e∈o.after,Region.binds .any e=true->R e.on (slotV ops a e.on) w) ->
  if Region.wanted o (yielded ops a.tmps)=true then o.wp P a w (fun a' w'=>∃v,a'=a.put o.dst v/\K w w'/\R i (if o.dst.isSome then v else undef) w') Q else R i undef w
def okRG (ops:Array Oper) (n:Nat):Bool :=
 (List.range ops.size).all fun i=>match ops[i]? with
  | none=>true
  | some o=>(o.after.all fun e=> !Region.binds .any e||decide (e.on<i))&&(match o.dst with|some d=>decide (d<n)|none=>true) &&
   (List.range ops.size).all fun j=>decide (j=i)||match (ops[j]?).bind (·.dst),o.dst with|some d,some d'=>d != d'|_,_=>true
section
variable {P:Program} {ops:Array Oper} {R:Nat->Value->World->Prop} {w0:World} {a0:Act} {Q:Exit->Act->World->Prop}
theorem okRG_spec {n:Nat} (h:okRG ops n=true) {i:Nat} {o:Oper} (ho:ops[i]? = some o) :
 (∀e∈o.after,Region.binds .any e=true->e.on<i)/\(∀d,o.dst=some d->d<n)/\(∀j oj d d',j≠i->ops[j]? = some oj->oj.dst=some d->o.dst=some d'->d≠d'):=by
 have hi:i<ops.size:=(Array.getElem?_eq_some_iff.1 ho).1;have h1:=List.all_eq_true.1 h i (List.mem_range.2 hi);simp only[ho,Bool.and_eq_true]at h1;obtain ⟨⟨h1,h2⟩,h3⟩:=h1;refine ⟨fun e he hb=>?_,fun d hd=>?_,fun j oj d d' hj hoj hd hd'=>?_⟩
 · have:=Array.all_eq_true'.1 h1 e he;simpa [hb] using this
 · rw[hd]at h2;simpa using h2
 · have hjn:j<ops.size:=(Array.getElem?_eq_some_iff.1 hoj).1;have:=List.all_eq_true.1 h3 j (List.mem_range.2 hjn);simpa [hj,hoj,hd,hd'] using this
theorem getD_put (a:Act) (d t:Nat) (v:Value):(a.put (some d) v).tmps.getD t undef=if t=d/\d<a.tmps.size then v else a.tmps.getD t undef:=by
 simp only[Act.put,Array.getD_eq_getD_getElem?,Array.getElem?_setIfInBounds];by_cases h:d=t
 · subst h;by_cases h2:d<a.tmps.size
   · simp[h2]
   · simp[h2]
 · rw[if_neg h,if_neg (fun hh=>h hh.1.symm)]
theorem count_one {n i:Nat} {listed:Array Bool} (hi:i<listed.size) (hun:listed.getD i true=false):∀(l:List Nat),l.Nodup->i∈l->l.countP (fun j=> !(listed.setIfInBounds i true).getD j true)+1=l.countP (fun j=> !listed.getD j true):=by
 intro l
 induction l with
 | nil=>intro _ h;cases h
 | cons x l ihl =>
  intro hnd hm;rw [List.nodup_cons]at hnd;rw [List.countP_cons,List.countP_cons];by_cases hx:i=x
  · subst hx;have e1:(listed.setIfInBounds i true).getD i true=true:=by simp[Array.getD_eq_getD_getElem?,hi]
    have h5:l.countP (fun j=> !(listed.setIfInBounds i true).getD j true)=l.countP (fun j=> !listed.getD j true):=by
     refine List.countP_congr fun j hj=>?_
     rw[getD_set_ne true (fun h=>hnd.1 (by rw[h];exact hj))]
    simp only[e1,hun,h5,Bool.not_false,Bool.not_true,if_true,Bool.false_eq_true,if_false]
  · have:=ihl hnd.2 (by simpa [hx] using hm);rw [getD_set_ne true hx];omega
theorem any_rg {K:World->World->Prop} (hK:Cls K) {n g:Nat} (hok:okRG ops a0.tmps.size=true) (hsc:ops.size<=n∨(Region.sinkB .any ops n=true/\Region.chainB .any ops n=true)) (hn:n<=ops.size)
 (hst:∀i v w w',R i v w->K w w'->R i v w') (hsteps:∀i o,i<n->ops[i]? = some o->StepRG K P ops n R w0 a0 Q i o)
 (hfin:∀listed a w,HeadInv .any ops n listed->(∀i,i<n->listed.getD i true=true)->K w0 w->SameF ops n a0 a->(∀i,i<n->R i (slotV ops a i) w)->wpAny P .any ops Q g listed a w) :
 ∀(fuel:Nat) (listed:Array Bool) (a:Act) (w:World),HeadInv .any ops n listed->((List.range n).countP (fun i=> !listed.getD i true))=fuel->K w0 w->SameF ops n a0 a ->
  (∀i,i<n->listed.getD i false=true->R i (slotV ops a i) w)->wpAny P .any ops Q (fuel+g) listed a w:=by
 intro fuel
 induction fuel with
 | zero =>
  intro listed a w inv hcnt hb hsame hR
  have hall:∀i,i<n->listed.getD i true=true:=by
   intro i hi;have:=List.countP_eq_zero.1 hcnt i (List.mem_range.2 hi);simpa using this
  rw[Nat.zero_add];exact hfin listed a w inv hall hb hsame fun i hi=>hR i hi (by have:=hall i hi;simpa [Array.getD_eq_getD_getElem?,inv.size,show i<ops.size by omega] using this)
 | succ fuel ih =>
  intro listed a w inv hcnt hb hsame hR
  have hex:∃i,i<n/\listed.getD i true=false:=by
   have h0:0<(List.range n).countP (fun i=> !listed.getD i true):=by omega
   obtain⟨i,hi,hp⟩:=List.countP_pos_iff.1 h0;exact ⟨i,List.mem_range.1 hi,by simpa using hp⟩
  rw[show fuel+1+g=(fuel+g)+1 by omega];refine ⟨fun he=>?_,fun i hi=>?_⟩
  · exfalso
    have hempty:∀i,i<n->listed.getD i true=true:=by
     intro i
     induction i using Nat.strongRecOn with
     | _ i ih =>
      intro hi
      cases hl:listed.getD i true with
      | true=>rfl
      | false =>
       have hoi:ops[i]? = some (ops[i]'(by omega)):=Array.getElem?_eq_getElem (by omega)
       have:i∈Region.ready .any ops listed:=mem_ready.2 ⟨hl,_,hoi,fun e hem hbd=>by
        have hlt:=(okRG_spec hok hoi).1 e hem hbd;have:=ih e.on hlt (by omega)
        simpa [Array.getD_eq_getD_getElem?,inv.size,show e.on<ops.size by omega] using this⟩
       rw[he]at this;cases this
    obtain⟨i,hi,hu⟩:=hex;rw [hempty i hi]at hu;cases hu
  obtain⟨hun,o,ho,hdeps⟩:=mem_ready.1 hi;have hin:i<ops.size:=(Array.getElem?_eq_some_iff.1 ho).1
  have hhead:i<n:=by
   obtain⟨k,hk,hu⟩:=hex
   rcases Nat.lt_or_ge i n with h|h
   · exact h
   · rcases hsc with hsc|⟨hs,hc⟩
     · omega
     · exact absurd hi (tail_waits hs hc (by omega) inv _ k rfl hk hu i h)
  obtain⟨hback,hbound,hdist⟩:=okRG_spec hok ho
  have hc':(List.range n).countP (fun j=> !(listed.setIfInBounds i true).getD j true)=fuel:=by
   have:=count_one (n:=n) (by rw[inv.size];exact hin) hun (List.range n) List.nodup_range (List.mem_range.2 hhead);omega
  have hstep:=hsteps i o hhead ho a w hb hsame (fun e he hbd=>hR e.on (by have:=hback e he hbd;omega) (hdeps e he hbd))
  have hput:∀v,SameF ops n a0 (a.put o.dst v):=by
   intro v;obtain ⟨e1,e2,e3⟩:=hsame
   cases hd:o.dst with
   | none=>exact⟨e1,e2,e3⟩
   | some d =>
    refine⟨e1,by simpa [Act.put] using e2,fun t ht=>?_⟩;rw [getD_put,if_neg (fun hh=>ht i o hhead ho (by rw[hd,hh.1])),e3 t ht]
  have hslot:∀v j,j≠i->slotV ops (a.put o.dst v) j=slotV ops a j:=by
   intro v j hj
   unfold slotV
   cases hd:o.dst with
   | none=>rfl
   | some d =>
    cases hoj:ops[j]? with
    | none=>rfl
    | some oj =>
     cases hdj:oj.dst with
     | none=>simp[hdj]
     | some dj =>
      simp only[Option.bind_some,hdj];rw [getD_put,if_neg (fun hh=>hdist j oj dj d hj hoj hdj hd hh.1)]
  have hself:∀v,slotV ops (a.put o.dst v) i=if o.dst.isSome then v else undef:=by
   intro v
   unfold slotV
   rw[ho]
   cases hd:o.dst with
   | none=>simp[hd]
   | some d =>
    simp only[Option.bind_some,hd,Option.isSome_some,if_true];rw [getD_put,if_pos ⟨rfl,by rw[hsame.2.1];exact hbound d hd⟩]
  have hnext:∀v w',K w w'->R i (if o.dst.isSome then v else undef) w'->wpAny P .any ops Q (fuel+g) (listed.setIfInBounds i true) (a.put o.dst v) w':=by
   intro v w' hbw hr;refine ih _ _ _ (inv.set hi hhead) hc' (hK.trans hb hbw) (hput v) fun j hjn hj=>?_
   by_cases hji:j=i
   · subst hji;rw[hself];exact hr
   · rw[hslot v j hji];exact hst _ _ _ _ (hR j hjn (by rw[←getD_set_ne false (fun h=>hji h.symm)];exact hj)) hbw
  unfold wpOp
  simp only[ho];by_cases hw:Region.wanted o (yielded ops a.tmps)=true
  · rw[if_pos hw]at hstep ⊢;refine .inl ?_;exact Oper.wp_mono (fun a' w' hh=>by obtain⟨v,e,hb',hr⟩:=hh;subst e;exact hnext v w' hb' hr) hstep
  · rw[if_neg hw]at hstep ⊢;refine hnext undef w (hK.refl _) ?_
    split <;> exact hstep
theorem putAll_size (vs:Nat->Value):∀(l:List Oper) (k:Nat) (a:Act),(putAll vs k l a).tmps.size=a.tmps.size/\(putAll vs k l a).defers=a.defers
 | [],_,_=>⟨rfl,rfl⟩
 | o :: l,k,a=>by
  have:=putAll_size vs l (k+1) (a.put o.dst (vs k));refine ⟨this.1.trans ?_,this.2.trans ?_⟩ <;> cases o.dst <;> simp[Act.put]
theorem putAll_ne (vs:Nat->Value) (t:Nat):∀(l:List Oper) (k:Nat) (a:Act),(∀o∈l,o.dst≠some t)->(putAll vs k l a).tmps.getD t undef=a.tmps.getD t undef
 | [],_,_,_=>rfl
 | o :: l,k,a,h=>by
  refine (putAll_ne vs t l (k+1) _ fun o ho=>h o (by simp[ho])).trans ?_
  cases hd:o.dst with
  | none=>rfl
  | some d=>rw[getD_put,if_neg (fun hh=>h o (by simp) (by rw[hd,hh.1]))]
theorem putAll_eq (vs:Nat->Value) (t:Nat):∀(l:List Oper) (k j:Nat) (o:Oper) (a:Act),l[j]? = some o->o.dst=some t->(∀(i:Nat) (o':Oper),j<i->l[i]? = some o'->o'.dst≠some t)->t<a.tmps.size ->
 (putAll vs k l a).tmps.getD t undef=vs (k+j)
 | [],_,_,_,_,h,_,_,_=>by simp at h
 | x :: l,k,0,o,a,h,hd,hu,ht=>by
  obtain rfl:x=o:=by simpa using h
  refine (putAll_ne vs t l (k+1) _ fun o ho=>?_).trans ?_
  · obtain⟨i,hi⟩:=List.mem_iff_getElem?.1 ho;exact hu (i+1) o (by omega) (by simpa using hi)
  · rw[hd,getD_put,if_pos ⟨rfl,ht⟩];rfl
 | x :: l,k,j+1,o,a,h,hd,hu,ht=>by
  have:=putAll_eq vs t l (k+1) j o (a.put x.dst (vs k)) (by simpa using h) hd (fun i o' hji hi=>hu (i+1) o' (by omega) (by simpa using hi)) (by cases x.dst <;> simpa [Act.put] using ht);rw [show putAll vs k (x :: l) a=putAll vs (k+1) l (a.put x.dst (vs k)) from rfl,this,show k+1+j=k+(j+1) by omega]
def looksB (ops:Array Oper) (n:Nat):Bool :=
 (List.range n).all fun i=>match ops[i]? with
  | none=>true
  | some o=>o.guard.isNone&&(match o.op with|.select ..=>false|_=>true) &&
   (o.looksAt ops).all fun t=>(List.range ops.size).all fun j=>match ops[j]? with|some oj=>oj.dst != some t||decide (j<i)||decide (n<=j)|none=>true
def seen (ops:Array Oper) (vs:Nat->Value) (i:Nat) (a0:Act):Act:=putAll vs 0 (ops.toList.take i) a0
theorem take_get {ops:Array Oper} {i j:Nat} {o:Oper}:(ops.toList.take i)[j]? = some o↔j<i/\ops[j]? = some o:=by
 rw[List.getElem?_take]
 split
 · simp[*]
 · constructor
   · intro h;cases h
   · intro h;omega
theorem take_get' {l:List Oper} {i j:Nat} {o:Oper} (h:(l.take i)[j]? = some o):j<i/\l[j]? = some o:=by
 rw[List.getElem?_take]at h
 split at h
 · exact⟨by assumption,h⟩
 · cases h
theorem act_ext {a b:Act} (h:a.tmps=b.tmps) (h':a.defers=b.defers):a=b:=by cases a;cases b;simp_all
theorem seen_slot {n i:Nat} {a:Act} (hin:i<=n) (hok:okRG ops a0.tmps.size=true) (hsame:SameF ops n a0 a) {t:Nat} (hl:∀(j:Nat) (oj:Oper),ops[j]? = some oj->oj.dst=some t->j<i∨n<=j) :
 (seen ops (slotV ops a) i a0).tmps.getD t undef=a.tmps.getD t undef:=by
 by_cases hw:∃(j:Nat) (oj:Oper),j<n/\ops[j]? = some oj/\oj.dst=some t
 · obtain⟨j,oj,hjn,hj,hd⟩:=hw;have hsp:=okRG_spec hok hj;have hji:j<i:=(hl j oj hj hd).resolve_right (by omega)
   unfold seen
   rw[putAll_eq (slotV ops a) t _ 0 j oj a0 (take_get.2 ⟨hji,hj⟩) hd (fun k o' hjk hk hd'=>hsp.2.2 k o' t t (by omega) (take_get.1 hk).2 hd' hd rfl) (hsp.2.1 t hd)];simp [slotV,hj,hd]
 · have hno:∀(j:Nat) (oj:Oper),j<n->ops[j]? = some oj->oj.dst≠some t:=fun j oj hjn hj hd=>hw ⟨j,oj,hjn,hj,hd⟩
   rw[hsame.2.2 t hno]
   unfold seen
   refine putAll_ne _ _ _ _ _ fun o ho=>?_
   obtain⟨j,hj⟩:=List.mem_iff_getElem?.1 ho;have:=(take_get.1 hj).1;exact hno j o (by omega) (take_get.1 hj).2
def AllE (R:Nat->Value->World->Prop) (vs:Nat->Value) (w:World):List Edge->Prop
 | []=>True
 | e :: l=>(Region.binds .any e=true->R e.on (vs e.on) w)/\AllE R vs w l
theorem AllE_of {R:Nat->Value->World->Prop} {vs:Nat->Value} {w:World}:∀(l:List Edge),(∀e∈l,Region.binds .any e=true->R e.on (vs e.on) w)->AllE R vs w l
 | [],_=>trivial
 | e :: l,h=>⟨h e (by simp),AllE_of l fun e he=>h e (by simp[he])⟩
def dstV (o:Oper) (a:Act):Value:=match o.dst with|some d=>a.tmps.getD d undef|none=>undef
def UserRG (K:World->World->Prop) (P:Program) (ops:Array Oper) (R:Nat->Value->World->Prop) (w0:World) (a0:Act) (i:Nat) (o:Oper):Prop :=
 ∀(vs:Nat->Value) (w:World),K w0 w->AllE R vs w o.after.toList ->
  wpList P ops (fun e a' w'=>e=.normal/\a'.defers=a0.defers/\K w w'/\R i (dstV o a') w') [o] (seen ops vs i a0) w
def UsersRG (K:World->World->Prop) (P:Program) (ops:Array Oper) (R:Nat->Value->World->Prop) (w0:World) (a0:Act):Nat->List Oper->Prop
 | _,[]=>True
 | k,o :: l=>UserRG K P ops R w0 a0 k o/\UsersRG K P ops R w0 a0 (k+1) l
theorem UsersRG.get {K:World->World->Prop} {P:Program} {ops:Array Oper} {R:Nat->Value->World->Prop} {w0:World} {a0:Act}:∀(l:List Oper) (k j:Nat) (o:Oper),UsersRG K P ops R w0 a0 k l->l[j]? = some o->UserRG K P ops R w0 a0 (k+j) o
 | [],_,_,_,_,h=>by simp at h
 | x :: l,k,0,o,hh,h=>by
  obtain rfl:x=o:=by simpa using h
  exact hh.1
 | x :: l,k,j+1,o,hh,h=>by
  have:=UsersRG.get l (k+1) j o hh.2 (by simpa using h)
  rwa [show k+1+j=k+(j+1) by omega]at this
theorem not_letsOut {K:World->World->Prop} {a0:Act} {R:Value->World->Prop} {w:World} {o:Oper} (h:LetsOut (fun e a' w'=>e=.normal/\a'.defers=a0.defers/\K w w'/\R (dstV o a') w')):False:=by
 obtain⟨_,_,h,_⟩:=h;cases h
theorem step_of_user {K:World->World->Prop} {n i:Nat} {o:Oper} (hok:okRG ops a0.tmps.size=true) (hlk:looksB ops n=true) (hi:i<n) (hin:n<=ops.size) (ho:ops[i]? = some o) (h:UserRG K P ops R w0 a0 i o):StepRG K P ops n R w0 a0 Q i o:=by
 intro a w hb hsame hdeps;have h1:=List.all_eq_true.1 hlk i (List.mem_range.2 hi);simp only[ho,Bool.and_eq_true]at h1;obtain ⟨⟨hg,hsel⟩,hl⟩:=h1;have hg':o.guard=none:=by simpa using hg
 have hw:∀y,Region.wanted o y=true:=fun y=>by simp[Region.wanted,hg']
 rw[if_pos (hw _)];have hu:=h (slotV ops a) w hb (AllE_of _ fun e he hbd=>hdeps e (by simpa using he) hbd);simp only[wpList,hw,if_true]at hu
 have hexec:execOp a.eval o=execOp (seen ops (slotV ops a) i a0).eval o:=by
  refine execOp_congr o (fun cs b e=>by rw[e]at hsel;simp at hsel) fun x hx=>?_
  cases x with
  | tmp t =>
   have ht:t∈o.looksAt ops:=List.mem_append_left _ (List.mem_filterMap.2 ⟨.tmp t,by simpa using hx,rfl⟩);have h2:=List.all_eq_true.1 hl t ht;refine (seen_slot (Nat.le_of_lt hi) hok hsame fun j oj hj hd=>?_).symm;have h3:=List.all_eq_true.1 h2 j (List.mem_range.2 (Array.getElem?_eq_some_iff.1 hj).1);simpa [hj,hd] using h3
  | _=>rfl
 have hsz:=putAll_size (slotV ops a) (ops.toList.take i) 0 a0
 have hput:∀v,dstV o ((seen ops (slotV ops a) i a0).put o.dst v)=if o.dst.isSome then v else undef:=by
  intro v
  unfold dstV
  cases hd:o.dst with
  | none=>rfl
  | some d =>
   simp only[Option.isSome_some,if_true];rw [getD_put,if_pos ⟨rfl,by rw[seen,hsz.1];exact (okRG_spec hok ho).2.1 d hd⟩]
 rcases hu with hu|hu
 · unfold Oper.wp at hu ⊢
   rw[hexec];generalize (execOp (seen ops (slotV ops a) i a0).eval o).run P w=r at hu
   cases r with
   | halt x w'=>cases x <;> simp only[Oper.upon]at hu ⊢ <;> first|exact absurd hu.1 (by simp)|exact hu
   | ok nx w' =>
    cases nx <;> simp only[Oper.upon]at hu ⊢
    case value v=>exact⟨v,rfl,hu.2.2.1,by rw[←hput];exact hu.2.2.2⟩
    case skip=>exact⟨undef,rfl,hu.2.2.1,by rw[←hput];exact hu.2.2.2⟩
    case defer d =>
     exfalso
     have:=hu.2.1;have h9:=congrArg List.length this;cases hd:o.dst <;> simp[hd,Act.put,seen,hsz.2]at h9
    case enter f args =>
     refine Calls.mono hu fun e w'' he=>?_
     cases e with
     | returned v=>exact⟨v,rfl,he.2.2.1,by rw[←hput];exact he.2.2.2⟩
     | panicked c=>exact absurd he.1 (by simp)
     | outgrown=>exact (not_letsOut (R:=R i) he).elim
    case row s args=>exact Rows.mono hu fun v w'' he=>⟨v,rfl,he.2.2.1,by rw[←hput];exact he.2.2.2⟩
    all_goals exact hu.elim
 · exact (not_letsOut (R:=R i) hu.2).elim
theorem any_region_rg {K:World->World->Prop} (hK:Cls K) {l:List Oper} {Q:Exit->Act->World->Prop} {a0:Act} {w0:World} (n:Nat) (R:Nat->Value->World->Prop)
 (hB:(okRG l.toArray a0.tmps.size&&looksB l.toArray n&&(decide (l.length<=n)||(Region.sinkB .any l.toArray n&&Region.chainB .any l.toArray n))&&decide (n<=l.length)&&Region.seqB .any l.toArray (l.length-n) n ((List.range l.length).map fun i=>decide (i<n)).toArray)=true)
 (hst:∀i v w w',R i v w->K w w'->R i v w') (hsteps:UsersRG K P l.toArray R w0 a0 0 (l.take n))
 (hfin:∀vs w',K w0 w'->(∀i,i<n->R i (vs i) w')->wpList P l.toArray Q (l.drop n) (putAll vs 0 (l.take n) a0) w'):wpAny P .any l.toArray Q l.toArray.size (Array.replicate l.toArray.size false) a0 { w0 with drawn:=w0.drawn+1 }:=by
 simp only[Bool.and_eq_true,decide_eq_true_eq]at hB;obtain ⟨⟨⟨⟨hok,hlk⟩,hsc⟩,hn⟩,hseq⟩:=hB
 have hsc':l.toArray.size<=n∨(Region.sinkB .any l.toArray n=true/\Region.chainB .any l.toArray n=true):=by
  rw[Bool.or_eq_true,Bool.and_eq_true,decide_eq_true_eq]at hsc;simpa using hsc
 have hn':n<=l.toArray.size:=by simpa using hn
 have hb0:K w0 { w0 with drawn:=w0.drawn+1 }:=hK.drawn w0 _
 have inv0:HeadInv .any l.toArray n (Array.replicate l.toArray.size false) :=
  ⟨by simp,fun j oj _ hl=>(by rw[getD_replicate_false]at hl;cases hl),fun t _ ht=>getD_in (by simpa using ht) (getD_replicate_false _ _)⟩
 have H:=any_rg hK (P:=P) (ops:=l.toArray) (R:=R) (w0:=w0) (a0:=a0) (Q:=Q) (n:=n) (g:=l.length-n) hok hsc' hn' hst (fun i o hi ho=>step_of_user hok hlk hi hn' ho (by
  have:=UsersRG.get (l.take n) 0 i o hsteps (by rw[List.getElem?_take,if_pos hi];simpa using ho)
  rwa [Nat.zero_add]at this)) (fun listed a w inv hall hb hsame hR=>by
  have hlst:listed=((List.range l.length).map fun i=>decide (i<n)).toArray:=by
   apply Array.ext
   · simp[inv.size]
   · intro i h1 h2;have hi:i<l.length:=by simpa using h2
     simp only[List.getElem_toArray,List.getElem_map,List.getElem_range]
     rcases Nat.lt_or_ge i n with h|h
     · have:=hall i h;simp [Array.getD_eq_getD_getElem?,h1]at this
       simp[h,this]
     · have:=inv.tail i h (by simpa using hi);simp [Array.getD_eq_getD_getElem?,h1]at this
       simp[this];omega
  have hfr:a=putAll (slotV l.toArray a) 0 (l.take n) a0:=by
   have hsz:=putAll_size (slotV l.toArray a) (l.take n) 0 a0
   have key:a.tmps=(putAll (slotV l.toArray a) 0 (l.take n) a0).tmps:=by
    apply Array.ext
    · rw[hsz.1,hsame.2.1]
    · intro t h1 h2;have e1:a.tmps[t]=a.tmps.getD t undef:=by simp[Array.getD_eq_getD_getElem?,h1]
      have e2:(putAll (slotV l.toArray a) 0 (l.take n) a0).tmps[t]=(putAll (slotV l.toArray a) 0 (l.take n) a0).tmps.getD t undef:=by simp[Array.getD_eq_getD_getElem?,h2]
      rw[e1,e2];by_cases hw:∃(j:Nat) (oj:Oper),j<n/\l.toArray[j]? = some oj/\oj.dst=some t
      · obtain⟨j,oj,hjn,hj,hd⟩:=hw;have hsp:=okRG_spec hok hj;rw [putAll_eq (slotV l.toArray a) t (l.take n) 0 j oj a0 (by rw[List.getElem?_take,if_pos hjn];simpa using hj) hd (fun k o' hjk hk hd'=>hsp.2.2 k o' t t (by omega) (by simpa using (take_get' hk).2) hd' hd rfl) (hsp.2.1 t hd)];have hj':l[j]? = some oj:=by simpa using hj
        simp[slotV,hj',hd]
      · have hno:∀(j:Nat) (oj:Oper),j<n->l.toArray[j]? = some oj->oj.dst≠some t:=fun j oj hjn hj hd=>hw ⟨j,oj,hjn,hj,hd⟩
        rw[hsame.2.2 t hno];refine (putAll_ne _ _ _ _ _ fun o ho=>?_).symm;obtain ⟨j,hj⟩:=List.mem_iff_getElem?.1 ho;exact hno j o (take_get' hj).1 (by simpa using (take_get' hj).2)
   have kd:a.defers=(putAll (slotV l.toArray a) 0 (l.take n) a0).defers:=by rw[hsz.2,hsame.1]
   exact act_ext key kd
  have h2:=hfin (slotV l.toArray a) w hb hR;rw [←hfr]at h2;have h3:=wpAny_of_seq (P:=P) (ops:=l.toArray) (md:=.any) (Q':=Q) (l.drop n) n listed a w (fun j=>by simp[List.getElem?_drop]) (by rw[hlst];simpa using hseq) h2
  simpa using h3) n (Array.replicate l.toArray.size false) a0 { w0 with drawn:=w0.drawn+1 } inv0 (by
   have:(List.range n).countP (fun i=> !(Array.replicate l.toArray.size false).getD i true)=(List.range n).length:=List.countP_eq_length.2 fun i hi=>by
    have:=List.mem_range.1 hi;simp [Array.getD_eq_getD_getElem?,show i<l.length by omega]
   simpa using this) hb0 ⟨rfl,rfl,fun _ _=>rfl⟩ (fun i _ h=>by rw[getD_replicate_false]at h;cases h)
 rw[show n+(l.length-n)=l.toArray.size by simp;omega]at H;exact H
end
def Stab (K:World->World->Prop) (p:Value->World->Prop):Prop:=∀v w w',p v w->K w w'->p v w'
def Eqv (u:Value):Value->World->Prop:=fun v _=>v=u
def Anyv:Value->World->Prop:=fun _ _=>True
theorem stab_eqv {K:World->World->Prop} (u:Value):Stab K (Eqv u):=fun _ _ _ h _=>h
theorem stab_any {K:World->World->Prop}:Stab K Anyv:=fun _ _ _ _ _=>trivial
def rel (ps:List (Value->World->Prop)) (i:Nat) (v:Value) (w:World):Prop:=(ps.getD i Anyv) v w
def AllS (K:World->World->Prop):List (Value->World->Prop)->Prop
 | []=>True
 | p :: l=>Stab K p/\AllS K l
def AllR (vs:Nat->Value) (w:World):Nat->List (Value->World->Prop)->Prop
 | _,[]=>True
 | k,p :: l=>p (vs k) w/\AllR vs w (k+1) l
theorem AllS.get {K:World->World->Prop}:∀(ps:List (Value->World->Prop)) (i:Nat),AllS K ps->Stab K (ps.getD i Anyv)
 | [],i,_=>by simpa using stab_any
 | p :: l,0,h=>by simpa using h.1
 | p :: l,i+1,h=>by simpa using AllS.get l i h.2
theorem AllR_of {vs:Nat->Value} {w:World}:∀(ps:List (Value->World->Prop)) (k:Nat),(∀i,i<ps.length->(ps.getD i Anyv) (vs (k+i)) w)->AllR vs w k ps
 | [],_,_=>trivial
 | p :: l,k,h=>⟨by simpa using h 0 (by simp),AllR_of l (k+1) fun i hi=>by
  have:=h (i+1) (by simp;omega)
  rw[show k+1+i=k+(i+1) by omega];simpa using this⟩
def depB (o:Oper) (j:Nat):Bool:=o.after.toList.any fun e=>Region.binds .any e&&e.on==j
def putD (vs:Nat->Value):Nat->List (Option Tmp)->Act->Act
 | _,[],a=>a
 | k,d :: rest,a=>putD vs (k+1) rest (a.put d (vs k))
theorem putAll_D (vs:Nat->Value):∀(l:List Oper) (k:Nat) (a:Act),putAll vs k l a=putD vs k (l.map (·.dst)) a
 | [],_,_=>rfl
 | o :: l,k,a=>putAll_D vs l (k+1) _
def Users (K:World->World->Prop) (P:Program) (ps:List (Value->World->Prop)) (w0:World) (a0:Act):List (Option Tmp)->List Oper->List (Value->World->Prop)->Prop
 | pre,o :: l,q :: qs=>(∀(vs:Nat->Value) (w:World),K w0 w->(∀j,depB o j=true->rel ps j (vs j) w) ->
  wpList P #[] (fun e a' w'=>e=.normal/\a'.defers=a0.defers/\K w w'/\q (dstV o a') w') [o] (putD vs 0 pre a0) w)/\Users K P ps w0 a0 (pre++[o.dst]) l qs
 | _,_,_=>True
theorem wpList_ops {P:Program} {ops ops':Array Oper} {Q:Exit->Act->World->Prop} {o:Oper} {a:Act} {w:World} (hg:o.guard=none) (h:wpList P ops Q [o] a w):wpList P ops' Q [o] a w:=by
 have hw:∀y,Region.wanted o y=true:=fun y=>by simp[Region.wanted,hg]
 simp only[wpList,hw,if_true]at h ⊢;exact h
theorem AllE_get {R:Nat->Value->World->Prop} {vs:Nat->Value} {w:World}:∀(l:List Edge),AllE R vs w l->∀e∈l,Region.binds .any e=true->R e.on (vs e.on) w
 | [],_,e,he,_=>by cases he
 | x :: l,h,e,he,hb=>by
  rcases List.mem_cons.1 he with rfl|he
  · exact h.1 hb
  · exact AllE_get l h.2 e he hb
theorem Users.rg {K:World->World->Prop} {P:Program} {ps:List (Value->World->Prop)} {w0:World} {a0:Act} {L:List Oper} {n:Nat} (hlk:looksB L.toArray n=true) (hnp:n<=ps.length):∀(l:List Oper) (k:Nat),(∀j,l[j]? = (L.take n)[k+j]?)->Users K P ps w0 a0 ((L.take k).map (·.dst)) l (ps.drop k)->UsersRG K P L.toArray (rel ps) w0 a0 k l
 | [],_,_,_=>trivial
 | o :: l,k,hl,h=>by
  have h0:(L.take n)[k]? = some o:=by simpa using (hl 0).symm
  obtain⟨hkn,hLo⟩:=take_get' h0;have hkp:k<ps.length:=by omega
  rw[List.drop_eq_getElem_cons hkp]at h;refine ⟨fun vs w hb hE=>?_,Users.rg hlk hnp l (k+1) (fun j=>by have:=hl (j+1);simpa [Nat.add_assoc,Nat.add_comm 1 j] using this) ?_⟩
  · have h1:=List.all_eq_true.1 hlk k (List.mem_range.2 hkn);have hLo':L.toArray[k]? = some o:=by simpa using hLo
    simp only[hLo',Bool.and_eq_true]at h1
    have hu:=h.1 vs w hb fun j hj=>by
     obtain⟨e,he,hej⟩:=List.any_eq_true.1 hj;simp only[Bool.and_eq_true,beq_iff_eq]at hej;have:=AllE_get _ hE e he hej.1
     rwa [hej.2]at this
    have hfr:seen L.toArray vs k a0=putD vs 0 ((L.take k).map (·.dst)) a0:=putAll_D vs _ 0 a0;rw [hfr];refine wpList_ops (ops:=#[]) (by simpa using h1.1.1) ?_;have hq:ps[k]=ps.getD k Anyv:=by simp[List.getD_eq_getElem?_getD,hkp]
    rw[hq]at hu;exact hu
  · have h2:=h.2
    have e1:(L.take k).map (·.dst)++[o.dst]=(L.take (k+1)).map (·.dst):=by
     rw[List.take_add_one,hLo];simp
    rw[e1]at h2;exact h2
theorem any_region_rgl {K:World->World->Prop} (hK:Cls K) {P:Program} {l:List Oper} {Q:Exit->Act->World->Prop} {a0:Act} {w0:World} (ps:List (Value->World->Prop)) (n sz:Nat) (hnp:ps.length=n) (hsz:a0.tmps.size=sz)
 (hB:(okRG l.toArray sz&&looksB l.toArray n&&(decide (l.length<=n)||(Region.sinkB .any l.toArray n&&Region.chainB .any l.toArray n))&&decide (n<=l.length)&&Region.seqB .any l.toArray (l.length-n) n ((List.range l.length).map fun i=>decide (i<n)).toArray)=true)
 (hst:AllS K ps) (hsteps:Users K P ps w0 a0 [] (l.take n) ps)
 (hfin:∀vs w',K w0 w'->AllR vs w' 0 ps->wpList P l.toArray Q (l.drop n) (putD vs 0 ((l.take n).map (·.dst)) a0) w'):wpAny P .any l.toArray Q l.toArray.size (Array.replicate l.toArray.size false) a0 { w0 with drawn:=w0.drawn+1 }:=by
 subst hnp hsz;have hlk:looksB l.toArray ps.length=true:=by simp only[Bool.and_eq_true]at hB;exact hB.1.1.1.2
 refine any_region_rg hK ps.length (rel ps) hB (fun i v w w' h hb=>AllS.get ps i hst v w w' h hb) (Users.rg hlk (Nat.le_refl _) (l.take ps.length) 0 (fun j=>by simp) hsteps) fun vs w' hb hR=>by rw[putAll_D];exact hfin vs w' hb (AllR_of ps 0 fun i hi=>by rw[Nat.zero_add];exact hR i hi)
theorem wp_region_rgl {K:World->World->Prop} (hK:Cls K) {P:Program} {id:Nat} {l:List Oper} {Q:Exit->Act->World->Prop} {a0:Act} {w0:World} (ps:List (Value->World->Prop)) (n sz:Nat) (hm:P.follows .mixedOrders=true) (hnp:ps.length=n) (hsz:a0.tmps.size=sz)
 (hB:(okRG l.toArray sz&&looksB l.toArray n&&(decide (l.length<=n)||(Region.sinkB .any l.toArray n&&Region.chainB .any l.toArray n))&&decide (n<=l.length)&&Region.seqB .any l.toArray (l.length-n) n ((List.range l.length).map fun i=>decide (i<n)).toArray)=true)
 (hst:AllS K ps) (hsteps:Users K P ps w0 a0 [] (l.take n) ps)
 (hfin:∀vs w',K w0 w'->AllR vs w' 0 ps->wpList P l.toArray Q (l.drop n) (putD vs 0 ((l.take n).map (·.dst)) a0) w'):(Code.region id l.toArray true).wp P Q a0 w0 :=
 wp_region_any hm (any_region_rgl hK ps n sz hnp hsz hB hst hsteps hfin)
end Go.Proofs.YtelljijajgiabaaGreatDoor.RK
namespace Go.Proofs.YtelljijajgiabaaGreatDoor
open Go.RowKit Go.Shelf
structure Wk (w0 W:World) (g:Nat) (bad:Bool):Prop where
 hb:Below w0.heap.size w0 W
 ge:w0.heap.size<=g
 bx:Bx W g 108 #[.bool bad]
section
variable {w0 W W':World} {g:Nat} {bad:Bool}
theorem Wk.call (h:Wk w0 W g bad) (hb:Below W.heap.size W W'):Wk w0 W' g bad:=⟨bCall h.hb hb,h.ge,h.bx.call hb⟩
theorem Wk.cell (h:Wk w0 W g bad):W.cell? ⟨g,0,none⟩=some (.bool bad):=h.bx.cell 0 rfl
theorem Wk.frozen (h:Wk w0 W g bad):W.frozen? ⟨g,0,none⟩=false:=h.bx.frozen 0
theorem Wk.set (h:Wk w0 W g bad) (b:Bool):Wk w0 (W.setCell ⟨g,0,none⟩ (.bool b)) g b:=⟨bSet h.hb h.ge _,h.ge,by simpa using h.bx.set 0 (.bool b)⟩
theorem Wk.far (h:Wk w0 W g bad) {p:Addr} (hp:g≠p.block) (hp2:w0.heap.size<=p.block) (u:Value):Wk w0 (W.setCell p u) g bad:=⟨bSet h.hb hp2 _,h.ge,h.bx.far hp u⟩
end
structure Ks (g:Nat) (W W':World):Prop where
 size:W.heap.size<=W'.heap.size
 same:∀k,k<W.heap.size->k≠g->W'.heap[k]? = W.heap[k]?
theorem Ks.of {g:Nat} {W W':World} (h:Below W.heap.size W W'):Ks g W W':=⟨h.size,fun k hk _=>h.block k hk⟩
theorem Ks.set {g:Nat} {W W':World} (h:Ks g W W') (hg:g<W'.heap.size) (u:Value):Ks g W (W'.setCell ⟨g,0,none⟩ u) :=
 ⟨Nat.le_trans h.size (by simp[World.setCell]),fun k hk hne=>(Below.heap_setCell W' ⟨g,0,none⟩ u k hne).trans (h.same k hk hne)⟩
theorem Ks.trans {g:Nat} {W W' W'':World} (h:Ks g W W') (h':Ks g W' W''):Ks g W W'' :=
 ⟨Nat.le_trans h.size h'.size,fun k hk hne=>(h'.same k (Nat.lt_of_lt_of_le hk h.size) hne).trans (h.same k hk hne)⟩
theorem Bx.ks {g k:Nat} {W W':World} {t:TypeId} {cs:Array Value} (h:Bx W k t cs) (hk:Ks g W W') (hne:k≠g):Bx W' k t cs:=(hk.same k h.lt hne).trans h
theorem doMul_bad (a b:List UInt8) (w0 W:World) (g:Nat) (h:Wk w0 W g true) :
 Calls Tryz.prog 110 #[.pointer (some ⟨g,0,none⟩),.func (.func 111) #[] #[],.string ⟨a.toArray⟩,.string ⟨b.toArray⟩] W fun e w'=>e=.returned (.string ⟨#[]⟩)/\w'=W:=by
 have hc:=h.cell
 go_enter Tryz.func110,Tryz.ntmps110
 go_wp2;go_ret;exact ⟨rfl,rfl⟩
theorem doMul_good (a b s:List UInt8) (e:Int) (w0 W:World) (g:Nat) (h:Wk w0 W g false)
 (hop:∀W',Below w0.heap.size w0 W'->Calls Tryz.prog 111 #[.string ⟨a.toArray⟩,.string ⟨b.toArray⟩] W' fun e' w'=>e'=.returned (.tuple #[.string ⟨s.toArray⟩,.int .i64 e])/\Below W'.heap.size W' w') :
 Calls Tryz.prog 110 #[.pointer (some ⟨g,0,none⟩),.func (.func 111) #[] #[],.string ⟨a.toArray⟩,.string ⟨b.toArray⟩] W fun e' w'=>e'=.returned (.string ⟨s.toArray⟩)/\Wk w0 w' g (e != 0)/\Ks g W w':=by
 have hc:=h.cell;have hO:=hop W h.hb;clear hop
 go_enter Tryz.func110,Tryz.ntmps110
 go_wp2_with fail;refine hO.mono ?_;rintro _ w1 ⟨rfl,hb1⟩;have h1:=h.call hb1;have hc1:=h1.cell;have hf1:=h1.frozen;have h2:=h1.set (e != 0);have hk:=(Ks.of (g:=g) hb1).set h1.bx.lt (.bool (e != 0));clear hO hc h hb1;go_wp2;go_ret;exact ⟨rfl,h2,hk⟩
theorem doSub_good (a b s:List UInt8) (e:Int) (w0 W:World) (g:Nat) (h:Wk w0 W g false)
 (hop:∀W',Below w0.heap.size w0 W'->Calls Tryz.prog 112 #[.string ⟨a.toArray⟩,.string ⟨b.toArray⟩] W' fun e' w'=>e'=.returned (.tuple #[.string ⟨s.toArray⟩,.int .i64 e])/\Below W'.heap.size W' w') :
 Calls Tryz.prog 110 #[.pointer (some ⟨g,0,none⟩),.func (.func 112) #[] #[],.string ⟨a.toArray⟩,.string ⟨b.toArray⟩] W fun e' w'=>e'=.returned (.string ⟨s.toArray⟩)/\Wk w0 w' g (e != 0)/\Ks g W w':=by
 have hc:=h.cell;have hO:=hop W h.hb;clear hop
 go_enter Tryz.func110,Tryz.ntmps110
 go_wp2_with fail;refine hO.mono ?_;rintro _ w1 ⟨rfl,hb1⟩;have h1:=h.call hb1;have hc1:=h1.cell;have hf1:=h1.frozen;have h2:=h1.set (e != 0);have hk:=(Ks.of (g:=g) hb1).set h1.bx.lt (.bool (e != 0));clear hO hc h hb1;go_wp2;go_ret;exact ⟨rfl,h2,hk⟩
theorem doGcd_good (a b s:List UInt8) (e:Int) (w0 W:World) (g:Nat) (h:Wk w0 W g false)
 (hop:∀W',Below w0.heap.size w0 W'->Calls Tryz.prog 96 #[.string ⟨a.toArray⟩,.string ⟨b.toArray⟩] W' fun e' w'=>e'=.returned (.tuple #[.string ⟨s.toArray⟩,.int .i64 e])/\Below W'.heap.size W' w') :
 Calls Tryz.prog 110 #[.pointer (some ⟨g,0,none⟩),.func (.func 96) #[] #[],.string ⟨a.toArray⟩,.string ⟨b.toArray⟩] W fun e' w'=>e'=.returned (.string ⟨s.toArray⟩)/\Wk w0 w' g (e != 0)/\Ks g W w':=by
 have hc:=h.cell;have hO:=hop W h.hb;clear hop
 go_enter Tryz.func110,Tryz.ntmps110
 go_wp2_with fail;refine hO.mono ?_;rintro _ w1 ⟨rfl,hb1⟩;have h1:=h.call hb1;have hc1:=h1.cell;have hf1:=h1.frozen;have h2:=h1.set (e != 0);have hk:=(Ks.of (g:=g) hb1).set h1.bx.lt (.bool (e != 0));clear hO hc h hb1;go_wp2;go_ret;exact ⟨rfl,h2,hk⟩
theorem doAdd_bad (a b:List UInt8) (w0 W:World) (g:Nat) (h:Wk w0 W g true) :
 Calls Tryz.prog 110 #[.pointer (some ⟨g,0,none⟩),.func (.func 131) #[] #[],.string ⟨a.toArray⟩,.string ⟨b.toArray⟩] W fun e w'=>e=.returned (.string ⟨#[]⟩)/\w'=W:=by
 have hc:=h.cell
 go_enter Tryz.func110,Tryz.ntmps110
 go_wp2;go_ret;exact ⟨rfl,rfl⟩
theorem doAdd_good (a b s:List UInt8) (e:Int) (w0 W:World) (g:Nat) (h:Wk w0 W g false)
 (hop:∀W',Below w0.heap.size w0 W'->Calls Tryz.prog 131 #[.string ⟨a.toArray⟩,.string ⟨b.toArray⟩] W' fun e' w'=>e'=.returned (.tuple #[.string ⟨s.toArray⟩,.int .i64 e])/\Below W'.heap.size W' w') :
 Calls Tryz.prog 110 #[.pointer (some ⟨g,0,none⟩),.func (.func 131) #[] #[],.string ⟨a.toArray⟩,.string ⟨b.toArray⟩] W fun e' w'=>e'=.returned (.string ⟨s.toArray⟩)/\Wk w0 w' g (e != 0)/\Ks g W w':=by
 have hc:=h.cell;have hO:=hop W h.hb;clear hop
 go_enter Tryz.func110,Tryz.ntmps110
 go_wp2_with fail;refine hO.mono ?_;rintro _ w1 ⟨rfl,hb1⟩;have h1:=h.call hb1;have hc1:=h1.cell;have hf1:=h1.frozen;have h2:=h1.set (e != 0);have hk:=(Ks.of (g:=g) hb1).set h1.bx.lt (.bool (e != 0));clear hO hc h hb1;go_wp2;go_ret;exact ⟨rfl,h2,hk⟩
theorem doQuo_good (a b s:List UInt8) (e:Int) (w0 W:World) (g:Nat) (h:Wk w0 W g false)
 (hop:∀W',Below w0.heap.size w0 W'->Calls Tryz.prog 159 #[.string ⟨a.toArray⟩,.string ⟨b.toArray⟩] W' fun e' w'=>e'=.returned (.tuple #[.string ⟨s.toArray⟩,.int .i64 e])/\Below W'.heap.size W' w') :
 Calls Tryz.prog 110 #[.pointer (some ⟨g,0,none⟩),.func (.func 159) #[] #[],.string ⟨a.toArray⟩,.string ⟨b.toArray⟩] W fun e' w'=>e'=.returned (.string ⟨s.toArray⟩)/\Wk w0 w' g (e != 0)/\Ks g W w':=by
 have hc:=h.cell;have hO:=hop W h.hb;clear hop
 go_enter Tryz.func110,Tryz.ntmps110
 go_wp2_with fail;refine hO.mono ?_;rintro _ w1 ⟨rfl,hb1⟩;have h1:=h.call hb1;have hc1:=h1.cell;have hf1:=h1.frozen;have h2:=h1.set (e != 0);have hk:=(Ks.of (g:=g) hb1).set h1.bx.lt (.bool (e != 0));clear hO hc h hb1;go_wp2;go_ret;exact ⟨rfl,h2,hk⟩
theorem mul_bad (a b:List UInt8) (w0 W:World) (g:Nat) (h:Wk w0 W g true) :
 Calls Tryz.prog 70 #[.pointer (some ⟨g,0,none⟩),.string ⟨a.toArray⟩,.string ⟨b.toArray⟩] W fun e w'=>e=.returned (.string ⟨#[]⟩)/\w'=W:=by
 have hD:=doMul_bad a b w0 W g h;clear h
 go_enter Tryz.func70,Tryz.ntmps70
 go_wp2_with fail;refine hD.mono ?_;rintro _ w1 ⟨rfl,rfl⟩;clear hD;go_wp2;go_ret;exact ⟨rfl,rfl⟩
theorem neg_div0 {a b:Nat} (hb:0<b) (h:a % b=0):(-(a:Int)) / (b:Int)= -((a / b:Nat):Int)/\(-(a:Int)) % (b:Int)=0:=by
 refine (Int.ediv_emod_unique (by omega)).2 ⟨?_,Int.le_refl _,by omega⟩;have h1:=Nat.div_add_mod a b;rw [h]at h1;rw [Int.mul_neg,Int.zero_add,←Int.natCast_mul];omega
theorem neg_div1 {a b:Nat} (hb:0<b) (h:a % b≠0):(-(a:Int)) / (b:Int)= -((a / b+1:Nat):Int)/\(-(a:Int)) % (b:Int)=((b-a % b:Nat):Int):=by
 have h2:=Nat.mod_lt a hb;refine (Int.ediv_emod_unique (by omega)).2 ⟨?_,by omega,by omega⟩;have h1:=Nat.div_add_mod a b;rw [Int.mul_neg,←Int.natCast_mul,Nat.mul_add,Nat.mul_one];omega
theorem abs_cases (x:Int):(x=(x.natAbs:Int)/\decide (x<0)=false)∨(x= -(x.natAbs:Int)/\decide (x<0)=true):=by
 by_cases h:x<0
 · exact .inr ⟨by omega,by simpa using h⟩
 · exact .inl ⟨by omega,by simpa using h⟩
theorem div_keep {x y:Int} (hy:y≠0) (h:decide (x<0)=false∨x.natAbs % y.natAbs=0):sgn (decide (x<0) != decide (y<0)) (x.natAbs / y.natAbs)=x / y/\((x.natAbs % y.natAbs:Nat):Int)=x % y:=by
 have hb:0<y.natAbs:=by omega
 have hx:=abs_cases x;have hy:=abs_cases y;generalize x.natAbs=a at *;generalize y.natAbs=b at *;generalize decide (x<0)=n at *;generalize decide (y<0)=m at *
 rcases hx with ⟨rfl,rfl⟩|⟨rfl,rfl⟩ <;> rcases hy with ⟨rfl,rfl⟩|⟨rfl,rfl⟩
 · simp[sgn]
 · simp[sgn,Int.ediv_neg]
 · have hr:a % b=0:=by simpa using h
   have:=neg_div0 hb hr;simp [sgn,this.1,this.2,hr]
 · have hr:a % b=0:=by simpa using h
   have:=neg_div0 hb hr;simp [sgn,Int.ediv_neg,this.1,this.2,hr]
theorem div_turn {x y:Int} (hy:y≠0) (h:decide (x<0)=true) (h':x.natAbs % y.natAbs≠0):sgn (decide (x<0) != decide (y<0)) (x.natAbs / y.natAbs+1)=x / y/\((y.natAbs-x.natAbs % y.natAbs:Nat):Int)=x % y:=by
 have hb:0<y.natAbs:=by omega
 have hx:=abs_cases x;have hy:=abs_cases y;generalize x.natAbs=a at *;generalize y.natAbs=b at *;generalize decide (x<0)=n at *;generalize decide (y<0)=m at *;subst h;have hx:x= -(a:Int):=by simpa using hx
 subst hx;have h3:=neg_div1 hb h'
 rcases hy with ⟨rfl,rfl⟩|⟨rfl,rfl⟩
 · rw[h3.1,h3.2];simp[sgn]
 · rw[Int.ediv_neg,Int.emod_neg,h3.1,h3.2];simp[sgn]
theorem fits_div {x:Int} (y:Int) (h:Ig.fits x):Ig.fits (x / y):=Nat.lt_of_le_of_lt (Int.natAbs_ediv_le_natAbs x y) h
theorem fits_mod (x:Int) {y:Int} (hy:y≠0) (h:Ig.fits y):Ig.fits (x % y):=by
 have h1:=Int.emod_nonneg x hy;have h2:=Int.emod_lt x hy
 unfold Ig.fits at *
 omega
theorem Div_any (x y:Int) (w:World) (hx:Ig.fits x) (hy:Ig.fits y) (hy0:y≠0) (hE:Env w) :
 Calls Tryz.prog 66 #[.string ⟨(Lib.itoa x).toArray⟩,.string ⟨(Lib.itoa y).toArray⟩] w fun e w'=>e=.returned (.tuple #[.string ⟨(Lib.itoa (x / y)).toArray⟩,.string ⟨(Lib.itoa (x % y)).toArray⟩,.int .i64 0])/\Below w.heap.size w w':=by
 have hB:=both_any x y w hx hy;have lx:=Ig.fits_len hx;have ly:=Ig.fits_len hy;have fq:=fits_div y hx;have fr:=fits_mod x hy0 hy;have hay:0<y.natAbs:=by omega
 have k1:decide (x<0)=false∨x.natAbs % y.natAbs=0->Kp (Ig.resS (sgn (decide (x<0) != decide (y<0)) (x.natAbs / y.natAbs))=Lib.itoa (x / y)/\Ig.resE (sgn (decide (x<0) != decide (y<0)) (x.natAbs / y.natAbs))=0/\Ig.resS (sgn false (x.natAbs % y.natAbs))=Lib.itoa (x % y)/\Ig.resE (sgn false (x.natAbs % y.natAbs))=0):=fun h=>⟨by
  have h1:=div_keep hy0 h;rw [h1.1,show sgn false (x.natAbs % y.natAbs)=x % y from h1.2]
  exact⟨Ig.resS_fits fq,Ig.resE_fits fq,Ig.resS_fits fr,Ig.resE_fits fr⟩⟩
 have k2:decide (x<0)=true->x.natAbs % y.natAbs≠0->Kp (Ig.resS (sgn (decide (x<0) != decide (y<0)) (x.natAbs / y.natAbs+1))=Lib.itoa (x / y)/\Ig.resE (sgn (decide (x<0) != decide (y<0)) (x.natAbs / y.natAbs+1))=0/\Ig.resS (sgn false (y.natAbs-x.natAbs % y.natAbs))=Lib.itoa (x % y)/\Ig.resE (sgn false (y.natAbs-x.natAbs % y.natAbs))=0):=fun h h'=>⟨by
  have h1:=div_turn hy0 h h';rw [h1.1,show sgn false (y.natAbs-x.natAbs % y.natAbs)=x % y from h1.2]
  exact⟨Ig.resS_fits fq,Ig.resE_fits fq,Ig.resS_fits fr,Ig.resE_fits fr⟩⟩
 clear fq fr;generalize Lib.itoa (x / y)=SQ at *;generalize Lib.itoa (x % y)=SR at *;generalize decide (x<0)=nx at *;generalize decide (y<0)=ny at *;generalize x.natAbs=ax at *;generalize y.natAbs=ay at *;generalize Lib.itoa x=sx at *;generalize Lib.itoa y=sy at *;clear hx hy hy0;have lq:(Ig.grp (ax / ay)).length<=50:=Ig.grp_len_of lx (Nat.div_le_self _ _);have lq1:(Ig.grp (ax / ay+1)).length<=50+1:=Ig.grp_add_len lq (by rw[grp_one];decide);have lr:(Ig.grp (ax % ay)).length<=50:=Ig.grp_len_of lx (Nat.mod_le _ _);have lr1:(Ig.grp (ay-ax % ay)).length<=50:=Ig.grp_len_of ly (Nat.sub_le _ _);have hrle:ax % ay<=ay:=Nat.le_of_lt (Nat.mod_lt _ hay);have hly:(Ig.grp ay).length≠0:=fun e=>by have:=Ig.grp_eq_nil.1 e;omega
 go_enter Tryz.func66,Tryz.ntmps66
 go_wp2_with fail;refine hB.mono ?_;rintro _ w1 ⟨u,v,rfl,hu,hv,hb1⟩;obtain ⟨A1,c1,rfl,-⟩:=id hu.out;obtain ⟨A2,c2,rfl,-⟩:=id hv.out;clear hB;have hb2:=bNew (bNewW w1 (.cells #[.bool nx,.slice A1 (Ig.grp ax).length c1] 129)) (.cells #[.bool ny,.slice A2 (Ig.grp ay).length c2] 129);have B1:=(Bx.mk w1 129 #[.bool nx,.slice A1 (Ig.grp ax).length c1]).new (.cells #[.bool ny,.slice A2 (Ig.grp ay).length c2] 129);have B2:=Bx.mk (w1.alloc (.cells #[.bool nx,.slice A1 (Ig.grp ax).length c1] 129)) 129 #[.bool ny,.slice A2 (Ig.grp ay).length c2];rw [alloc_size]at B2;have t0:decide (((Ig.grp ay).length:Int)=0)=false:=decide_eq_false (by omega);have t1:(((Ig.grp ay).length:Int)==0)=false:=beq_eq_false_iff_ne.2 (by omega);go_wp2_with fail;clear t0 t1;replace hu:=hu.call hb2;replace hv:=hv.call hb2;replace hb1:=bCall hb1 hb2;have hO:=over_any ax ay _ _ _ hu hv hay (by omega) (by omega);generalize hg:((w1.alloc (.cells #[.bool nx,.slice A1 (Ig.grp ax).length c1] 129)).alloc (.cells #[.bool ny,.slice A2 (Ig.grp ay).length c2] 129))=W0 at *;clear hg hb2;refine hO.mono ?_;rintro _ W1 ⟨q,r,rfl,hq,hr,hb3⟩;clear hO;obtain ⟨A3,c3,rfl,-⟩:=id hq.out;obtain ⟨A4,c4,rfl,-⟩:=id hr.out;replace B1:=B1.call hb3;replace B2:=B2.call hb3;replace hv:=hv.call hb3;replace hb1:=bCall hb1 hb3;have hE1:=hE.below hb1;have p0:=B1.cell 0 rfl;have p2:=B2.cell 0 rfl;clear hb3 hu hE;cases nx
 · have hk:=k1 (.inl rfl);clear k1 k2;cases ny
   · go_wp2_with fail;have hT1:=text_any false (ax / ay) _ W1 hq (by omega) hE1;have hk1:Ig.resS (sgn false (ax / ay))=SQ:=hk.out.1;have hk2:Ig.resE (sgn false (ax / ay))=0:=hk.out.2.1;rw [hk1,hk2]at hT1;refine hT1.mono ?_;rintro _ w6 ⟨rfl,hb6⟩;have hr6:=hr.call hb6;have hE6:=hE1.below hb6;have hb7:=bCall hb1 hb6;have hT2:=text_any false (ax % ay) _ w6 hr6 (by first|omega|(rw [hn4.out];omega)) hE6;rw [hk.out.2.2.1,hk.out.2.2.2]at hT2;clear hT1 hk hk1 hk2;go_wp2_with fail;refine hT2.mono ?_;rintro _ w7 ⟨rfl,hb8⟩;clear hT2;go_wp2
     go_ret3
     exact⟨rfl,bCall hb7 hb8⟩
   · go_wp2_with fail;have hT1:=text_any true (ax / ay) _ W1 hq (by omega) hE1;have hk1:Ig.resS (sgn true (ax / ay))=SQ:=hk.out.1;have hk2:Ig.resE (sgn true (ax / ay))=0:=hk.out.2.1;rw [hk1,hk2]at hT1;refine hT1.mono ?_;rintro _ w6 ⟨rfl,hb6⟩;have hr6:=hr.call hb6;have hE6:=hE1.below hb6;have hb7:=bCall hb1 hb6;have hT2:=text_any false (ax % ay) _ w6 hr6 (by first|omega|(rw [hn4.out];omega)) hE6;rw [hk.out.2.2.1,hk.out.2.2.2]at hT2;clear hT1 hk hk1 hk2;go_wp2_with fail;refine hT2.mono ?_;rintro _ w7 ⟨rfl,hb8⟩;clear hT2;go_wp2
     go_ret3
     exact⟨rfl,bCall hb7 hb8⟩
 · by_cases hr0:ax % ay=0
   · have hk:=k1 (.inr hr0);have hl0:((Ig.grp (ax % ay)).length:Int)=0:=by rw[hr0,Ig.grp_zero];rfl
     have t0:decide (0<(Ig.grp (ax % ay)).length)=false:=decide_eq_false (by omega);clear k1 k2 hl0 hr0;generalize hn4:(Ig.grp (ax % ay)).length=n4 at *;replace hn4:=Kp.mk hn4;cases ny
     · go_wp2_with fail;have hT1:=text_any true (ax / ay) _ W1 hq (by omega) hE1;have hk1:Ig.resS (sgn true (ax / ay))=SQ:=hk.out.1;have hk2:Ig.resE (sgn true (ax / ay))=0:=hk.out.2.1;rw [hk1,hk2]at hT1;refine hT1.mono ?_;rintro _ w6 ⟨rfl,hb6⟩;have hr6:=hr.call hb6;have hE6:=hE1.below hb6;have hb7:=bCall hb1 hb6;have hT2:=text_any false (ax % ay) _ w6 hr6 (by first|omega|(rw [hn4.out];omega)) hE6;rw [hk.out.2.2.1,hk.out.2.2.2]at hT2;clear hT1 hk hk1 hk2;go_wp2_with fail;refine hT2.mono ?_;rintro _ w7 ⟨rfl,hb8⟩;clear hT2;go_wp2
       go_ret3
       exact⟨rfl,bCall hb7 hb8⟩
     · go_wp2_with fail;have hT1:=text_any false (ax / ay) _ W1 hq (by omega) hE1;have hk1:Ig.resS (sgn false (ax / ay))=SQ:=hk.out.1;have hk2:Ig.resE (sgn false (ax / ay))=0:=hk.out.2.1;rw [hk1,hk2]at hT1;refine hT1.mono ?_;rintro _ w6 ⟨rfl,hb6⟩;have hr6:=hr.call hb6;have hE6:=hE1.below hb6;have hb7:=bCall hb1 hb6;have hT2:=text_any false (ax % ay) _ w6 hr6 (by first|omega|(rw [hn4.out];omega)) hE6;rw [hk.out.2.2.1,hk.out.2.2.2]at hT2;clear hT1 hk hk1 hk2;go_wp2_with fail;refine hT2.mono ?_;rintro _ w7 ⟨rfl,hb8⟩;clear hT2;go_wp2
       go_ret3
       exact⟨rfl,bCall hb7 hb8⟩
   · have hk:=k2 rfl hr0;have hl0:(Ig.grp (ax % ay)).length≠0:=fun e=>hr0 (Ig.grp_eq_nil.1 e)
     have t0:decide (0<(Ig.grp (ax % ay)).length)=true:=decide_eq_true (by omega);clear k1 k2 hl0 hr0;generalize hn4:(Ig.grp (ax % ay)).length=n4 at *;replace hn4:=Kp.mk hn4;go_wp2_with fail;clear t0;have hly':=Kp.mk ly;have hlq':=Kp.mk lq;have p1:=fun w2 (hb2:Below W1.heap.size W1 w2)=>(hb2.cell (p:=⟨w1.heap.size+1,1,none⟩) B2.lt).trans (B2.cell 1 rfl)
     refine wp_region_rgl [Eqv (.slice A3 (Ig.grp (ax / ay)).length c3),(fun v W=>NumAt W 1 v),(fun v W=>NumAt W (ax / ay+1) v),Eqv (.pointer (some ⟨w1.heap.size+1,1,none⟩)),Eqv (.slice A2 (Ig.grp ay).length c2),Eqv (.slice A4 n4 c4),(fun v W=>NumAt W (ay-ax % ay) v)] 7 75 (by kernel_rfl) rfl rfl (by kernel_rfl) ?_ ?_ ?_
     · simp only[AllS];exact ⟨stab_eqv _,fun v w w' h hb=>h.call hb,fun v w w' h hb=>h.call hb,stab_eqv _,stab_eqv _,stab_eqv _,fun v w w' h hb=>h.call hb,trivial⟩
     · simp only[Users,List.take,List.length];refine ⟨?_,?_,?_,?_,?_,?_,?_,trivial⟩;all_goals (intro vs w2 hb2 hd;have c5:=p1 w2 hb2;have hq2:=hq.call hb2;have hr2:=hr.call hb2;have hv2:=hv.call hb2;clear p1;simp only[putD,Act.put,List.nil_append,List.cons_append,List.setIfInBounds_toArray,List.set_cons_succ,List.set_cons_zero,Nat.reduceAdd])
       · clear hd;go_wp2;exact⟨Below.refl _ _,rfl⟩
       · clear hd;have hC:=one_any w2;go_wp2_with fail;refine hC.mono ?_;clear hC;rintro _ w9 ⟨v9,rfl,hn9,hb9⟩;go_wp2;exact hn9
       · have e:=hd 0 rfl;change vs 0=_ at e;have e':NumAt w2 1 (vs 1):=hd 1 rfl;clear hd;rw[e];have hC:=plus_any (ax / ay) 1 _ (vs 1) w2 hq2 e' (by omega) (by rw[grp_one];decide);go_wp2_with fail;refine hC.mono ?_;clear hC;rintro _ w9 ⟨v9,rfl,hn9,hb9⟩;go_wp2;exact hn9
       · clear hd;go_wp2;exact⟨Below.refl _ _,rfl⟩
       · have e:=hd 3 rfl;change vs 3=_ at e;clear hd;rw[e];go_wp2;exact⟨Below.refl _ _,rfl⟩
       · clear hd;go_wp2;exact⟨Below.refl _ _,rfl⟩
       · have e:=hd 4 rfl;change vs 4=_ at e;have e':=hd 5 rfl;change vs 5=_ at e';clear hd;rw[e,e'];have hC:=minus_any ay (ax % ay) _ _ w2 hv2 hr2 hrle (by omega);go_wp2_with fail;refine hC.mono ?_;clear hC;rintro _ w9 ⟨v9,rfl,hn9,hb9⟩;go_wp2;exact hn9
     · clear p1;intro vs wa hba hR;simp only[AllR,Eqv]at hR;obtain ⟨-,-,e2,-,-,-,e6,-⟩:=hR;simp only[List.drop,List.take,List.map,putD,Act.put,List.setIfInBounds_toArray,List.set_cons_succ,List.set_cons_zero,Nat.reduceAdd];generalize vs 2=z2 at *;generalize vs 6=z6 at *;generalize vs 0=z0,vs 1=z1,vs 3=z3,vs 4=z4,vs 5=z5;obtain ⟨A7,c7,rfl,-⟩:=id e2.out;obtain ⟨A8,c8,rfl,-⟩:=id e6.out;replace B1:=B1.call hba;replace B2:=B2.call hba;have p0:=B1.cell 0 rfl;have p2:=B2.cell 0 rfl;replace hb1:=bCall hb1 hba;replace hE1:=hE1.below hba;clear hba;cases ny
       · go_wp2_with fail;have hT1:=text_any true (ax / ay+1) _ wa e2 (by omega) hE1;have hk1:Ig.resS (sgn true (ax / ay+1))=SQ:=hk.out.1;have hk2:Ig.resE (sgn true (ax / ay+1))=0:=hk.out.2.1;rw [hk1,hk2]at hT1;refine hT1.mono ?_;rintro _ w6 ⟨rfl,hb6⟩;have hr6:=e6.call hb6;have hE6:=hE1.below hb6;have hb7:=bCall hb1 hb6;have hT2:=text_any false (ay-ax % ay) _ w6 hr6 (by first|omega|(rw [hn4.out];omega)) hE6;rw [hk.out.2.2.1,hk.out.2.2.2]at hT2;clear hT1 hk hk1 hk2;go_wp2_with fail;refine hT2.mono ?_;rintro _ w7 ⟨rfl,hb8⟩;clear hT2;go_wp2
         go_ret3
         exact⟨rfl,bCall hb7 hb8⟩
       · go_wp2_with fail;have hT1:=text_any false (ax / ay+1) _ wa e2 (by omega) hE1;have hk1:Ig.resS (sgn false (ax / ay+1))=SQ:=hk.out.1;have hk2:Ig.resE (sgn false (ax / ay+1))=0:=hk.out.2.1;rw [hk1,hk2]at hT1;refine hT1.mono ?_;rintro _ w6 ⟨rfl,hb6⟩;have hr6:=e6.call hb6;have hE6:=hE1.below hb6;have hb7:=bCall hb1 hb6;have hT2:=text_any false (ay-ax % ay) _ w6 hr6 (by first|omega|(rw [hn4.out];omega)) hE6;rw [hk.out.2.2.1,hk.out.2.2.2]at hT2;clear hT1 hk hk1 hk2;go_wp2_with fail;refine hT2.mono ?_;rintro _ w7 ⟨rfl,hb8⟩;clear hT2;go_wp2
         go_ret3
         exact⟨rfl,bCall hb7 hb8⟩
theorem FromInt_any (n:Int) (w:World) (h0: -9223372036854775808<=n) (h1:n<=9223372036854775807) (hE:Env w) :
 Calls Tryz.prog 64 #[.int .i64 n] w fun e w'=>e=.returned (.string ⟨(Lib.itoa n).toArray⟩)/\Below w.heap.size w w':=by
 have hC:=Itoa_any n w h0 h1 hE
 go_enter Tryz.func64,Tryz.ntmps64
 go_wp2_with fail;refine hC.mono ?_;rintro _ w1 ⟨rfl,hb⟩;clear hC;go_wp2;go_ret;exact ⟨rfl,hb⟩
end Go.Proofs.YtelljijajgiabaaGreatDoor
namespace Rq
theorem red_fits {n d:Int} (hd:d≠0) (hn:Ig.fits n) (hf:Ig.fits d):Fq (Rat.divInt n d):=by
 have key:∀ {n d:Int},0<d->Ig.fits n->Ig.fits d->Fq (Rat.divInt n d):=fun {n d} h hn hf=>by
  have h1:=make_pos (n:=n) h;refine ⟨?_,?_⟩
  · rw[h1.1];exact Go.Proofs.YtelljijajgiabaaGreatDoor.fits_div _ hn
  · rw[h1.2];exact Go.Proofs.YtelljijajgiabaaGreatDoor.fits_div _ hf
 have hneg:∀ {z:Int},Ig.fits z->Ig.fits (0-z):=fun h=>by unfold Ig.fits at *;omega
 by_cases h:0<d
 · exact key h hn hf
 · rw[make_neg];exact key (by omega) (hneg hn) (hneg hf)
end Rq
namespace Go.Proofs.YtelljijajgiabaaGreatDoor
open Go.RowKit Go.Shelf
def QZ:Value:=.agg #[.string ⟨#[]⟩,.string ⟨#[]⟩]
theorem quo_good (x y:Int) (w0 W:World) (g:Nat) (hx:Ig.fits x) (hy:Ig.fits y) (hy0:y≠0) (hE:Env w0) (h:Wk w0 W g false) :
 Calls Tryz.prog 113 #[.pointer (some ⟨g,0,none⟩),.string ⟨(Lib.itoa x).toArray⟩,.string ⟨(Lib.itoa y).toArray⟩] W fun e w'=>e=.returned (.string ⟨(Lib.itoa (x / y)).toArray⟩)/\Wk w0 w' g false/\Ks g W w':=by
 have hop:∀W',Below w0.heap.size w0 W'->Calls Tryz.prog 159 #[.string ⟨(Lib.itoa x).toArray⟩,.string ⟨(Lib.itoa y).toArray⟩] W' fun e' w'=>e'=.returned (.tuple #[.string ⟨(Lib.itoa (x / y)).toArray⟩,.int .i64 0])/\Below W'.heap.size W' w':=by
  intro W' hb;have hD:=Div_any x y W' hx hy hy0 (hE.below hb);clear h hx hy;generalize Lib.itoa (x / y)=q at *;generalize Lib.itoa (x % y)=r at *;generalize Lib.itoa x=sx at *;generalize Lib.itoa y=sy at *;clear hb hE hy0
  go_enter Tryz.func159,Tryz.ntmps159
  go_wp2_with fail;refine hD.mono ?_;rintro _ w1 ⟨rfl,hb1⟩;clear hD;go_wp2
  go_ret2
  exact⟨rfl,hb1⟩
 have hD:=doQuo_good _ _ _ 0 w0 W g h hop;clear hop h hx hy hy0;generalize Lib.itoa (x / y)=q at *;generalize Lib.itoa x=sx at *;generalize Lib.itoa y=sy at *
 go_enter Tryz.func113,Tryz.ntmps113
 go_wp2_with fail;refine hD.mono ?_;rintro _ w1 ⟨rfl,hw,hk⟩;clear hD;go_wp2;go_ret;exact ⟨rfl,hw,hk⟩
theorem mul_res (x y:Int) (w0 W:World) (g:Nat) (hx:Ig.fits x) (hy:Ig.fits y) (hE:Env w0) (h:Wk w0 W g false) :
 Calls Tryz.prog 70 #[.pointer (some ⟨g,0,none⟩),.string ⟨(Lib.itoa x).toArray⟩,.string ⟨(Lib.itoa y).toArray⟩] W fun e w'=>e=.returned (.string ⟨(Ig.resS (x*y)).toArray⟩)/\Wk w0 w' g (Ig.resE (x*y) != 0)/\Ks g W w':=by
 have hD:=doMul_good _ _ _ _ w0 W g h (fun W' hb=>Mul_any x y W' hx hy (hE.below hb));clear h hx hy;generalize Ig.resS (x*y)=p at *;generalize Ig.resE (x*y)=e at *;generalize Lib.itoa x=sx at *;generalize Lib.itoa y=sy at *
 go_enter Tryz.func70,Tryz.ntmps70
 go_wp2_with fail;refine hD.mono ?_;rintro _ w1 ⟨rfl,hw,hk⟩;clear hD;go_wp2;go_ret;exact ⟨rfl,hw,hk⟩
theorem mul_good (x y:Int) (w0 W:World) (g:Nat) (hx:Ig.fits x) (hy:Ig.fits y) (hxy:Ig.fits (x*y)) (hE:Env w0) (h:Wk w0 W g false) :
 Calls Tryz.prog 70 #[.pointer (some ⟨g,0,none⟩),.string ⟨(Lib.itoa x).toArray⟩,.string ⟨(Lib.itoa y).toArray⟩] W fun e w'=>e=.returned (.string ⟨(Lib.itoa (x*y)).toArray⟩)/\Wk w0 w' g false/\Ks g W w':=by
 have h1:=mul_res x y w0 W g hx hy hE h;rw [Ig.resS_fits hxy,Ig.resE_fits hxy]at h1;exact h1
theorem mul_over (x y:Int) (w0 W:World) (g:Nat) (hx:Ig.fits x) (hy:Ig.fits y) (hxy:¬Ig.fits (x*y)) (hE:Env w0) (h:Wk w0 W g false) :
 Calls Tryz.prog 70 #[.pointer (some ⟨g,0,none⟩),.string ⟨(Lib.itoa x).toArray⟩,.string ⟨(Lib.itoa y).toArray⟩] W fun e w'=>e=.returned (.string ⟨#[]⟩)/\Wk w0 w' g true/\Ks g W w':=by
 have h1:=mul_res x y w0 W g hx hy hE h;rw [Ig.resS_not hxy,Ig.resE_not hxy]at h1;exact h1
theorem results_Q {fn:Func} {t u:Tmp} {g:Nat} {n d:ByteArray} {e:Value} (h:fn.results=#[.cell t 51,.tmp u]) (tmps:Array Value) (w:World) (ht:tmps.getD t undef=.pointer (some ⟨g,0,none⟩)) (hu:tmps.getD u undef=e) (hB:Bx w g 51 #[.string n,.string d]) :
 (results fn tmps).run Tryz.prog w=.ok (.tuple #[.agg #[.string n,.string d],e]) w:=by
 have h0:=hB.cell 0 rfl;have h1:=hB.cell 1 rfl;have ht':tmps[t]?.getD undef=.pointer (some ⟨g,0,none⟩):=by simpa using ht
 have hu':tmps[u]?.getD undef=e:=by simpa using hu
 simp only[results,h];simp [go_sem,ht',hu',h0,h1,loadVar]
structure Rs (w0 W:World) (g gr:Nat) (bad:Bool) (n d:ByteArray):Prop where
 wk:Wk w0 W g bad
 ne:g≠gr
 ge:w0.heap.size<=gr
 bx:Bx W gr 51 #[.string n,.string d]
section
variable {w0 W W':World} {g gr:Nat} {bad:Bool} {n d:ByteArray}
theorem Rs.mk' (h:Wk w0 W g bad):Rs w0 (W.alloc (.cells #[.string n,.string d] 51)) g W.heap.size bad n d :=
 ⟨h.call (bNewW W _),Nat.ne_of_lt h.bx.lt,h.hb.size,Bx.mk _ _ _⟩
theorem Rs.step (h:Rs w0 W g gr bad n d) {b:Bool} (hw:Wk w0 W' g b) (hk:Ks g W W'):Rs w0 W' g gr b n d:=⟨hw,h.ne,h.ge,h.bx.ks hk (fun e=>h.ne e.symm)⟩
theorem Rs.call (h:Rs w0 W g gr bad n d) (hb:Below W.heap.size W W'):Rs w0 W' g gr bad n d:=⟨h.wk.call hb,h.ne,h.ge,h.bx.call hb⟩
theorem Rs.set (h:Rs w0 W g gr bad n d) (n' d':ByteArray):Rs w0 ((W.setCell ⟨gr,0,none⟩ (.string n')).setCell ⟨gr,1,none⟩ (.string d')) g gr bad n' d':=by
 refine⟨(h.wk.far (p:=⟨gr,0,none⟩) h.ne h.ge _).far (p:=⟨gr,1,none⟩) h.ne h.ge _,h.ne,h.ge,?_⟩;have:=(h.bx.set 0 (.string n')).set 1 (.string d');simpa using this
end
theorem reduced_bad (n d:List UInt8) (w0 W:World) (g:Nat) (h:Wk w0 W g true) :
 Calls Tryz.prog 71 #[.pointer (some ⟨g,0,none⟩),.string ⟨n.toArray⟩,.string ⟨d.toArray⟩] W fun e w'=>e=.returned (.tuple #[QZ,.int .i64 40])/\Below w0.heap.size w0 w':=by
 unfold QZ
 have h0:=Rs.mk' (n:=⟨#[]⟩) (d:=⟨#[]⟩) h;have hc:=h0.wk.cell;have f0:=h0.bx.frozen 0;have f1:=h0.bx.frozen 1;clear h
 go_enter Tryz.func71,Tryz.ntmps71
 go_wp2;refine bodyPost_ret (results_Q rfl _ _ rfl rfl h0.bx) rfl ⟨rfl,h0.wk.hb⟩
theorem fits_gcd_ne {n d:Int} (hd:d≠0):((Nat.gcd n.natAbs d.natAbs:Nat):Int)≠0:=by
 intro h;have:=Nat.eq_zero_of_gcd_eq_zero_right (show Nat.gcd n.natAbs d.natAbs=0 by omega);omega
theorem reduced_pos (n d:Int) (w0 W:World) (g:Nat) (hn:Ig.fits n) (hf:Ig.fits d) (hd:0<d) (hE:Env w0) (h:Wk w0 W g false) :
 Calls Tryz.prog 71 #[.pointer (some ⟨g,0,none⟩),.string ⟨(Lib.itoa n).toArray⟩,.string ⟨(Lib.itoa d).toArray⟩] W fun e w'=>e=.returned (.tuple #[QV (Rat.divInt n d),.int .i64 0])/\Below w0.heap.size w0 w':=by
 unfold QV
 have e:=Rq.make_pos (n:=n) hd;rw [e.1,e.2];have h0:=Rs.mk' (n:=⟨#[]⟩) (d:=⟨#[]⟩) h;have hc:=h0.wk.cell;have hne:(Lib.itoa d==[48])=false:=by rw[itoa_is0];exact decide_eq_false (by omega)
 have hC:=fun w1=>Compare_any d 0 w1 hf fits_0
 rw[itoa_0]at hC;have hlt:decide (cmpZ d 0<0)=false:=decide_eq_false (by unfold cmpZ;rw[if_neg (by omega),if_pos (by omega)];decide);have hG:=fun w1 hw=>doGcd_good _ _ _ 0 w0 w1 g hw (fun W' hb=>Gcd_any n d W' hn hf (hE.below hb))
 have hg:=fits_gcd hn hf;have hg0:=fits_gcd_ne (n:=n) (d:=d) (by omega);have hQ1:=fun w1 hw=>quo_good n _ w0 w1 g hn hg hg0 hE hw
 have hQ2:=fun w1 hw=>quo_good d _ w0 w1 g hf hg hg0 hE hw
 generalize cmpZ d 0=cc at *;generalize ((Nat.gcd n.natAbs d.natAbs:Nat):Int)=gg at *;generalize Lib.itoa (n / gg)=sn at *;generalize Lib.itoa (d / gg)=sd at *;generalize Lib.itoa gg=sg at *;generalize Lib.itoa n=sn0 at *;generalize Lib.itoa d=sd0 at *;clear e hn hf hd hg hg0 h
 go_enter Tryz.func71,Tryz.ntmps71
 go_wp2_with fail;refine (hC _).mono ?_;rintro _ w1 ⟨rfl,hb1⟩;have h1:=h0.call hb1;clear hC h0 hc hb1;go_wp2_with fail;refine (hG _ h1.wk).mono ?_;rintro _ w2 ⟨rfl,hw2,hk2⟩;have h2:=h1.step hw2 hk2;clear hG h1 hw2 hk2;go_wp2_with fail;refine (hQ1 _ h2.wk).mono ?_;rintro _ w3 ⟨rfl,hw3,hk3⟩;have h3:=h2.step hw3 hk3;clear hQ1 h2 hw3 hk3;go_wp2_with fail;refine (hQ2 _ h3.wk).mono ?_;rintro _ w4 ⟨rfl,hw4,hk4⟩;have h4:=h3.step hw4 hk4;clear hQ2 h3 hw4 hk4;have h5:=h4.call (bNewW w4 (.cells #[.string ⟨sn.toArray⟩,.string ⟨sd.toArray⟩] 51));have B5:=Bx.mk w4 51 #[.string ⟨sn.toArray⟩,.string ⟨sd.toArray⟩];have c0:=B5.cell 0 rfl;have c1:=B5.cell 1 rfl;have hc5:=h5.wk.cell;have r0:=h5.bx.cell 0 rfl;have r1:=h5.bx.cell 1 rfl;have f0:=h5.bx.frozen 0;have f1:=h5.bx.frozen 1;have h6:=h5.set ⟨sn.toArray⟩ ⟨sd.toArray⟩;clear h4;go_wp2;refine bodyPost_ret (results_Q rfl _ _ rfl rfl h6.bx) rfl ⟨rfl,h6.wk.hb⟩
theorem reduced_neg (n d:Int) (w0 W:World) (g:Nat) (hn:Ig.fits n) (hf:Ig.fits d) (hd:d<0) (hE:Env w0) (h:Wk w0 W g false) :
 Calls Tryz.prog 71 #[.pointer (some ⟨g,0,none⟩),.string ⟨(Lib.itoa n).toArray⟩,.string ⟨(Lib.itoa d).toArray⟩] W fun e w'=>e=.returned (.tuple #[QV (Rat.divInt n d),.int .i64 0])/\Below w0.heap.size w0 w':=by
 unfold QV
 have hneg:∀ {z:Int},Ig.fits z->Ig.fits (0-z):=fun h=>by unfold Ig.fits at *;omega
 have hS1:=fun w1 hw=>doSub_good _ _ _ _ w0 w1 g hw (fun W' hb=>Sub_any 0 n W' fits_0 hn (hE.below hb))
 have hS2:=fun w1 hw=>doSub_good _ _ _ _ w0 w1 g hw (fun W' hb=>Sub_any 0 d W' fits_0 hf (hE.below hb))
 rw[Ig.resS_fits (hneg hn),Ig.resE_fits (hneg hn),itoa_0]at hS1;rw [Ig.resS_fits (hneg hf),Ig.resE_fits (hneg hf),itoa_0]at hS2;have hlt:decide (cmpZ d 0<0)=true:=decide_eq_true (by unfold cmpZ;rw[if_pos (by omega)];decide);have hne:(Lib.itoa d==[48])=false:=by rw[itoa_is0];exact decide_eq_false (by omega)
 have hC:=fun w1=>Compare_any d 0 w1 hf fits_0
 rw[itoa_0]at hC;generalize cmpZ d 0=cc at *;rw [Rq.make_neg];replace hn:=hneg hn;replace hf:=hneg hf;clear hneg;generalize Lib.itoa n=so at *;generalize Lib.itoa d=sp at *;obtain ⟨n,rfl⟩:∃n',n=0-n':=⟨0-n,by omega⟩
 obtain⟨d,rfl⟩:∃d',d=0-d':=⟨0-d,by omega⟩
 rw[show 0-(0-n)=n by omega]at *;rw [show 0-(0-d)=d by omega]at *;replace hd:0<d:=by omega
 have e:=Rq.make_pos (n:=n) hd;rw [e.1,e.2];have h0:=Rs.mk' (n:=⟨#[]⟩) (d:=⟨#[]⟩) h;have hc:=h0.wk.cell;have hG:=fun w1 hw=>doGcd_good _ _ _ 0 w0 w1 g hw (fun W' hb=>Gcd_any n d W' hn hf (hE.below hb))
 have hg:=fits_gcd hn hf;have hg0:=fits_gcd_ne (n:=n) (d:=d) (by omega);have hQ1:=fun w1 hw=>quo_good n _ w0 w1 g hn hg hg0 hE hw
 have hQ2:=fun w1 hw=>quo_good d _ w0 w1 g hf hg hg0 hE hw
 generalize ((Nat.gcd n.natAbs d.natAbs:Nat):Int)=gg at *;generalize Lib.itoa (n / gg)=sn at *;generalize Lib.itoa (d / gg)=sd at *;generalize Lib.itoa gg=sg at *;generalize Lib.itoa n=sn0 at *;generalize Lib.itoa d=sd0 at *;clear e hn hf hd hg hg0 h
 go_enter Tryz.func71,Tryz.ntmps71
 go_wp2_with fail;refine (hC _).mono ?_;rintro _ w1 ⟨rfl,hb1⟩;have h1:=h0.call hb1;clear hC h0 hc hb1;go_wp2_with fail;refine (hS1 _ h1.wk).mono ?_;rintro _ wa ⟨rfl,hwa,hka⟩;replace h1:=h1.step hwa hka;clear hS1 hwa hka;go_wp2_with fail;refine (hS2 _ h1.wk).mono ?_;rintro _ wb ⟨rfl,hwb,hkb⟩;replace h1:=h1.step hwb hkb;clear hS2 hwb hkb;go_wp2_with fail;refine (hG _ h1.wk).mono ?_;rintro _ w2 ⟨rfl,hw2,hk2⟩;have h2:=h1.step hw2 hk2;clear hG h1 hw2 hk2;go_wp2_with fail;refine (hQ1 _ h2.wk).mono ?_;rintro _ w3 ⟨rfl,hw3,hk3⟩;have h3:=h2.step hw3 hk3;clear hQ1 h2 hw3 hk3;go_wp2_with fail;refine (hQ2 _ h3.wk).mono ?_;rintro _ w4 ⟨rfl,hw4,hk4⟩;have h4:=h3.step hw4 hk4;clear hQ2 h3 hw4 hk4;have h5:=h4.call (bNewW w4 (.cells #[.string ⟨sn.toArray⟩,.string ⟨sd.toArray⟩] 51));have B5:=Bx.mk w4 51 #[.string ⟨sn.toArray⟩,.string ⟨sd.toArray⟩];have c0:=B5.cell 0 rfl;have c1:=B5.cell 1 rfl;have hc5:=h5.wk.cell;have r0:=h5.bx.cell 0 rfl;have r1:=h5.bx.cell 1 rfl;have f0:=h5.bx.frozen 0;have f1:=h5.bx.frozen 1;have h6:=h5.set ⟨sn.toArray⟩ ⟨sd.toArray⟩;clear h4;go_wp2;refine bodyPost_ret (results_Q rfl _ _ rfl rfl h6.bx) rfl ⟨rfl,h6.wk.hb⟩
theorem reduced_good (n d:Int) (w0 W:World) (g:Nat) (hn:Ig.fits n) (hf:Ig.fits d) (hd:d≠0) (hE:Env w0) (h:Wk w0 W g false) :
 Calls Tryz.prog 71 #[.pointer (some ⟨g,0,none⟩),.string ⟨(Lib.itoa n).toArray⟩,.string ⟨(Lib.itoa d).toArray⟩] W fun e w'=>e=.returned (.tuple #[QV (Rat.divInt n d),.int .i64 0])/\Below w0.heap.size w0 w':=by
 by_cases h0:0<d
 · exact reduced_pos n d w0 W g hn hf h0 hE h
 · exact reduced_neg n d w0 W g hn hf (by omega) hE h
noncomputable def badQ (l:List (List UInt8 × List UInt8)):Bool:=l.any fun p=> !Rq.okB p.1 p.2
theorem badQ_step {l:List (List UInt8 × List UInt8)} {i:Nat} (h:i<l.length):badQ (l.take (i+1))=(badQ (l.take i)|| !Rq.okB l[i].1 l[i].2):=by
 unfold badQ
 rw[List.take_succ_eq_append_getElem h,List.any_append];simp
theorem check_any (l:List (List UInt8 × List UInt8)) (cap gl:Nat) (cs:Array Value) (w0 W:World) (g:Nat) (bad:Bool) (hE:Env w0) (h:Wk w0 W g bad) (hne:g≠gl) (hB:Bx W gl 51 cs)
 (hcs:∀i (hi:i<l.length),cs[i*2]? = some (.string ⟨l[i].1.toArray⟩)/\cs[i*2+1]? = some (.string ⟨l[i].2.toArray⟩)/\l[i].1.length<=1000000/\l[i].2.length<=1000000) (hl:l.length<=1000) (hlc:l.length<=cap) :
 Calls Tryz.prog 69 #[.pointer (some ⟨g,0,none⟩),.slice (some ⟨gl,0,none⟩) l.length cap] W fun e w'=>(∃v,e=.returned v)/\Wk w0 w' g (bad||badQ l):=by
 go_enter Tryz.func69,Tryz.ntmps69
 go_wp2_with fail
 go_loopw [5,8] (fun s5 s8 wr=>∃(i:Nat) (b:Bool),i<=l.length/\s8=.int .i64 i/\Wk w0 wr g b/\Bx wr gl 51 cs/\Kp (b=(bad||badQ (l.take i)))) (fun s5 s8 wr=>l.length-(intOf s8).toNat)
 case atStart=>exact⟨0,bad,by omega,rfl,h,hB,⟨by simp[badQ]⟩⟩
 case round =>
  clear h hB;obtain ⟨i,b,hi,rfl,hW,hB,hb⟩:=hrel;by_cases hil:i<l.length
  · obtain⟨h0,h1,l0,l1⟩:=hcs i hil;have c0:wr.cell? ⟨gl,i*2,none⟩=some (.string ⟨l[i].1.toArray⟩):=hB.cell _ h0;have c1:wr.cell? ⟨gl,i*2+1,none⟩=some (.string ⟨l[i].2.toArray⟩):=hB.cell _ h1;have hst:=Kp.mk (badQ_step hil);have hnext:∀b',b'=(b|| !Rq.okB l[i].1 l[i].2)->Kp (b'=(bad||badQ (l.take (i+1)))):=fun b' h=>⟨by rw[h,hb.out,hst.out,Bool.or_assoc]⟩
    have hV:=fun w1 hE1=>QValid_any l[i].1 l[i].2 w1 l0 l1 hE1
    have t0:decide (i<l.length)=true:=decide_eq_true hil;clear hst hb h0 h1 hcs;generalize Rq.okB l[i].1 l[i].2=ok at *;generalize l[i].1=p at *;generalize l[i].2=q at *;have hWn:=hW.call (bNewW wr (.cells #[.string ⟨p.toArray⟩,.string ⟨q.toArray⟩] 51));have hBn:=hB.new (.cells #[.string ⟨p.toArray⟩,.string ⟨q.toArray⟩] 51);have Bx1:=Bx.mk wr 51 #[.string ⟨p.toArray⟩,.string ⟨q.toArray⟩];have x0:=Bx1.cell 0 rfl;have x1:=Bx1.cell 1 rfl;have hc:=hWn.cell;have hf:=hWn.frozen;cases b
    · have hVn:=hV _ (hE.below hWn.hb);clear hV hW hB;go_wp2_with fail;refine hVn.mono ?_;rintro _ w3 ⟨rfl,hb3⟩;have hW3:=hWn.call hb3;have hB3:=hBn.call hb3;clear hVn hWn hBn hc hf hb3;have hc:=hW3.cell;have hf:=hW3.frozen;have hW4:=hW3.set (!ok);have hB4:=hB3.far (p:=⟨g,0,none⟩) (fun e=>hne e.symm) (.bool (!ok));have hn:=hnext (!ok) (by simp);clear hW3 hB3 hnext;go_wp2;exact ⟨⟨i+1,!ok,by omega,by go_num,hW4,hB4,hn⟩,by simp[intOf];omega⟩
    · have hW4:=hWn.set true;have hB4:=hBn.far (p:=⟨g,0,none⟩) (fun e=>hne e.symm) (.bool true);have hn:=hnext true (by simp);clear hV hW hB hWn hBn hnext;go_wp2;exact ⟨⟨i+1,true,by omega,by go_num,hW4,hB4,hn⟩,by simp[intOf];omega⟩
  · obtain rfl:i=l.length:=by omega
    have t0:decide (l.length<l.length)=false:=decide_eq_false hil;have hb2:Kp (b=(bad||badQ l)):=⟨by rw[hb.out,List.take_length]⟩
    clear hb hcs;go_wp2;exact bodyPost_end (results_none rfl _ _ _) rfl ⟨⟨_,rfl⟩,hb2.out ▸ hW⟩
end Go.Proofs.YtelljijajgiabaaGreatDoor

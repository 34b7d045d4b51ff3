import Derived.RangeFuncNested
import Derived.RangeFuncBound
import Derived.RangeFuncCalls
import Derived.RangeFuncLeaves
import Derived.RangeFuncBox
import Derived.OrdersIn
import Derived.OwnWalkIn
import Derived.Test.YtohgjenaclfegaaGreatDoorQK01
import Derived.BigFrame
set_option linter.unusedVariables false
set_option linter.unusedSimpArgs false
set_option maxRecDepth 100000
set_option maxHeartbeats 8000000
namespace Go.Proofs.YtohgjenaclfegaaGreatDoor
open Go.RowKit
section
variable {P:Program} {ops:Array Oper}
theorem Gv {o:Oper} {a:Act} {w:World} {K:Act->World->Prop} {Q:Exit->Act->World->Prop} {l m:Nat} (hnd:∀c,o.op≠.defer c) (h:o.wp P a w K Q):o.wpIn (Fence.wide.inRound l) m P a w K Q:=by
 refine⟨fun _ _=>trivial,?_⟩;rw [Oper.semAt_plain _ _ _ hnd]
 unfold Oper.wp at h
 generalize (execOp a.eval o).run P w=r at h ⊢
 cases r with
 | ok x w' =>
  cases x <;> simp only[Oper.upon,Oper.uponIn]at h ⊢
  case enter f args=>exact⟨(fun h=>by cases h),(callsIn_wide.2 h).inRound l⟩
  case row=>exact⟨(fun h=>by cases h),fun c cs _=>by
   obtain⟨v,w'',h1,h2⟩:=h c cs
   exact⟨v,w'',h1,stepsIn_wide.2 h2⟩⟩
  all_goals first|exact h|exact h.elim
 | halt x w'=>cases x <;> simp only[Oper.upon,Oper.uponIn]at h ⊢ <;> first|exact h|exact h.elim
def oZ (ops:Array Oper):Bool:=ops.all fun o=>match o.op with|.defer _=>false|_=>true
theorem yw (h:oZ ops=true) {i:Nat} {o:Oper} (ho:ops[i]? = some o):∀c,o.op≠.defer c:=by
 intro c hc
 unfold oZ at h
 rw[Array.all_eq_true']at h;have:=h o (Array.mem_of_getElem? ho);rw [hc]at this;cases this
theorem FU {Q:Exit->Act->World->Prop} {i l m:Nat} {K:Act->World->Prop} {a:Act} {w:World} (hd:oZ ops=true) (hq:¬LetsOut Q) (h:wpOp P ops Q i K a w):wpOpIn (Fence.wide.inRound l) m P ops Q i K a w:=by
 unfold wpOp at h
 unfold wpOpIn
 cases ho:ops[i]? with
 | none=>rw[ho]at h;exact h
 | some o =>
  rw[ho]at h;simp only at h ⊢
  split at h
  · rw[if_pos (by assumption)]
    rcases h with h|⟨_,h⟩
    · exact Gv (yw hd ho) h
    · exact absurd h hq
  · rw[if_neg (by assumption)];exact ⟨fun _ _=>trivial,h⟩
theorem sG {Q:Exit->Act->World->Prop} {md:Region.Mode} {l m:Nat} (hd:oZ ops=true) (hq:¬LetsOut Q):∀(f:Nat) (listed:Array Bool) (a:Act) (w:World),wpAny P md ops Q f listed a w->wpAnyIn (Fence.wide.inRound l) m P md ops Q f listed a w
 | 0,_,_,_,h=>h
 | f+1,listed,a,w,h=>⟨h.1,fun i hi=>wpOpIn_mono (fun a w h=>sG hd hq f _ a w h) (FU hd hq (h.2 i hi))⟩
theorem zM {o:Oper} {a:Act} {w:World} {K K':Act->World->Prop} {Q Q':Exit->Act->World->Prop} {l m:Nat} (hnd:∀c,o.op≠.defer c) (hq:∀e a w,Q e a w->Q' e a w) (hlo:¬LetsOut Q) (hK:∀a w,K a w->K' a w) (h:o.wp P a w K Q):o.wpIn (Fence.wide.inRound l) m P a w K' Q':=by
 refine⟨fun _ _=>trivial,?_⟩;rw [Oper.semAt_plain _ _ _ hnd]
 unfold Oper.wp at h
 generalize (execOp a.eval o).run P w=r at h ⊢
 cases r with
 | ok x w' =>
  cases x <;> simp only[Oper.upon,Oper.uponIn]at h ⊢
  case enter f args=>exact⟨(fun h=>by cases h),((callsIn_wide.2 h).inRound l).mono (fun e w'' he=>by cases e <;> first|exact hK _ _ he|exact hq _ _ _ he|exact absurd he hlo)⟩
  case row=>exact⟨(fun h=>by cases h),fun c cs _=>by
   obtain⟨v,w'',h1,h2⟩:=h c cs
   exact⟨v,w'',hK _ _ h1,stepsIn_wide.2 h2⟩⟩
  all_goals first|exact hK _ _ h|exact h.elim
 | halt x w'=>cases x <;> simp only[Oper.upon,Oper.uponIn]at h ⊢ <;> first|exact hq _ _ _ h|exact h.elim
def zQ (l:List Oper):Bool:=l.all fun o=>match o.op with|.defer _=>false|_=>true
theorem fQ {Q:Exit->Act->World->Prop} {k m:Nat}:∀(l:List Oper) (a:Act) (w:World),zQ l=true->wpList P ops (fun e a' w'=>e=.normal/\Q .normal a' w') l a w->wpListIn (Fence.wide.inRound k) m P ops Q l a w
 | [],a,w,_,h=>h.2
 | o :: l,a,w,hd,h=>by
  simp only[zQ,List.all_cons,Bool.and_eq_true]at hd
  have hnd:∀c,o.op≠.defer c:=by
   intro c hc;rw [hc]at hd;cases hd.1
  have hlo:¬LetsOut (fun e a' w'=>e=.normal/\Q .normal a' w'):=by rintro ⟨_,_,h,_⟩;cases h
  simp only[wpList,wpListIn]at h ⊢
  split at h
  · rw[if_pos (by assumption)]
    rcases h with h|⟨_,h⟩
    · exact zM hnd (fun e a w ⟨he,h⟩=>he ▸ h) hlo (fun a w h=>fQ l a w hd.2 h) h
    · exact absurd h hlo
  · rw[if_neg (by assumption)];exact ⟨fun _ _=>trivial,fQ l _ w hd.2 h⟩
theorem fG {id l m:Nat} {os:List Oper} {Q:Exit->Act->World->Prop} {a0:Act} {w0:World} (ps:List (Value->World->Prop)) (n sz:Nat) (hm:P.follows .mixedOrders=true) (hd:oZ os.toArray=true) (hnp:ps.length=n) (hsz:a0.tmps.size=sz)
 (hB:(iI os.toArray sz&&eF os.toArray n&&(decide (os.length<=n)||(Region.sinkB .any os.toArray n&&Region.chainB .any os.toArray n))&&decide (n<=os.length)&&Region.seqB .any os.toArray (os.length-n) n ((List.range os.length).map fun i=>decide (i<n)).toArray)=true)
 (hst:aY ps) (hsteps:Users P ps w0 a0 [] (os.take n) ps)
 (hfin:∀vs w',Below w0.heap.size w0 w'->bV vs w' 0 ps->wpList P os.toArray (fun e a'' w''=>e=.normal/\Q .normal a'' w'') (os.drop n) (aN vs 0 ((os.take n).map (·.dst)) a0) w'):(Code.region id os.toArray true).wpIn (Fence.wide.inRound l) m P Q a0 w0 :=
 wpIn_mono (wpIn_region_any hm (sG hd (by rintro ⟨_,_,h,_⟩;cases h) _ _ _ _ (bM ps n sz hnp hsz hB hst hsteps hfin))) (fun e a w ⟨he,h⟩=>he ▸ h)
end
def Zo (D:Nat):Deferred:={ target:=.collected D,args:=#[] }
def Marks (lo hi:Nat) (ds:List Deferred) (W:World):Prop:=∃Ds:List Nat,ds=Ds.map Zo/\Ds.Nodup/\∀D∈Ds,lo<=D/\D<hi/\W.heap[D]? = some (.deferred (some []))
theorem Marks.nil (lo hi:Nat) (W:World):Marks lo hi [] W:=⟨[],rfl,List.nodup_nil,fun D h=>by cases h⟩
theorem Marks.more {lo hi hi':Nat} {ds:List Deferred} {W:World} (h:Marks lo hi ds W) (hh:hi<=hi'):Marks lo hi' ds W:=by
 obtain⟨Ds,h1,h2,h3⟩:=h;exact ⟨Ds,h1,h2,fun D hD=>⟨(h3 D hD).1,by have:=(h3 D hD).2.1;omega,(h3 D hD).2.2⟩⟩
theorem Marks.below {lo hi:Nat} {ds:List Deferred} {W W':World} (h:Marks lo hi ds W) (hb:Below hi W W'):Marks lo hi ds W':=by
 obtain⟨Ds,h1,h2,h3⟩:=h;exact ⟨Ds,h1,h2,fun D hD=>⟨(h3 D hD).1,(h3 D hD).2.1,(hb.block D (h3 D hD).2.1).trans (h3 D hD).2.2⟩⟩
theorem Marks.set {lo hi:Nat} {ds:List Deferred} {W:World} (h:Marks lo hi ds W) {g:Nat} {t:TypeId} {cs:Array Value} (hB:Bx W g t cs) (i:Nat) (u:Value):Marks lo hi ds (W.setCell ⟨g,i,none⟩ u):=by
 obtain⟨Ds,h1,h2,h3⟩:=h;refine ⟨Ds,h1,h2,fun D hD=>⟨(h3 D hD).1,(h3 D hD).2.1,?_⟩⟩
 have hne:D≠g:=fun e=>by
  have h4:=(h3 D hD).2.2;rw [e,show W.heap[g]? = _ from hB]at h4;cases h4
 exact (Below.heap_setCell W ⟨g,i,none⟩ u D hne).trans (h3 D hD).2.2
theorem Marks.push {lo hi D:Nat} {ds:List Deferred} {W:World} (h:Marks lo hi ds W) (hD:hi<=D) (hlo:lo<=hi) (hd:W.heap[D]? = some (.deferred (some []))):Marks lo W.heap.size (Zo D :: ds) W:=by
 obtain⟨Ds,h1,h2,h3⟩:=h;have hlt:=(Array.getElem?_eq_some_iff.1 hd).1;refine ⟨D :: Ds,by rw[h1];rfl,List.nodup_cons.2 ⟨fun hm=>by have:=(h3 D hm).2.1;omega,h2⟩,fun E hE=>?_⟩
 rcases List.mem_cons.1 hE with rfl|hE
 · exact⟨by omega,hlt,hd⟩
 · exact⟨(h3 E hE).1,by have:=(h3 E hE).2.1;omega,(h3 E hE).2.2⟩
theorem zX {P:Program} {F:Fence} {n lo:Nat} {fn:Func} {tmps:Array Value} {R:Ending->World->Prop}:∀(Ds:List Nat) (W:World),Ds.Nodup->(∀D∈Ds,lo<=D/\W.heap[D]? = some (.deferred (some []))) ->
 (∀W',Below lo W W'->(∀g t cs,Bx W g t cs->Bx W' g t cs)->LeavesIn F n P fn tmps R [] .returning W')->LeavesInM F n P fn tmps R (Ds.map Zo) .returning W
 | [],W,_,_,h=>h W (Below.refl _ _) fun g t cs hB=>hB
 | D :: Ds,W,hn,hd,h=>by
  obtain⟨h1,h2⟩:=hd D (List.mem_cons_self ..);obtain ⟨n1,n2⟩:=List.nodup_cons.1 hn;refine ⟨by simp,.inl ⟨D,_,rfl,run_takeDeferred h2,zX Ds _ n2 (fun E hE=>?_) fun W' hb hB=>h W' ((bF h1 h2).trans hb) fun g t cs hx=>hB g t cs ?_⟩⟩
  · obtain⟨h3,h4⟩:=hd E (List.mem_cons_of_mem _ hE);exact ⟨h3,(World.putObj_heap_other (fun e=>n1 (by rw[←e];exact hE))).trans h4⟩
  · refine (World.putObj_heap_other ?_).trans hx;rintro rfl;rw [show W.heap[g]? = _ from hx]at h2;cases h2
theorem Marks.leave {P:Program} {F:Fence} {n lo hi:Nat} {ds:List Deferred} {fn:Func} {tmps:Array Value} {R:Ending->World->Prop} {W:World} (h:Marks lo hi ds W)
 (hr:∀W',Below lo W W'->(∀g t cs,Bx W g t cs->Bx W' g t cs)->LeavesIn F n P fn tmps R [] .returning W'):LeavesInM F n P fn tmps R ds .returning W:=by
 obtain⟨Ds,rfl,h2,h3⟩:=h;exact zX Ds W h2 (fun D hD=>⟨(h3 D hD).1,(h3 D hD).2.2⟩) hr
def KH (B:Nat) (e:TypeId) (pos:Nat) (news:List Value) (w w':World):Prop:=Below B w w'/\w.heap.size<=w'.heap.size/\∀g c,B<=g->Bx w g e c->∃c',Bx w' g e c'/\c'.size=c.size/\∀(i:Nat) (v:Value),i<pos+news.length->c[i]? = some v->c'[i]? = some v∨(pos<=i/\∃u,news[i-pos]? = some u/\c'[i]? = some u)
theorem KH.rf (B:Nat) (e:TypeId) (pos:Nat) (news:List Value) (w:World):KH B e pos news w w:=⟨Below.refl _ _,Nat.le_refl _,fun g c _ h=>⟨c,h,rfl,fun i v _ hv=>.inl hv⟩⟩
theorem Nk (B:Nat) (e:TypeId) (pos:Nat) (news:List Value):RS.Cls (KH B e pos news) :=
 ⟨KH.rf B e pos news,fun h1 h2=>⟨h1.1.trans h2.1,Nat.le_trans h1.2.1 h2.2.1,fun g c hg h=>by
  obtain⟨c1,a1,a2,a3⟩:=h1.2.2 g c hg h;obtain ⟨c2,b1,b2,b3⟩:=h2.2.2 g c1 hg a1;refine ⟨c2,b1,b2.trans a2,fun i v hi hv=>?_⟩
  rcases a3 i v hi hv with h3|⟨h3,u,h4,h5⟩
  · exact b3 i v hi h3
  · rcases b3 i u hi h5 with h6|h6
    · exact .inr ⟨h3,u,h4,h6⟩
    · exact .inr h6⟩,
  fun w n=>⟨⟨rfl,rfl,rfl,Nat.le_refl _,fun _ _=>rfl⟩,Nat.le_refl _,fun g c _ h=>⟨c,h,rfl,fun i v _ hv=>.inl hv⟩⟩⟩
theorem KH.of {B:Nat} {e:TypeId} {pos:Nat} {news:List Value} {w w':World} (hB:B<=w.heap.size) (h:Below w.heap.size w w'):KH B e pos news w w':=⟨h.mono hB,h.size,fun g c _ hb=>⟨c,hb.call h,rfl,fun i v _ hv=>.inl hv⟩⟩
theorem KH.call {B:Nat} {e:TypeId} {pos:Nat} {news:List Value} {W w w':World} (h:KH B e pos news W w) (hB:B<=W.heap.size) (hb:Below w.heap.size w w'):KH B e pos news w w':=KH.of (Nat.le_trans hB h.2.1) hb
def y9 (e:TypeId) (size B n:Nat) (flat:List Value):RS.Rl:=fun _ v w=>aF e size B n flat v w
theorem je {cs:Array Value} {flat:List Value} {k:Nat} (hk:flat.length=k) (h:cs.toList.take k=flat) {i:Nat} (hi:i<k):cs[i]? = flat[i]? := by
 rw[←h,List.getElem?_take,if_pos hi];simp
theorem Fe {cs:Array Value} {flat:List Value} {k:Nat} (hk:flat.length=k) (hs:k<=cs.size) (h:∀i,i<k->cs[i]? = flat[i]?):cs.toList.take k=flat:=by
 apply List.ext_getElem?
 intro i;rw [List.getElem?_take];by_cases hi:i<k
 · rw[if_pos hi,←h i hi];simp
 · rw[if_neg hi,List.getElem?_eq_none (by omega)]
theorem sO {e:TypeId} {size B n:Nat} {flat news:List Value} (hf:flat.length=n*size):RS.b_ (KH B e (n*size) news) (y9 e size B n flat):=fun x v w w' hr hK=>by
 rcases hr with h|⟨cap,⟨g,cells,rfl,hg,hnc,hbx,hcs,hfl⟩,hm⟩
 · exact .inl h
 · obtain⟨c',h1,h2,h3⟩:=hK.2.2 g cells hg hbx;refine .inr ⟨cap,⟨g,c',rfl,hg,hnc,h1,by rw[h2,hcs],?_⟩,hm⟩;have hle:n*size<=cells.size:=by rw[hcs];exact Nat.mul_le_mul_right _ hnc
   refine Fe hf (by rw[h2];exact hle) fun i hi=>?_
   have hci:cells[i]? = some (cells[i]'(by omega)):=Array.getElem?_eq_getElem (by omega);rw [←je hf hfl hi,hci]
   rcases h3 i _ (by omega) hci with h4|⟨h4,-⟩
   · exact h4
   · omega
theorem F7 {e:TypeId} {size B n m:Nat} {flat news:List Value} (hf:flat.length=n*size) (hn:news.length=m*size):RS.b_ (KH B e (n*size) news) (y9 e size B (n+m) (flat++news)):=fun x v w w' hr hK=>by
 rcases hr with h|⟨cap,⟨g,cells,rfl,hg,hnc,hbx,hcs,hfl⟩,hm⟩
 · exact .inl h
 · obtain⟨c',h1,h2,h3⟩:=hK.2.2 g cells hg hbx;refine .inr ⟨cap,⟨g,c',rfl,hg,hnc,h1,by rw[h2,hcs],?_⟩,hm⟩;have hl:(flat++news).length=(n+m)*size:=by rw[List.length_append,hf,hn,Nat.add_mul]
   have hle:(n+m)*size<=cells.size:=by rw[hcs];exact Nat.mul_le_mul_right _ hnc
   refine Fe hl (by rw[h2];exact hle) fun i hi=>?_
   have hci:cells[i]? = some (cells[i]'(by omega)):=Array.getElem?_eq_getElem (by omega);have hfi:=je hl hfl hi;rw [Nat.add_mul,←hn]at hi
   rcases h3 i _ hi hci with h4|⟨h4,u,h5,h6⟩
   · rw[←hfi,hci,h4]
   · rw[List.getElem?_append_right (by omega),hf,h5,h6]
def SlN (B:Nat) (e:TypeId) (m:Nat) (news:List Value):RS.Rl:=fun _ v w=>∃g,v=.slice (some ⟨g,0,none⟩) m m/\B<=g/\Bx w g e news.toArray
theorem Jb {B:Nat} {e:TypeId} {pos m:Nat} {news:List Value} (h:pos=0∨news.length<=pos):RS.b_ (KH B e pos news) (SlN B e m news):=fun x v w w' ⟨g,e1,hg,hB⟩ hK=>by
 obtain⟨c',h1,h2,h3⟩:=hK.2.2 g _ hg hB;refine ⟨g,e1,hg,?_⟩
 have:c'=news.toArray:=by
  apply Array.ext_getElem?
  intro i;by_cases hi:i<news.length
  · have hci:news.toArray[i]? = some news[i]:=by simp[hi]
    rw[hci]
    rcases h3 i _ (by omega) hci with h4|⟨h4,u,h5,h6⟩
    · exact h4
    · obtain rfl:pos=0:=by omega
      rw[Nat.sub_zero,List.getElem?_eq_getElem hi]at h5;rw [h6,←h5]
  · rw[Array.getElem?_eq_none (by rw[h2];simpa using hi),Array.getElem?_eq_none (by simpa using hi)]
 rw[←this];exact h1
theorem Iw {P:Program} (w:World) (t ty e:TypeId) (i:TypeInfo) (z:Value) (size B n m:Nat) (flat news:List Value) (v x:Value) (ht:P.underlying t=some (.slice e)) (hi:P.info? e=some i) (hz:i.zero=some z)
 (hsize:i.size=size) (hzs:z.cells.size=size) (hv:aF e size B n flat v w) (hB:B<=w.heap.size) (hs:Src P size t x m news w) (hm:0<m) (h63:n+m<=maxLen) (hb:(n+m)*i.bytes<=140737488355328) :
 ∃v' w',(Builtin.append_ #[t,t] ty #[v,x]).run P w=.ok v' w'/\KH B e (n*size) news w w'/\aF e size B (n+m) (flat++news) v' w':=by
 rcases hv with ⟨rfl,rfl,rfl⟩|⟨cap,hv,hcm⟩
 · subst hsize;have hnl:=hs.newsLen;have hold:(Builtin.firstCells i.size 0 (.slice none 0 0)).run P w.drew=.ok ([]:List Value).toArray w.drew:=by simp[Builtin.firstCells,loadCells,loadCellsFrom]
   have hrun:=run_append_grow_src (P:=P) w t t ty e i z ht hi hz none 0 0 [] hold x m news hs (by omega) (by simp only[maxLen]at h63;omega) (growslice_fits (by omega) hb);have hge:=grownCap_ge w (0+m) 0 e;refine ⟨_,_,hrun,KH.of hB (((Below.refl w.heap.size w).drew).alloc (Nat.le_refl _) _),.inr ⟨_,⟨w.heap.size,_,rfl,hB,hge,Bx.mk w.drew e _,?_,?_⟩,grownCap_le_maxLen w (0+m) 0 e h63⟩⟩
   · rw[Array.size_append,List.size_toArray,List.length_append,List.length_nil,hnl,size_zeroCells,hzs,Nat.zero_add,←Nat.add_mul]
     congr 1;omega
   · rw[Array.toList_append,List.take_append_of_le_length (by simp[hnl,Nat.add_mul])];rw [List.take_of_length_le (by simp[hnl,Nat.add_mul])]
 · obtain⟨g,cells,rfl,hg,hnc,hbx,hcs,hfl⟩:=hv;subst hsize;have hnl:=hs.newsLen;by_cases hroom:n+m<=cap
   · have hle:n*i.size+news.length<=cells.size:=by rw[hnl,hcs,←Nat.add_mul];exact Nat.mul_le_mul_right _ hroom
     have hrun:=run_append_room_src (P:=P) w t t ty e i ht hi g 0 n cap x m news hs hroom (fun j hj=>by
      rw[hbx.cell (0+n*i.size+j) (v:=cells[0+n*i.size+j]'(by omega)) (by simp)];rfl) (fun j _=>hbx.frozen _)
     obtain⟨cs',h1,h2,h3⟩:=hbx.setCells news (0+n*i.size) w cells (by omega);have h3':cs'.toList.take (n*i.size+news.length)=flat++news:=by rw[Nat.zero_add]at h3;rw[h3,hfl]
     have hbl:Below B w (w.setCells g (0+n*i.size) news):=by
      clear hrun h1 h2 h3 hs;generalize 0+n*i.size=o
      have:∀(vs:List Value) (o:Nat) (w':World),Below B w w'->Below B w (w'.setCells g o vs):=by
       intro vs
       induction vs with
       | nil=>intro o w' h;exact h
       | cons a l ih=>intro o w' h;exact ih _ _ (h.setCell hg _)
      exact this news o w (Below.refl _ _)
     refine⟨_,_,hrun,⟨hbl,size_setCells _ _ _,fun b c hb' hc=>?_⟩,.inr ⟨cap,⟨g,cs',rfl,hg,hroom,h1,by rw[h2,hcs],?_⟩,hcm⟩⟩
     · by_cases hbg:b=g
       · subst hbg
         have hcc:c=cells:=by
          have:=(show w.heap[b]? = _ from hc).symm.trans hbx;simpa using this
         subst hcc;refine ⟨cs',h1,h2,fun j u hj hu=>?_⟩;have LD:flat.length=n*i.size:=by rw[←hfl,List.length_take,Array.length_toList];omega
         have hc':cs'[j]? = (flat++news)[j]? := je (by rw[List.length_append,LD]) h3' hj;by_cases hjp:j<n*i.size
         · left
           rw[hc',List.getElem?_append_left (by omega),←je LD hfl hjp,hu]
         · right
           refine⟨by omega,?_⟩;rw [hc',List.getElem?_append_right (by omega),LD];exact ⟨_,List.getElem?_eq_getElem (by omega),List.getElem?_eq_getElem (by omega)⟩
       · exact⟨c,(iq hbg _ _ _).trans hc,rfl,fun j u _ hu=>.inl hu⟩
     · rw[Nat.add_mul,←hnl];exact h3'
   · have jP:flat.length=n*i.size:=by
      rw[←hfl,List.length_take,Array.length_toList,hcs];exact Nat.min_eq_left (Nat.mul_le_mul_right _ hnc)
     have hold:(Builtin.firstCells i.size n (.slice (some ⟨g,0,none⟩) n cap)).run P w.drew=.ok flat.toArray w.drew :=
      run_firstCells_some w.drew i.size n ⟨g,0,none⟩ n cap flat jP fun j u hu=>by
       have hj:cells[j]? = some u:=by
        rw[←hfl,List.getElem?_take]at hu
        split at hu
        · simpa using hu
        · cases hu
       rw[Addr.add_lit,Nat.zero_add];exact (show Bx w.drew g e cells from hbx).cell j hj
     have hrun:=run_append_grow_src (P:=P) w t t ty e i z ht hi hz (some ⟨g,0,none⟩) n cap flat hold x m news hs (by omega) (by simp only[maxLen]at h63;omega) (growslice_fits (by omega) hb);have hge:=grownCap_ge w (n+m) cap e;refine ⟨_,_,hrun,KH.of hB (((Below.refl w.heap.size w).drew).alloc (Nat.le_refl _) _),.inr ⟨_,⟨w.heap.size,_,rfl,hB,hge,Bx.mk w.drew e _,?_,?_⟩,grownCap_le_maxLen w (n+m) cap e h63⟩⟩
     · rw[Array.size_append,List.size_toArray,List.length_append,jP,hnl,size_zeroCells,hzs,←Nat.add_mul,←Nat.add_mul]
       congr 1;omega
     · rw[Array.toList_append,List.take_append_of_le_length (by simp[jP,hnl,Nat.add_mul])];rw [List.take_of_length_le (by simp[jP,hnl,Nat.add_mul])]
def Yg (B:Nat) (e:TypeId):RS.Rl:=fun _ v w=>∃g,v=.slice (some ⟨g,0,none⟩) 0 0/\B<=g/\Bx w g e #[]
theorem Jd {B:Nat} {e:TypeId} {pos:Nat} {news:List Value}:RS.b_ (KH B e pos news) (Yg B e):=fun x v w w' ⟨g,e1,hg,hB⟩ hK=>by
 obtain⟨c',h1,h2,-⟩:=hK.2.2 g _ hg hB;have:c'=#[]:=Array.eq_empty_of_size_eq_zero h2;rw [this]at h1;exact ⟨g,e1,hg,h1⟩
theorem OW {B:Nat} {e:TypeId} (w:World) (hB:B<=w.heap.size) (x:Value):Yg B e x (.slice (some ⟨w.heap.size,0,none⟩) 0 0) (w.alloc (.cells #[] e)):=⟨_,rfl,hB,Bx.mk w e #[]⟩
structure uZ (B:Nat) (e:TypeId) (pos:Nat) (news:List Value) (t:TypeId) (z cs:Array Value) (w w':World):Prop where
 kh:KH B e pos news w w'
 own:∀g c,B<=g->Bx w g t c->Bx w' g t c∨(c=z/\Bx w' g t cs)
section
variable {B:Nat} {e:TypeId} {pos:Nat} {news:List Value} {t:TypeId} {z cs:Array Value} {W w w':World}
theorem uZ.rf (B:Nat) (e:TypeId) (pos:Nat) (news:List Value) (t:TypeId) (z cs:Array Value) (w:World):uZ B e pos news t z cs w w:=⟨KH.rf _ _ _ _ _,fun g c _ h=>.inl h⟩
theorem uZ.of (hB:B<=w.heap.size) (h:Below w.heap.size w w'):uZ B e pos news t z cs w w':=⟨KH.of hB h,fun g c _ hb=>.inl (hb.call h)⟩
theorem uZ.call (h:uZ B e pos news t z cs W w) (hB:B<=W.heap.size) (hb:Below w.heap.size w w'):uZ B e pos news t z cs w w':=uZ.of (Nat.le_trans hB h.kh.2.1) hb
theorem uZ.bl (h:uZ B e pos news t z cs w w'):Below B w w':=h.kh.1
theorem uZ.size (h:uZ B e pos news t z cs w w'):w.heap.size<=w'.heap.size:=h.kh.2.1
theorem uZ.keep (h:uZ B e pos news t z cs w w') {g:Nat} (hg:B<=g) (hb:Bx w g t cs):Bx w' g t cs:=by
 rcases h.own g cs hg hb with h1|⟨-,h1⟩ <;> exact h1
theorem uZ.new (h:uZ B e pos news t z cs W w) (hB:B<=W.heap.size) (x:Value):uZ B e pos news t z cs w (w.alloc (.cells z t))/\RS.Ew B t z cs x (.pointer (some ⟨w.heap.size,0,none⟩)) (w.alloc (.cells z t)) :=
 ⟨h.call hB (bNew (Below.refl w.heap.size w) _),_,rfl,Nat.le_trans hB h.size,.inl (Bx.mk w t z)⟩
theorem uZ.ofZ (he:e≠t) (h:RS.KZ B t z cs w w'):uZ B e pos news t z cs w w':=⟨⟨h.bl,h.size,fun g c _ hb=>⟨c,h.Gt.bx he hb,rfl,fun i v _ hv=>.inl hv⟩⟩,h.own⟩
theorem uZ.stores (he:e≠t) {g:Nat} {L:List Value} (hL:cs=L.toArray) (hz:z.size=L.length) (hg:B<=g) (hB:Bx w g t z∨Bx w g t cs) (x y:Value) (hx:x=.pointer (some ⟨g,0,none⟩)):uZ B e pos news t z cs w (w.setCells g 0 L)/\RS.Et B t cs x y (w.setCells g 0 L):=by
 obtain⟨h1,h2⟩:=RS.KZ.stores (w:=w) hL hz hg hB x y hx;exact ⟨uZ.ofZ he h1,h2⟩
end
theorem sF {P:Program} {w w':World} {ops:Array Oper} {rest:List Oper} {o:Oper} {a:Act} {Q:Exit->Act->World->Prop} (hw:Region.wanted o (yielded ops a.tmps)=true) (s y:Operand) (t:TypeId) (ho:o.op=.call { callee:=.builtin .append,args:=#[s,y],argTypes:=#[t,t] })
 (v x v':Value) (hes:a.eval s=v) (DN:a.eval y=x) (hr:(Builtin.append_ #[t,t] o.type #[v,x]).run P w=.ok v' w') (h:wpList P ops Q rest (a.put o.dst v') w'):wpList P ops Q (o :: rest) a w:=by
 refine BigFrame.wpList_want hw fun _ hK=>?_
 unfold Oper.wp execOp
 simp only[ho,resolve,invoke,builtin,Sem.run_bind,Sem.run_pure,Result.andThen_ok,List.map_toArray,List.map_cons,List.map_nil,hes,DN,hr];exact hK _ _ h
theorem Ya {P:Program} {w:World} (t ty e:TypeId) (i:TypeInfo) (z:Value) (size B m:Nat) (news:List Value) (v x q:Value) (ht:P.underlying t=some (.slice e)) (hi:P.info? e=some i) (hz:i.zero=some z)
 (hsize:i.size=size) (hzs:z.cells.size=size) (hv:Yg B e q v w) (hB:B<=w.heap.size) (hs:Src P size t x m news w) (h63:m<=maxLen) (hb:m*i.bytes<=140737488355328) :
 ∃v' w',(Builtin.append_ #[t,t] ty #[v,x]).run P w=.ok v' w'/\Below w.heap.size w w'/\aF e size B m news v' w':=by
 obtain⟨g,rfl,hg,hbx⟩:=hv;obtain ⟨v',w',cap',hr,h1,h2,h3,h4⟩:=og (P:=P) w t ty e i z size B 0 0 m [] news (.slice (some ⟨g,0,none⟩) 0 0) x ht hi hz hsize hzs ⟨g,#[],rfl,hg,Nat.le_refl _,hbx,by simp,by simp⟩ hB hs (Nat.zero_le _) (by omega) (by rw[Nat.zero_add];exact hb);rw [Nat.zero_add,List.nil_append]at h3;exact ⟨v',w',hr,h2 rfl,.inr ⟨cap',h3,h4⟩⟩
def FQ (B:Nat) (e:TypeId) (pos:Nat) (news:List Value) (w w':World):Prop:=KH B e pos news w w'/\jW e w w'
section
variable {B:Nat} {e:TypeId} {pos:Nat} {news:List Value} {W w w':World}
theorem FQ.rf (B:Nat) (e:TypeId) (pos:Nat) (news:List Value) (w:World):FQ B e pos news w w:=⟨KH.rf _ _ _ _ _,jW.refl _ _⟩
theorem FQ.of (hB:B<=w.heap.size) (h:Below w.heap.size w w'):FQ B e pos news w w':=⟨KH.of hB h,jW.call h⟩
theorem FQ.bl (h:FQ B e pos news w w'):Below B w w':=h.1.1
theorem FQ.size (h:FQ B e pos news w w'):w.heap.size<=w'.heap.size:=h.1.2.1
theorem FQ.call (h:FQ B e pos news W w) (hB:B<=W.heap.size) (hb:Below w.heap.size w w'):FQ B e pos news w w':=FQ.of (Nat.le_trans hB h.size) hb
end
theorem UK {P:Program} {w:World} (t ty e:TypeId) (i:TypeInfo) (z:Value) (size B n m:Nat) (flat news:List Value) (v x:Value) (ht:P.underlying t=some (.slice e)) (hi:P.info? e=some i) (hz:i.zero=some z)
 (hsize:i.size=size) (hzs:z.cells.size=size) (hv:aF e size B n flat v w) (hB:B<=w.heap.size) (hs:Src P size t x m news w) (hm:0<m) (h63:n+m<=maxLen) (hb:(n+m)*i.bytes<=140737488355328) :
 ∃v' w',(Builtin.append_ #[t,t] ty #[v,x]).run P w=.ok v' w'/\FQ B e (n*size) news w w'/\aF e size B (n+m) (flat++news) v' w':=by
 obtain⟨v',w',hr,h1,h2⟩:=Iw (P:=P) w t ty e i z size B n m flat news v x ht hi hz hsize hzs hv hB hs hm h63 hb;obtain ⟨v2,w2,hr2,-,k2,-⟩:=qW (P:=P) w t ty e i z size B n m flat news v x ht hi hz hsize hzs hv hB hs hm h63 hb;refine ⟨v',w',hr,⟨h1,?_⟩,h2⟩;have:=hr.symm.trans hr2;simp only[Result.ok.injEq]at this;rw [this.2];exact k2
def Sv (v1 v2:Value):Prop:=∀g n c n' c',v1=.slice (some ⟨g,0,none⟩) n c->v2≠.slice (some ⟨g,0,none⟩) n' c'
theorem Sv.symm {v1 v2:Value} (h:Sv v1 v2):Sv v2 v1:=fun g n c n' c' h1 h2=>h g n' c' n c h2 h1
theorem Sv.nil (v:Value):Sv (.slice none 0 0) v:=fun g n c n' c' h1 _=>by cases h1
section
variable {e:TypeId} {size B n:Nat} {fl:List Value} {v1 v1' v2:Value} {W W':World}
theorem aF.kept (hk:RV v1 v1' W W') (h:aF e size B n fl v2 W) (hne:Sv v1 v2):aF e size B n fl v2 W':=by
 rcases h with h|⟨cap,⟨g,cells,e1,hg,hn,hB,hs,hf⟩,hm⟩
 · exact .inl h
 · exact .inr ⟨cap,⟨g,cells,e1,hg,hn,hk.bx hB (fun n c hv=>hne g n c _ _ hv e1),hs,hf⟩,hm⟩
theorem aF.apart (hk:RV v1 v1' W W') (h:aF e size B n fl v2 W) (hne:Sv v1 v2):Sv v1' v2:=fun g n c n' c' h1 h2=>by
 obtain⟨g0,n0,c0,e0,hor⟩:=hk.at_;rw [h1]at e0;simp only[Value.slice.injEq,Option.some.injEq,Addr.mk.injEq,and_true]at e0;obtain ⟨rfl,-,-⟩:=e0
 rcases hor with hor|⟨n9,c9,h9⟩
 · rcases h with ⟨h,-,-⟩|⟨cap,⟨g',cells,e1,hg,hn,hB,hs,hf⟩,hm⟩
   · rw[h]at h2;cases h2
   · rw[e1]at h2;simp only[Value.slice.injEq,Option.some.injEq,Addr.mk.injEq,and_true]at h2;obtain ⟨rfl,-,-⟩:=h2;have:=hB.lt;omega
 · exact hne g n9 c9 n' c' h9 h2
end
theorem aF.U2 {e:TypeId} {size B n:Nat} {fl:List Value} {v:Value} {w:World} (h:aF e size B n fl v w):∃A c,v=.slice A n c:=by
 rcases h with ⟨h,rfl,-⟩|⟨cap,⟨g,cells,e1,_⟩,_⟩
 · exact⟨none,0,h⟩
 · exact⟨_,_,e1⟩
end Go.Proofs.YtohgjenaclfegaaGreatDoor

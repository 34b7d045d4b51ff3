import Derived.Test.YtohgjenaclfegaaGreatDoorQI01
import Derived.Laws.MakeOwn
import Derived.Laws.EntriesVeiled
import Derived.Deep.RegionWith
set_option linter.unusedVariables false
set_option linter.unusedSimpArgs false
set_option maxRecDepth 100000
set_option maxHeartbeats 8000000
namespace Go.Proofs.YtohgjenaclfegaaGreatDoor
open Go.RowKit Go.Shelf
attribute [local go_sem] Oper.semAt_some
theorem ku {fn:Func} {t:Tmp} {g:Nat} {x:Int} (h:fn.results=#[.cell t 3]) (tmps:Array Value) (w:World) (ht:tmps.getD t undef=.pointer (some ⟨g,0,none⟩)) (hB:Bx w g 3 #[.int .i64 x]) :
 (results fn tmps).run Tryz.prog w=.ok (.int .i64 x) w:=by
 have h0:=hB.cell 0 rfl;have ht':tmps[t]?.getD undef=.pointer (some ⟨g,0,none⟩):=by simpa using ht
 simp only[results,h];simp [go_sem,ht',h0,loadVar]
theorem Nc {a b:Nat} (h:(Ig.grp a).length≠(Ig.grp b).length):jr ((Ig.grp a).length:Int) ((Ig.grp b).length:Int)=Ig.eH a b:=by
 rw[Ig.Fz h]
 unfold jr
 split
 · rw[if_pos (by omega)]
 · rw[if_pos (by omega),if_neg (by omega)]
theorem Qe {a b:Nat} (hlen:(Ig.grp a).length=(Ig.grp b).length) (k:Nat) (hk:k<(Ig.grp a).length) (hd:∀t,k<t->t<(Ig.grp a).length->Ig.dn (Ig.grp a) t=Ig.dn (Ig.grp b) t) (hne:Ig.dn (Ig.grp a) k≠Ig.dn (Ig.grp b) k):jr (Ig.dn (Ig.grp a) k) (Ig.dn (Ig.grp b) k)=Ig.eH a b:=by
 have h1:(Ig.grp a).drop (k+1)=(Ig.grp b).drop (k+1):=by
  apply List.ext_getElem (by simp[hlen])
  intro i h1 h2;simp only[List.length_drop]at h1 h2;have:=hd (k+1+i) (by omega) (by omega);rw [Ig.fO (by omega),Ig.fO (by omega)]at this;simpa using this
 rw[Ig.Na hlen k hk h1 hne]
 unfold jr
 split
 · rfl
 · rw[if_pos (by omega)]
theorem Nj {a b:Nat} (hlen:(Ig.grp a).length=(Ig.grp b).length) (h:∀t,t<(Ig.grp a).length->Ig.dn (Ig.grp a) t=Ig.dn (Ig.grp b) t):Ig.eH a b=0:=by
 refine Ig.A_ (List.ext_getElem hlen fun i h1 h2=>?_);have:=h i h1
 rwa [Ig.fO h1,Ig.fO h2]at this
theorem vH {n k:Nat} (hk:k<=n):∀t:Fin n,t∈(bW n).take k↔n-k<=t.1:=by
 induction k with
 | zero=>intro t;simp
 | succ k ih =>
  intro t;have hs:=g_ (n:=n) (t:=n-(k+1)) (by omega);rw [show n-(n-(k+1))=k+1 by omega,show n-(n-(k+1)+1)=k by omega]at hs;rw [hs,List.mem_append,ih (by omega),List.mem_singleton,Fin.ext_iff];simp only;omega
theorem Ec (a b:Nat) (v1 v2:Value) (w:World) (h1:aA w a v1) (h2:aA w b v2) (la:(Ig.grp a).length<=90000) (lb:(Ig.grp b).length<=90000) (hne:(Ig.grp a).length≠(Ig.grp b).length) :
 bP 215 #[v1,v2] w (.int .i64 (Ig.eH a b)):=by
 obtain⟨A1,c1,rfl,hA1,hn1,hm1⟩:=h1.out;obtain ⟨A2,c2,rfl,hA2,hn2,hm2⟩:=h2.out;have he:=Nc hne;have hb0:=bNew (aG w (.cells #[.slice A2 (Ig.grp b).length c2] 297)) (.cells #[.int .i64 0] 3);generalize (Ig.grp a).length=n1 at *;generalize (Ig.grp b).length=n2 at *;have t0:decide ((n1:Int)=(n2:Int))=false:=by simp;omega
 have t1:((n1:Int)==(n2:Int))=false:=by simp;omega
 go_enter Tryz.func215,Tryz.ntmps215
 go_wp2_with (go_at_call 257;refine (FC _ _ _).mono ?_;rintro e w' ⟨rfl,rfl⟩)
 have B4:Bx ((w.alloc (.cells #[.slice A2 n2 c2] 297)).alloc (.cells #[.int .i64 (Ig.eH a b)] 3)) (w.heap.size+1) 3 #[.int .i64 (Ig.eH a b)]:=by
  have:=Bx.mk (w.alloc (.cells #[.slice A2 n2 c2] 297)) 3 #[.int .i64 (Ig.eH a b)]
  rwa [aj]at this
 refine bodyPost_ret (ku rfl _ _ rfl B4) rfl ⟨rfl,bNew (aG w _) _⟩
structure Cb (w:World) (a b:Nat) (v2:Value) (pre:List (Fin (Ig.grp a).length)) (W:World):Prop where
 hb:Below w.heap.size w W
 le:w.heap.size+3<=W.heap.size
 B3:Bx W w.heap.size 297 #[v2]
 B4:Bx W (w.heap.size+1) 3 #[.int .i64 0]
 same:∀t∈pre,Ig.dn (Ig.grp a) t.1=Ig.dn (Ig.grp b) t.1
structure xI (w:World) (a b:Nat) (pre:List (Fin (Ig.grp a).length)) (W:World):Prop where
 hb:Below w.heap.size w W
 le:w.heap.size+3<=W.heap.size
 out:∃m x,pre=m++[x]/\(∀t∈m,Ig.dn (Ig.grp a) t.1=Ig.dn (Ig.grp b) t.1)/\Ig.dn (Ig.grp a) x.1≠Ig.dn (Ig.grp b) x.1/\Bx W (w.heap.size+1) 3 #[.int .i64 (jr (Ig.dn (Ig.grp a) x.1) (Ig.dn (Ig.grp b) x.1))]
theorem Cb.kept {w W W':World} {a b:Nat} {v2:Value} {pre:List (Fin (Ig.grp a).length)} {row:Option Nat} (h:Cb w a b v2 pre W) (hg:W.grownBy W' row) (hr:∀r,row=some r->w.heap.size<=r/\∃o:Obj,W.heap[r]? = some o/\o.isCells=false):Cb w a b v2 pre W' :=
 ⟨h.hb.grown hg h.hb.size (fun k e=>(hr k e).1),Nat.le_trans h.le hg.size,dM h.B3 hg (fun r e=>(hr r e).2),dM h.B4 hg (fun r e=>(hr r e).2),h.same⟩
theorem xI.kept {w W W':World} {a b:Nat} {pre:List (Fin (Ig.grp a).length)} {row:Option Nat} (h:xI w a b pre W) (hg:W.grownBy W' row) (hr:∀r,row=some r->w.heap.size<=r/\∃o:Obj,W.heap[r]? = some o/\o.isCells=false):xI w a b pre W':=by
 obtain⟨m,x,h1,h2,h3,h4⟩:=h.out;exact ⟨h.hb.grown hg h.hb.size (fun k e=>(hr k e).1),Nat.le_trans h.le hg.size,m,x,h1,h2,h3,dM h4 hg (fun r e=>(hr r e).2)⟩
theorem xI.answer {w W:World} {a b k:Nat} (hlen:(Ig.grp a).length=(Ig.grp b).length) (hk:k<=(Ig.grp a).length) (h:xI w a b ((bW (Ig.grp a).length).take k) W):Bx W (w.heap.size+1) 3 #[.int .i64 (Ig.eH a b)]:=by
 obtain⟨m,x,h1,h2,h3,h4⟩:=h.out
 obtain⟨j,rfl⟩:∃j,k=j+1:=⟨k-1,by
  rcases k with _|k;· simp at h1
  · rfl⟩
 have hs:=g_ (n:=(Ig.grp a).length) (t:=(Ig.grp a).length-(j+1)) (by omega);rw [show (Ig.grp a).length-((Ig.grp a).length-(j+1))=j+1 by omega,show (Ig.grp a).length-((Ig.grp a).length-(j+1)+1)=j by omega]at hs;rw [hs]at h1;have h5:=List.append_inj_left' h1 rfl
 have h6:x.1=(Ig.grp a).length-(j+1):=by
  have:=List.append_inj_right' h1 rfl;simp only[List.cons.injEq,and_true]at this;rw [←this]
 rw[Qe hlen x.1 x.2 (fun t h7 h8=>h2 ⟨t,h8⟩ (by rw[←h5,vH (by omega)];simp only;omega)) h3]at h4;exact h4
theorem Ed (a b:Nat) (v1 v2:Value) (w:World) (h1:aA w a v1) (h2:aA w b v2) (la:(Ig.grp a).length<=90000) (hl:(Ig.grp a).length=(Ig.grp b).length) :
 bP 215 #[v1,v2] w (.int .i64 (Ig.eH a b)):=by
 obtain⟨A1,c1,rfl,hA1,hn1,hm1⟩:=h1.out;obtain ⟨A2,c2,rfl,hA2,hn2,hm2⟩:=h2.out;have t0:decide (((Ig.grp a).length:Int)=((Ig.grp b).length:Int))=true:=by simp;omega
 have t1:(((Ig.grp a).length:Int)==((Ig.grp b).length:Int))=true:=by simp;omega
 have t2:(((Ig.grp a).length:Int) != ((Ig.grp b).length:Int))=false:=by simp;omega
 have hlk:Kp ((Ig.grp a).length=(Ig.grp b).length):=⟨hl⟩
 clear hl;refine (callsIn_wide (n:=3)).1 ?_;refine callsIn_of_wp_marks Tryz.func215 rfl trivial ?_ rfl;simp only[Tryz.ntmps215,List.size_toArray,List.length_cons,List.length_nil,Nat.reduceAdd,Nat.reduceSub,Array.replicate_succ,Array.replicate_zero,List.push_toArray,List.append_toArray,List.nil_append,List.cons_append]
 gi_wp2_with (refine ⟨trivial,?_⟩;gi_at_call 258;refine (su Fence.wide 2 trivial rfl _ _ _ _).mono ?_;rintro e w' ⟨rfl,rfl⟩)
 have hb0:=bNew (bNew (aG w (.cells #[.slice A2 (Ig.grp b).length c2] 297)) (.cells #[.int .i64 0] 3)) (.cells #[.slice A1 (Ig.grp a).length c1] 297);have B3:=((Bx.mk w 297 #[.slice A2 (Ig.grp b).length c2]).new (.cells #[.int .i64 0] 3)).new (.cells #[.slice A1 (Ig.grp a).length c1] 297);have B4:=(Bx.mk (w.alloc (.cells #[.slice A2 (Ig.grp b).length c2] 297)) 3 #[.int .i64 0]).new (.cells #[.slice A1 (Ig.grp a).length c1] 297);have B7:=Bx.mk ((w.alloc (.cells #[.slice A2 (Ig.grp b).length c2] 297)).alloc (.cells #[.int .i64 0] 3)) 297 #[.slice A1 (Ig.grp a).length c1];have hsz:(((w.alloc (.cells #[.slice A2 (Ig.grp b).length c2] 297)).alloc (.cells #[.int .i64 0] 3)).alloc (.cells #[.slice A1 (Ig.grp a).length c1] 297)).heap.size=w.heap.size+3:=by rw[aj,aj,aj]
 rw[aj]at B4;rw [aj,aj]at B7;generalize (((w.alloc (.cells #[.slice A2 (Ig.grp b).length c2] 297)).alloc (.cells #[.int .i64 0] 3)).alloc (.cells #[.slice A1 (Ig.grp a).length c1] 297))=W0 at *
 refine wpIn_rangeFunc_ownG rfl (by decide) (gf:=289) (lb:=#[.pointer (some ⟨w.heap.size+1+1,0,none⟩)]) rfl trivial (enters_of Tryz.func289 (by kernel_rfl) rfl)
  (kR Fence.wide 2 trivial rfl (by decide) (w.heap.size+1+1) w.heap.size A1 c1 (Ig.grp a) (by omega) W0 (by omega) (by omega) (B7.cell 0 rfl) (hA1.below hb0)) qj.trans (EO (by omega) (by omega)) (Below.refl _ _) (fun _=>rfl)
  (fun pre W=>Cb w a b (.slice A2 (Ig.grp b).length c2) pre W) (fun c pre W=>c=.ret/\xI w a b pre W)
  (fun pre W W' row hs hg hr=>hs.kept hg (fun r e=>⟨by have:=(hr r e).1;omega,(hr r e).2⟩))
  (fun c pre W W' row hs hg hr=>⟨hs.1,hs.2.kept hg (fun r e=>⟨by have:=(hr r e).1;omega,(hr r e).2⟩)⟩)
  ⟨hb0,by omega,B3,B4,fun t ht=>by cases ht⟩
  (fun x=>{ tmps:=#[.slice A1 (Ig.grp a).length c1,.slice A2 (Ig.grp b).length c2,undef,.pointer (some ⟨w.heap.size,0,none⟩),.pointer (some ⟨w.heap.size+1,0,none⟩),.int .i64 (x.1:Int),.int .i64 (Ig.grp a)[x.1],.slice A1 (Ig.grp a).length c1,.int .i64 ((Ig.grp a).length:Int),.slice A2 (Ig.grp b).length c2,.int .i64 ((Ig.grp b).length:Int),.bool false,
   undef,undef,undef,undef,undef,.slice A1 (Ig.grp a).length c1,.func (.func 289) #[] #[.pointer (some ⟨w.heap.size+1+1,0,none⟩)],.int .i64 (x.1:Int),.int .i64 (Ig.grp a)[x.1],undef,undef,undef,undef,undef,undef,undef,undef,undef,undef,undef,undef],defers:=[] }) ?assign ?body ?done ?stop
 case assign =>
  intro l x W K hK;simp only[handed]
  gi_wp2
  exact hK
 case body =>
  rintro l pre x W ⟨hb,hle,B3',Sl,hsame⟩ hlt;have hxb:x.1<(Ig.grp b).length:=by have:=x.2;have:=hlk.out;omega
  have hA2':=hA2.below hb;obtain ⟨b2,off,rfl,hbB,hcell⟩:=hA2' (by omega)
  have c0:W.cell? ⟨b2,off+x.1,none⟩=some (.int .i64 (Ig.grp b)[x.1]):=by
   have:=hcell x.1 _ (List.getElem?_eq_getElem hxb) 0 _ rfl;simpa using this
  have e1:Ig.dn (Ig.grp a) x.1=(Ig.grp a)[x.1]:=Ig.fO x.2;have e2:Ig.dn (Ig.grp b) x.1=(Ig.grp b)[x.1]:=Ig.fO hxb;have c3:=B3'.cell 0 rfl;have c4:=Sl.cell 0 rfl;have f4:=Sl.frozen 0;have hxk:Kp (x.1<(Ig.grp b).length):=⟨hxb⟩
  by_cases heq:(Ig.grp a)[x.1]=(Ig.grp b)[x.1]
  · have t3:decide ((Ig.grp a)[x.1]=(Ig.grp b)[x.1])=true:=by simp[heq]
    have hfin:Cb w a b (.slice (some ⟨b2,off,none⟩) (Ig.grp b).length c2) (pre++[x]) W:=⟨hb,hle,B3',Sl,fun t ht=>by
     rcases List.mem_append.1 ht with h|h
     · exact hsame t h
     · rw[List.mem_singleton.1 h,e1,e2,heq]⟩
    gi_wp2
    exact⟨KeepsFrom.refl _ _,qj.refl _ _ _,hfin⟩
  · have t3:decide ((Ig.grp a)[x.1]=(Ig.grp b)[x.1])=false:=by simp[heq]
    gi_wp2_with (refine ⟨by first|trivial|(intro h;cases h),?_⟩;gi_at_call 257;refine ((callsIn_wide.2 (FC _ _ _)).inRound _).mono ?_;rintro e w' ⟨rfl,rfl⟩)
    exact⟨(KeepsOthers.setCell _ _ _).from _,rfl,aQ hb (Nat.le_succ _) _,Nat.le_trans hle (KeepsOthers.setCell _ _ _).size,pre,x,rfl,hsame,by rw[e1,e2];exact heq,by rw[e1,e2];exact Sl.set 0 _⟩
 case done =>
  rintro D ys W hD rfl ⟨hb,hle,B3',Sl,hsame⟩ hK;have hz:Ig.eH a b=0:=Nj hlk.out (fun t ht=>hsame ⟨t,ht⟩ (by simp[bW]));have c4:=Sl.cell 0 rfl;have f4:=Sl.frozen 0
  gi_wp2
  have hK2:=(Below.heap_setCell W ⟨w.heap.size+1,0,none⟩ (.int .i64 0) D (by show D≠w.heap.size+1;omega)).trans hK;have B42:=Sl.set 0 (.int .i64 0);have hb2:=aQ hb (p:=⟨w.heap.size+1,0,none⟩) (Nat.le_succ _) (.int .i64 0);generalize W.setCell ⟨w.heap.size+1,0,none⟩ (.int .i64 0)=W2 at *;refine ⟨by simp,.inl ⟨_,_,rfl,run_takeDeferred hK2,?_⟩⟩;have hg:=grownBy_putObj' W2 D (.deferred none);have hr:∀r,some D=some r->∃o:Obj,W2.heap[r]? = some o/\o.isCells=false:=fun r e=>by cases e;exact⟨_,hK2,rfl⟩
  rw[hz];exact ⟨_,ku rfl _ _ rfl (dM B42 hg hr),rfl,hb2.trans (belowK_b (w:=w) (Nat.le_refl _) W2 D _ _ (by omega) hK2 rfl rfl)⟩
 case stop =>
  rintro D c pre W hD ⟨k,hk,rfl⟩ ⟨rfl,hX⟩ hK;have hB:=hX.answer hlk.out hk
  gi_wp2
  refine⟨by simp,.inl ⟨_,_,rfl,run_takeDeferred hK,?_⟩⟩;have hg:=grownBy_putObj' W D (.deferred none);have hr:∀r,some D=some r->∃o:Obj,W.heap[r]? = some o/\o.isCells=false:=fun r e=>by cases e;exact⟨_,hK,rfl⟩
  exact⟨_,ku rfl _ _ rfl (dM hB hg hr),rfl,hX.hb.trans (belowK_b (w:=w) (Nat.le_refl _) W D _ _ (by omega) hK rfl rfl)⟩
theorem iG (a b:Nat) (v1 v2:Value) (w:World) (h1:aA w a v1) (h2:aA w b v2) (la:(Ig.grp a).length<=90000) (lb:(Ig.grp b).length<=90000) :
 bP 215 #[v1,v2] w (.int .i64 (Ig.eH a b)):=by
 by_cases hl:(Ig.grp a).length=(Ig.grp b).length
 · exact Ed a b v1 v2 w h1 h2 la hl
 · exact Ec a b v1 v2 w h1 h2 la lb hl
theorem Nh (a b:Nat):decide (Ig.eH a b > 0)=decide (b<a):=by
 rcases (show a<b∨a=b∨b<a by omega) with h|h|h
 · rw[Ig.kN h];simp;omega
 · subst h;rw[Ig.pX];simp
 · rw[Ig.kP h];simp;omega
theorem Gq (b r d:Nat) (v2 v5:Value) (g8 g5:Nat) (w:World) (B8:Bx w g8 347 #[.func (.func 261) #[v2] #[]]) (B5:Bx w g5 297 #[v5]) (h2:aA w b v2) (h5:aA w r v5) (hd:d<10000)
 (l2:(Ig.grp b).length<=20000) (l5:(Ig.grp r).length<=90000) (l3:(Ig.grp (b*(d+1))).length<=90000) :
 bP 262 #[.int .i64 d,.pointer (some ⟨g8,0,none⟩),.pointer (some ⟨g5,0,none⟩)] w (.bool (decide (r<b*(d+1)))):=by
 go_enter Tryz.func262,Tryz.ntmps262
 go_wp2_with fail;have hay:=fun w1 (hb1:Below w.heap.size w w1)=>(B8.call hb1).cell 0 rfl
 have hby:=fun w1 (hb1:Below w.heap.size w w1)=>(B5.call hb1).cell 0 rfl
 have hcp:=Nh (b*(d+1)) r;refine au [ak (.func (.func 261) #[v2] #[]),ak (.int .i64 d),ak (.int .i64 ((d+1:Nat):Int)),(fun v W=>aA W (b*(d+1)) v),ak v5,ak (.int .i64 (Ig.eH (b*(d+1)) r)),ak (.bool (decide (r<b*(d+1)))),ak (.bool (decide (r<b*(d+1))))] 8 12 (by kernel_rfl) rfl rfl (by kernel_rfl) ?_ ?_ ?_
 · simp only[aY]
   and_intros <;> first|exact aI _|exact fun v w w' h hb=>h.call hb|trivial
 · simp only[Users,List.take,List.length];refine ⟨?_,?_,?_,?_,?_,?_,?_,?_,trivial⟩;all_goals (intro vs w1 hb1 hd0;have c8:=hay w1 hb1;have c5:=hby w1 hb1;have E5:=h2.call hb1;have hN5:=h5.call hb1;clear hay hby;simp only[aN,Act.put,List.nil_append,List.cons_append,List.setIfInBounds_toArray,List.set_cons_succ,List.set_cons_zero,Nat.reduceAdd])
   · clear hd0;go_wp2;exact⟨Below.refl _ _,rfl⟩
   · clear hd0;go_wp2;exact⟨Below.refl _ _,rfl⟩
   · have e:vs 1=.int .i64 d:=hd0 1 rfl;clear hd0;rw[e];go_wp2;exact⟨Below.refl _ _,rfl⟩
   · have e:vs 0=.func (.func 261) #[v2] #[]:=hd0 0 rfl;have e':vs 2=.int .i64 ((d+1:Nat):Int):=hd0 2 rfl;clear hd0;rw [e,e'];have hC:=yP b (d+1) v2 w1 E5 (by omega) (by omega);go_wp2_with fail;refine hC.mono ?_;clear hC;rintro _ w9 ⟨v9,rfl,kT,aX⟩;go_wp2;exact kT
   · clear hd0;go_wp2;exact⟨Below.refl _ _,rfl⟩
   · have e:aA w1 (b*(d+1)) (vs 3):=hd0 3 rfl;have e':vs 4=v5:=hd0 4 rfl;clear hd0;rw [e'];have hC:=iG (b*(d+1)) r (vs 3) v5 w1 e hN5 (by omega) (by omega);go_wp2_with fail;refine hC.mono ?_;clear hC;rintro _ w9 ⟨rfl,aX⟩;go_wp2;rfl
   · have e:vs 5=.int .i64 (Ig.eH (b*(d+1)) r):=hd0 5 rfl;clear hd0;rw[e];go_wp2;exact ⟨Below.refl _ _,rfl⟩
   · have e:vs 6=.bool (decide (r<b*(d+1))):=hd0 6 rfl;clear hd0;rw[e];go_wp2;exact⟨Below.refl _ _,rfl⟩
 · intro vs wa hba hR;simp only[bV,ak]at hR;obtain ⟨-,-,-,-,-,-,-,e7,-⟩:=hR;simp only[List.drop,List.take,List.map,aN,Act.put,List.setIfInBounds_toArray,List.set_cons_succ,List.set_cons_zero,Nat.reduceAdd];rw [e7];go_wp2;go_ret;exact ⟨rfl,hba⟩
def Pz:Value->Nat
 | .int _ x=>x.toNat
 | _=>0
theorem CY (q:Nat) (g8 g5:Nat) (w:World) (hq:q<=9999)
 (hf:∀(W:World) (d:Nat),Below w.heap.size w W->d<9999->bP 262 #[.int .i64 d,.pointer (some ⟨g8,0,none⟩),.pointer (some ⟨g5,0,none⟩)] W (.bool (decide (q<=d)))) :
 bP 263 #[.int .i64 9999,.func (.func 262) #[] #[.pointer (some ⟨g8,0,none⟩),.pointer (some ⟨g5,0,none⟩)]] w (.int .i64 q):=by
 go_enter Tryz.func263,Tryz.ntmps263
 go_wp2
 go_loopw [5,6,7] (fun s5 s6 s7 wr=>∃(i j:Nat),s5=.int .i64 i/\s6=.int .i64 j/\i<=q/\q<=j/\j<=9999/\Below w.heap.size w wr) (fun s5 s6 s7 wr=>Pz s6-Pz s5)
 case atStart=>exact⟨0,9999,rfl,rfl,Nat.zero_le _,hq,Nat.le_refl _,Below.refl _ _⟩
 case round =>
  obtain⟨i,j,rfl,rfl,hi,hj,hj9,hb⟩:=hrel;by_cases h:i<j
  · have t0:decide ((i:Int)<(j:Int))=true:=by simp;omega
    have hC:=hf wr ((i+j) / 2) hb (by omega);have hm1:i<=(i+j) / 2:=by omega
    have hm2:(i+j) / 2<j:=by omega
    go_wp2_with fail;have em:((i:Int)+(j:Int)) / 2=(((i+j) / 2:Nat):Int):=by omega
    simp only[em];generalize (i+j) / 2=m at *;clear em;by_cases hqm:q<=m
    · have t1:decide (q<=m)=true:=by simp;omega
      rw[t1]at hC;refine hC.mono ?_;clear hC;rintro _ w9 ⟨rfl,aX⟩;go_wp2;exact ⟨⟨i,m,rfl,rfl,by omega,by omega,by omega,ah hb aX⟩,by simp only[Pz];omega⟩
    · have t1:decide (q<=m)=false:=by simp;omega
      rw[t1]at hC;refine hC.mono ?_;clear hC;rintro _ w9 ⟨rfl,aX⟩;go_wp2;exact ⟨⟨m+1,j,by go_num,rfl,by omega,by omega,by omega,ah hb aX⟩,by simp only[Pz];omega⟩
  · have t0:decide ((i:Int)<(j:Int))=false:=by simp;omega
    obtain rfl:i=q:=by omega
    go_wp2;go_ret;exact ⟨rfl,hb⟩
theorem pJ:Ig.grp 1=[1]:=by
 rw[Ig.dO (by decide),show 1 / 10000=0 from rfl,Ig.aS];rfl
theorem one_any (w:World):Calls Tryz.prog 227 #[] w fun e w'=>∃v,e=.returned v/\aA w' 1 v/\Below w.heap.size w w':=by
 have hB:=Bx.mk w 3 #[.int .i64 1];have hb:=aG w (.cells #[.int .i64 1] 3)
 have hN:aA (w.alloc (.cells #[.int .i64 1] 3)) 1 (.slice (some ⟨w.heap.size,0,none⟩) 1 1):=by
  refine⟨some ⟨w.heap.size,0,none⟩,1,by rw[pJ];rfl,?_,by rw[pJ];decide,by decide⟩;rw [pJ];intro _;refine ⟨w.heap.size,0,rfl,hB.lt,fun i c hi j u hj=>?_⟩
  obtain rfl:i=0:=by
   rcases i with _|i;· rfl
   · simp at hi
  obtain rfl:c=1:=by simpa using hi.symm
  obtain rfl:j=0:=by
   rcases j with _|j;· rfl
   · simp[aV]at hj
  obtain rfl:u=.int .i64 1:=by simpa [aV] using hj.symm
  exact hB.cell 0 rfl
 go_enter Tryz.func227,Tryz.ntmps227
 go_wp2;go_ret;exact ⟨_,rfl,hN,hb⟩
theorem xF (s:List UInt8) (hs:s.length<=1000000) (w:World) :
 bP 97 #[.string ⟨s.toArray⟩] w (.bool (Ig.iQ s)):=by
 have hV:=lK s hs w
 go_enter Tryz.func97,Tryz.ntmps97
 go_wp2_with fail;refine hV.mono ?_;rintro _ w9 ⟨rfl,aX⟩;clear hV;go_wp2;go_ret;exact ⟨rfl,aX⟩
def dq (l:List Int) (b:Nat) (pre:List (Fin l.length)):Nat->Nat :=
 (pre.foldl (fun (st:Nat × (Nat->Nat)) t=>(st.1*10000+l[t.1].toNat,fun k=>if k=t.1 then (st.1*10000+l[t.1].toNat) / b % 10000 else st.2 k)) (0,fun _=>0)).2
theorem Us (l:List Int) (b:Nat) (pre:List (Fin l.length)):(pre.foldl (fun (st:Nat × (Nat->Nat)) t=>(st.1*10000+l[t.1].toNat,fun k=>if k=t.1 then (st.1*10000+l[t.1].toNat) / b % 10000 else st.2 k)) (0,fun _=>0)).1=hor l pre:=by
 have:∀(n:Nat) (pre:List (Fin l.length)),pre.length=n->(pre.foldl (fun (st:Nat × (Nat->Nat)) t=>(st.1*10000+l[t.1].toNat,fun k=>if k=t.1 then (st.1*10000+l[t.1].toNat) / b % 10000 else st.2 k)) (0,fun _=>0)).1=hor l pre:=by
  intro n
  induction n with
  | zero=>intro pre h;rw[List.length_eq_zero_iff.1 h];rfl
  | succ n ih =>
   intro pre h
   rcases List.eq_nil_or_concat pre with h0|⟨m,t,h0⟩
   · rw[h0];rfl
   · obtain rfl:pre=m++[t]:=by simpa using h0
     rw[jO,←ih m (by simpa using h),List.foldl_append];rfl
 exact this _ _ rfl
theorem MP (l:List Int) (b k:Nat):dq l b [] k=0:=rfl
theorem yL (l:List Int) (b:Nat) (pre:List (Fin l.length)) (t:Fin l.length) (k:Nat):dq l b (pre++[t]) k=if k=t.1 then hor l (pre++[t]) / b % 10000 else dq l b pre k:=by
 rw[jO,←Us l b pre]
 unfold dq
 rw[List.foldl_append];rfl
theorem Fh {l:List Int} (hl:Ig.Gr l) (b:Nat):∀k,k<=l.length->∀t,l.length-k<=t->t<l.length->dq l b ((bW l.length).take k) t=(Ig.from_ l t).toNat / b % 10000
 | 0,_,t,h1,h2=>by omega
 | k+1,hk,t,h1,h2=>by
  have hs:=g_ (n:=l.length) (t:=l.length-(k+1)) (by omega);rw [show l.length-(l.length-(k+1))=k+1 by omega,show l.length-(l.length-(k+1)+1)=k by omega]at hs;rw [hs,yL,←hs];by_cases h:t=l.length-(k+1)
  · rw[if_pos (by simpa using h),h,←uh l hl (k+1) hk,Int.toNat_natCast]
  · rw[if_neg (by simpa using h)];exact Fh hl b k (by omega) t (by omega) h2
theorem Fj {l:List Int} (hl:Ig.Gr l) {b:Nat} (hb:0<b):∀k,k<=l.length->Ig.aK (((List.range l.length).map fun t=>((dq l b (bW l.length) t:Nat):Int)).drop (l.length-k))=(((Ig.from_ l (l.length-k)).toNat / b:Nat):Int)
 | 0,_=>by
  rw[Nat.sub_zero,Ig.lU (Nat.le_refl _),List.drop_eq_nil_of_le (by simp)];simp [Ig.aK]
 | k+1,hk=>by
  have ih:=Fj hl hb k (by omega);have ht:l.length-(k+1)<l.length:=by omega
  have hd:=Fh hl b l.length (Nat.le_refl _) (l.length-(k+1)) (by omega) ht;rw [List.take_of_length_le (by rw[gu];omega)]at hd;rw [List.drop_eq_getElem_cons (by simp;omega),show l.length-(k+1)+1=l.length-k by omega];simp only[List.getElem_map,List.getElem_range];rw [hd]
  show _+10000*Ig.aK _=_
  rw[ih];have h1:=Ig.iO ht;rw [show l.length-(k+1)+1=l.length-k by omega]at h1;have h2:=Ig.lT hl (l.length-k);have h3:=hl l[l.length-(k+1)] (List.getElem_mem ht);generalize Ig.from_ l (l.length-k)=F at *;generalize Ig.from_ l (l.length-(k+1))=G at *;generalize l[l.length-(k+1)]=g at *;obtain ⟨F,rfl⟩:=Int.eq_ofNat_of_zero_le h2;obtain ⟨g,rfl⟩:=Int.eq_ofNat_of_zero_le h3.1;obtain rfl:G=((g+10000*F:Nat):Int):=by omega
  rw[Int.toNat_natCast]
  have h4:(g+10000*F) / b / 10000=F / b:=by
   rw[Nat.div_div_eq_div_mul,Nat.mul_comm b 10000,←Nat.div_div_eq_div_mul]
   congr 1
   omega
  have h5:(Int.toNat (Int.ofNat F))=F:=rfl;have h6:=Nat.mod_add_div ((g+10000*F) / b) 10000;rw [h4]at h6;first|(rw [h5];omega)|(simp only[Int.toNat_natCast];omega)
def iV (l:List Int) (b:Nat) (pre:List (Fin l.length)):Array Value:=((List.range l.length).map fun t=>Value.int .i64 ((dq l b pre t:Nat):Int)).toArray
theorem Dh (l:List Int) (b:Nat) (pre:List (Fin l.length)) (x:Fin l.length):(iV l b pre).setIfInBounds x.1 (.int .i64 ((hor l (pre++[x]) / b % 10000:Nat):Int))=iV l b (pre++[x]):=by
 have h:((List.range l.length).map fun t=>Value.int .i64 ((dq l b pre t:Nat):Int)).set x.1 (.int .i64 ((hor l (pre++[x]) / b % 10000:Nat):Int))=(List.range l.length).map fun t=>Value.int .i64 ((dq l b (pre++[x]) t:Nat):Int):=by
  apply List.ext_getElem (by simp)
  intro i h1 h2;rw [List.getElem_set,List.getElem_map,List.getElem_map,List.getElem_range,yL];by_cases h:x.1=i
  · rw[if_pos h,if_pos h.symm]
  · rw[if_neg h,if_neg (fun e=>h e.symm)]
 unfold iV
 rw[List.setIfInBounds_toArray,h]
theorem Di (l:List Int) (b:Nat):madeCells #[.int .i64 0] l.length=iV l b []:=by
 apply Array.ext (by simp[madeCells,iV])
 intro i h1 h2;simp [madeCells,iV,MP,Nat.mod_one]
structure BJ (w:World) (a b:Nat) (v2:Value) (pre:List (Fin (Ig.grp a).length)) (W:World):Prop where
 hb:Below w.heap.size w W
 le:w.heap.size+5<=W.heap.size
 B3:Bx W w.heap.size 297 #[v2]
 Bq:Bx W (w.heap.size+1) 297 #[.slice (some ⟨w.heap.size+1+1+1,0,none⟩) (Ig.grp a).length (Ig.grp a).length]
 Br:∃v,Bx W (w.heap.size+1+1) 297 #[v]/\aA W (hor (Ig.grp a) pre % b) v
 Bc:Bx W (w.heap.size+1+1+1) 3 (iV (Ig.grp a) b pre)
theorem BJ.kept {w W W':World} {a b:Nat} {v2:Value} {pre:List (Fin (Ig.grp a).length)} {row:Option Nat} (h:BJ w a b v2 pre W) (hg:W.grownBy W' row) (hr:∀r,row=some r->w.heap.size<=r/\∃o:Obj,W.heap[r]? = some o/\o.isCells=false):BJ w a b v2 pre W':=by
 obtain⟨v,h1,h2⟩:=h.Br;exact ⟨h.hb.grown hg h.hb.size (fun k e=>(hr k e).1),Nat.le_trans h.le hg.size,dM h.B3 hg (fun r e=>(hr r e).2),dM h.Bq hg (fun r e=>(hr r e).2),⟨v,dM h1 hg (fun r e=>(hr r e).2),lF h2 hg (fun r e=>(hr r e).2)⟩,dM h.Bc hg (fun r e=>(hr r e).2)⟩
attribute [local go_sem] Oper.semAt_some
theorem Zt:∃i,Tryz.prog.info? 3=some i/\i.zero=some (.int .i64 0)/\i.size=1/\i.bytes=8:=by
 have h:(Tryz.prog.info? 3).map (fun i=>(i.size,i.bytes,i.zero))=some (1,8,some (.int .i64 0)):=by kernel_rfl
 cases hi:Tryz.prog.info? 3 with
 | none=>rw[hi]at h;cases h
 | some i =>
  rw[hi]at h;simp only[Option.map_some,Option.some.injEq,Prod.mk.injEq]at h;exact ⟨i,rfl,h.2.2,h.1,h.2.1⟩
theorem Gy (n:Nat) (hn:n<=1000000) (w:World):(Instr.makeSlice 297 (.int .i64 n) (.int .i64 n)).run Tryz.prog w=.ok (.slice (some ⟨w.heap.size,0,none⟩) n n) (w.alloc (.cells (madeCells #[.int .i64 0] n) 3)):=by
 obtain⟨i,h1,h2,h3,h4⟩:=Zt;have h:=run_make (P:=Tryz.prog) w 297 3 i (.int .i64 0) Tryz.underlying297 h1 h2 .i64 .i64 n n (by omega) (by omega) (by rw[h4];omega) (by omega);rw [h3,Nat.mul_one,Int.toNat_natCast]at h;exact h
theorem P7 {r d:Nat} (hd:d<10000):Ig.Gr ((d:Int) :: Ig.grp r):=fun g hg=>by
 rcases List.mem_cons.1 hg with h|h
 · subst h;omega
 · exact Ig.dB r g h
theorem FV {r d:Nat} (hd:d<10000):Ig.bg ((d:Int) :: Ig.grp r)=Ig.grp (d+10000*r):=by
 rw[Ig.iT (P7 hd)]
 have h:Ig.aK ((d:Int) :: Ig.grp r)=((d+10000*r:Nat):Int):=by
  show (d:Int)+10000*Ig.aK (Ig.grp r)=_
  rw[Ig.bZ];omega
 rw[h,Int.toNat_natCast]
theorem yF {r d m:Nat} (hd:d<10000) (h:(Ig.grp r).length<=m):(Ig.grp (d+10000*r)).length<=m+1:=by
 refine Ig.iw ?_;have h1:=Nat.lt_of_lt_of_le (Ig.jd r) (Nat.pow_le_pow_right (show 0<10000 by decide) h);rw [Nat.pow_succ];generalize 10000 ^ m=p at *;omega
theorem yR {W:World} {g o B:Nat} {A:Option Addr} {p:List Int} (h:At 1 aV W B A p) (hne:∀b off,A=some ⟨b,off,none⟩->b≠g) (u:Value):At 1 aV (W.setCell ⟨g,o,none⟩ u) B A p:=fun h0=>by
 obtain⟨b,off,e,hb,hc⟩:=h h0;exact ⟨b,off,e,hb,fun i c hi j v hj=>(jg (Below.heap_setCell W ⟨g,o,none⟩ u b (hne b off e))).trans (hc i c hi j v hj)⟩
theorem O7 {W:World} {g o a n c b off:Nat} (h:aA W a (.slice (some ⟨b,off,none⟩) n c)) (hne:b≠g) (u:Value):aA (W.setCell ⟨g,o,none⟩ u) a (.slice (some ⟨b,off,none⟩) n c):=by
 obtain⟨A',cap,h1,h2,h3,h4⟩:=h.out;simp only[Value.slice.injEq]at h1;obtain ⟨rfl,rfl,rfl⟩:=h1;exact ⟨_,_,rfl,(yR h2 (fun b' off' e=>by simp only[Option.some.injEq,Addr.mk.injEq]at e;omega) u).more (KeepsOthers.setCell W _ u).size,h3,h4⟩
def DZ (l:List Int) (b:Nat) (pre:List (Fin l.length)):List Int:=(List.range l.length).map fun t=>((dq l b pre t:Nat):Int)
theorem MS (l:List Int) (b:Nat) (pre:List (Fin l.length)):(DZ l b pre).length=l.length:=by simp[DZ]
theorem Gm {W:World} {g b:Nat} {l:List Int} {pre:List (Fin l.length)} (h:Bx W g 3 (iV l b pre)):At 1 aV W W.heap.size (some ⟨g,0,none⟩) (DZ l b pre):=fun _=>by
 refine⟨g,0,rfl,h.lt,fun i c hi j u hj=>?_⟩
 obtain rfl:j=0:=by
  rcases j with _|j;· rfl
  · simp[aV]at hj
 obtain rfl:u=.int .i64 c:=by simpa [aV] using hj.symm
 rw[Nat.zero_add,Nat.mul_one,Nat.add_zero];refine h.cell i ?_
 unfold DZ at hi
 unfold iV
 rw[List.getElem?_map]at hi;rw [List.getElem?_toArray,List.getElem?_map]
 cases hr:(List.range l.length)[i]? with
 | none=>rw[hr]at hi;cases hi
 | some t=>rw[hr]at hi;simp only[Option.map_some,Option.some.injEq]at hi ⊢;rw[hi]
theorem Rz (l:List Int) (b:Nat):∀(n:Nat) (pre:List (Fin l.length)),pre.length=n->∀t,dq l b pre t<10000
 | 0,pre,h,t=>by rw[List.length_eq_zero_iff.1 h,MP];decide
 | n+1,pre,h,t=>by
  rcases List.eq_nil_or_concat pre with h0|⟨m,x,h0⟩
  · rw[h0]at h;simp at h
  · obtain rfl:pre=m++[x]:=by simpa using h0
    rw[yL]
    split
    · exact Nat.mod_lt _ (by decide)
    · exact Rz l b n m (by simpa using h) t
theorem HY (a:Nat) {b:Nat} (hb:0<b):Ig.bg (DZ (Ig.grp a) b (bW (Ig.grp a).length))=Ig.grp (a / b):=by
 rw[Ig.iT (fun g hg=>by
  obtain⟨t,_,rfl⟩:=List.mem_map.1 hg;have:=Rz (Ig.grp a) b _ (bW (Ig.grp a).length) rfl t
  omega)]
 have h:=Fj (Ig.dB a) hb (Ig.grp a).length (Nat.le_refl _);rw [Nat.sub_self,List.drop_zero,Ig.jT,Ig.bZ,Int.toNat_natCast]at h
 unfold DZ
 rw[h,Int.toNat_natCast]
theorem tq {fn:Func} {t u:Tmp} {g g':Nat} {A A':Option Addr} {n n' c c':Nat} (h:fn.results=#[.cell t 297,.cell u 297]) (tmps:Array Value) (w:World) (ht:tmps.getD t undef=.pointer (some ⟨g,0,none⟩)) (hu:tmps.getD u undef=.pointer (some ⟨g',0,none⟩))
 (hB:Bx w g 297 #[.slice A n c]) (hB':Bx w g' 297 #[.slice A' n' c']) :
 (results fn tmps).run Tryz.prog w=.ok (.tuple #[.slice A n c,.slice A' n' c']) w:=by
 have h0:=hB.cell 0 rfl;have h0':=hB'.cell 0 rfl;have ht':tmps[t]?.getD undef=.pointer (some ⟨g,0,none⟩):=by simpa using ht
 have hu':tmps[u]?.getD undef=.pointer (some ⟨g',0,none⟩):=by simpa using hu
 simp only[results,h];simp [go_sem,ht',hu',h0,h0',loadVar]
theorem zL (a b:Nat) (v1 v2:Value) (w:World) (h1:aA w a v1) (h2:aA w b v2) (hb0:0<b) (la:(Ig.grp a).length<=20000) (lb:(Ig.grp b).length<=15000) :
 Calls Tryz.prog 218 #[v1,v2] w fun e w'=>∃q r,e=.returned (.tuple #[q,r])/\aA w' (a / b) q/\aA w' (a % b) r/\Below w.heap.size w w':=by
 obtain⟨A1,c1,rfl,hA1,hn1,hm1⟩:=h1.out;obtain ⟨A2,c2,rfl,hA2,hn2,hm2⟩:=h2.out;have kT:(Ig.grp a).length<=20000:=la;refine (callsIn_wide (n:=3)).1 ?_;refine callsIn_of_wp_marks Tryz.func218 rfl trivial ?_ rfl;simp only[Tryz.ntmps218,List.size_toArray,List.length_cons,List.length_nil,Nat.reduceAdd,Nat.reduceSub,Array.replicate_succ,Array.replicate_zero,List.push_toArray,List.append_toArray,List.nil_append,List.cons_append];have hmk:=Gy (Ig.grp a).length (by omega)
 gi_wp2_with (refine ⟨trivial,?_⟩;gi_at_call 258;refine (su Fence.wide 2 trivial rfl _ _ _ _).mono ?_;rintro e w' ⟨rfl,rfl⟩)
 obtain⟨W1,hW1⟩:∃W1,W1=w.alloc (.cells #[.slice A2 (Ig.grp b).length c2] 297):=⟨_,rfl⟩
 obtain⟨W2,hW2⟩:∃W2,W2=W1.alloc (.cells #[.slice (some ⟨w.heap.size+1+1+1,0,none⟩) (Ig.grp a).length (Ig.grp a).length] 297):=⟨_,rfl⟩
 obtain⟨W3,hW3⟩:∃W3,W3=W2.alloc (.cells #[.slice none 0 0] 297):=⟨_,rfl⟩
 obtain⟨W4,Q_⟩:∃W4,W4=W3.alloc (.cells (madeCells #[.int .i64 0] (Ig.grp a).length) 3):=⟨_,rfl⟩
 obtain⟨W0,hW0⟩:∃W0,W0=W4.alloc (.cells #[.slice A1 (Ig.grp a).length c1] 297):=⟨_,rfl⟩
 rw[←hW1,←hW2,←hW3,←Q_,←hW0];have s1:W1.heap.size=w.heap.size+1:=by rw[hW1,aj]
 have s2:W2.heap.size=w.heap.size+1+1:=by rw[hW2,aj,s1]
 have s3:W3.heap.size=w.heap.size+1+1+1:=by rw[hW3,aj,s2]
 have s4:W4.heap.size=w.heap.size+1+1+1+1:=by rw[Q_,aj,s3]
 have hsz:W0.heap.size=w.heap.size+5:=by rw[hW0,aj,s4]
 have hb5:Below w.heap.size w W0:=by rw[hW0,Q_,hW3,hW2,hW1];exact bNew (bNew (bNew (bNew (aG w _) _) _) _) _
 have b1:=Bx.mk w 297 #[.slice A2 (Ig.grp b).length c2];have b2:=Bx.mk W1 297 #[.slice (some ⟨w.heap.size+1+1+1,0,none⟩) (Ig.grp a).length (Ig.grp a).length];have b3:=Bx.mk W2 297 #[.slice none 0 0];have b4:=Bx.mk W3 3 (madeCells #[.int .i64 0] (Ig.grp a).length);have B7:=Bx.mk W4 297 #[.slice A1 (Ig.grp a).length c1];rw [←hW1]at b1;rw [←hW2,s1]at b2;rw [←hW3,s2]at b3;rw [←Q_,s3,Di (Ig.grp a) b]at b4;rw [←hW0,s4]at B7;have b4':=b4.new (.cells #[.slice A1 (Ig.grp a).length c1] 297);have b3':=(b3.new (.cells (madeCells #[.int .i64 0] (Ig.grp a).length) 3)).new (.cells #[.slice A1 (Ig.grp a).length c1] 297);have b2':=((b2.new (.cells #[.slice none 0 0] 297)).new (.cells (madeCells #[.int .i64 0] (Ig.grp a).length) 3)).new (.cells #[.slice A1 (Ig.grp a).length c1] 297);have b1':=(((b1.new (.cells #[.slice (some ⟨w.heap.size+1+1+1,0,none⟩) (Ig.grp a).length (Ig.grp a).length] 297)).new (.cells #[.slice none 0 0] 297)).new (.cells (madeCells #[.int .i64 0] (Ig.grp a).length) 3)).new (.cells #[.slice A1 (Ig.grp a).length c1] 297);rw [←hW0]at b4';rw [←Q_,←hW0]at b3';rw [←hW3,←Q_,←hW0]at b2';rw [←hW2,←hW3,←Q_,←hW0]at b1';have hI0:BJ w a b (.slice A2 (Ig.grp b).length c2) [] W0:=⟨hb5,by omega,b1',b2',⟨_,b3',⟨none,0,by simp[hor,Ig.aS],by simp only[hor,List.foldl_nil,Nat.zero_mod,Ig.aS];exact At.nil,by simp[hor,Ig.aS],Nat.zero_le _⟩⟩,b4'⟩
 clear b1 b2 b3 b4 b1' b2' b3' b4' hW0 hW1 hW2 hW3 Q_ hmk s1 s2 s3 s4 hb5
 refine wpIn_rangeFunc_ownG rfl (by decide) (gf:=289) (lb:=#[.pointer (some ⟨w.heap.size+1+1+1+1,0,none⟩)]) rfl trivial (enters_of Tryz.func289 (by kernel_rfl) rfl)
  (kR Fence.wide 2 trivial rfl (by decide) (w.heap.size+1+1+1+1) w.heap.size A1 c1 (Ig.grp a) (by omega) W0 (by omega) (by omega) (B7.cell 0 rfl) (hA1.below hI0.hb)) qj.trans (EO (by omega) (by omega)) (Below.refl _ _) (fun _=>rfl)
  (fun pre W=>BJ w a b (.slice A2 (Ig.grp b).length c2) pre W) (fun _ _ _=>False)
  (fun pre W W' row hs hg hr=>hs.kept hg (fun r e=>⟨by have:=(hr r e).1;omega,(hr r e).2⟩))
  (fun _ _ _ _ _ hs _ _=>hs)
  hI0
  (fun x=>{ tmps:=#[.slice A1 (Ig.grp a).length c1,.slice A2 (Ig.grp b).length c2,undef,.pointer (some ⟨w.heap.size,0,none⟩),.pointer (some ⟨w.heap.size+1,0,none⟩),.pointer (some ⟨w.heap.size+1+1,0,none⟩),.int .i64 (x.1:Int),.int .i64 (Ig.grp a)[x.1],undef,undef,.slice A1 (Ig.grp a).length c1,.int .i64 ((Ig.grp a).length:Int),.slice (some ⟨w.heap.size+1+1+1,0,none⟩) (Ig.grp a).length (Ig.grp a).length,
   .slice A1 (Ig.grp a).length c1,.func (.func 289) #[] #[.pointer (some ⟨w.heap.size+1+1+1+1,0,none⟩)],.int .i64 (x.1:Int),.int .i64 (Ig.grp a)[x.1],undef,undef,undef,undef,undef,undef,undef,undef,undef,undef,undef,undef,undef,undef,undef,undef,undef,undef,undef,undef,undef,undef,undef,undef],defers:=[] }) ?assign ?body ?done ?stop
 case assign =>
  intro l x W K hK;simp only[handed]
  gi_wp2
  exact hK
 case body =>
  rintro l pre x W ⟨hb,hle,B3,Bq,⟨v,Br,U_⟩,Bc⟩ hlt;have hgx:=Ig.dB a (Ig.grp a)[x.1] (List.getElem_mem x.2);obtain ⟨d,hd⟩:=Int.eq_ofNat_of_zero_le hgx.1;have hd9:d<10000:=by omega
  have hsn:Kp (hor (Ig.grp a) (pre++[x])=hor (Ig.grp a) pre*10000+d):=⟨by rw[jO,hd,Int.toNat_natCast]⟩
  simp only[hd];generalize hor (Ig.grp a) pre=y at *;obtain ⟨A5,c5,rfl,N8,Wv,TD⟩:=U_.out;have hyl:(Ig.grp (y % b)).length<=15000:=Nat.le_trans (Ig.iw (Nat.lt_of_lt_of_le (Nat.mod_lt y hb0) (Nat.le_of_lt (Ig.jd b)))) lb;have YB:=Br.new (.cells #[.int .i64 d] 3);have hcell1:=YB.cell 0 rfl;have hP:Src Tryz.prog 1 297 (.slice A5 (Ig.grp (y % b)).length c5) (Ig.grp (y % b)).length ((Ig.grp (y % b)).flatMap aV) (W.alloc (.cells #[.int .i64 d] 3)):=At.src (f:=aV) (size:=1) (e:=3) (fun _=>rfl) (fun c u hu=>by simp[aV]at hu;subst hu;rfl) Tryz.underlying297 (N8.below (aG W _)) c5
  gi_wp2_with (gi_at_builtin;refine fQ _ _ _ (by kernel_rfl) ?_;refine aB rfl (.tmp 18) (.tmp 19) rfl W.heap.size 1 1 (Ig.grp (y % b)).length [.int .i64 d] ((Ig.grp (y % b)).flatMap aV) _ _ rfl rfl ⟨W.heap.size,_,rfl,Nat.le_refl _,Nat.le_refl _,Bx.mk _ _ _,rfl,rfl⟩ (by rw[aj];omega) hP (by decide) (by omega) ?_;intro v' w' cap' e1 e2 e3 e4)
  have hb7:=(aG W (.cells #[.int .i64 d] 3)).trans ((e2 trivial).mono (by rw[aj];omega));have hlen:1+(Ig.grp (y % b)).length=((d:Int) :: Ig.grp (y % b)).length:=by rw[List.length_cons];omega
  have hfl:[Value.int .i64 d]++(Ig.grp (y % b)).flatMap aV=((d:Int) :: Ig.grp (y % b)).flatMap aV:=rfl;rw [hlen,hfl]at e3;obtain ⟨g6,hv6,hg6⟩:∃g6,v'=.slice (some ⟨g6,0,none⟩) ((d:Int) :: Ig.grp (y % b)).length cap'/\W.heap.size<=g6:=by obtain⟨g7,_,h,h7,_⟩:=e3;exact⟨g7,h,h7⟩
  obtain⟨A6,PK,Vg,hcap6⟩:=dI.at (f:=aV) (size:=1) (fun _=>rfl) e3;obtain rfl:A6=some ⟨g6,0,none⟩:=by rw[hv6]at PK;simp only[Value.slice.injEq]at PK;exact PK.1.symm
  subst hv6;clear PK;have hT:=fU ((d:Int) :: Ig.grp (y % b)) (some ⟨g6,0,none⟩) cap' w' Vg hcap6 (by rw[←hlen];omega);have Ym:=Br.call hb7;have TS:=Ym.cell 0 rfl;have TN:=Ym.frozen 0;clear hlen hfl hP hcell1 YB e1 e2;have Rh:aA w' (d+10000*(y % b)) (.slice (some ⟨g6,0,none⟩) (Ig.bg ((d:Int) :: Ig.grp (y % b))).length cap'):=qB Vg hcap6 e4 ⟨FV hd9⟩;generalize (Ig.bg ((d:Int) :: Ig.grp (y % b))).length=n6 at *
  go_wp2_with (go_at_call 260;refine hT.mono ?_;rintro e w9 ⟨rfl,rfl⟩)
  have hb8:=aQ (ah hb hb7) (p:=⟨w.heap.size+1+1,0,none⟩) (by show w.heap.size<=w.heap.size+1+1;omega) (.slice (some ⟨g6,0,none⟩) n6 cap');have Oj:=(B3.call hb7).far (p:=⟨w.heap.size+1+1,0,none⟩) (by simp;omega) (.slice (some ⟨g6,0,none⟩) n6 cap');have IC:=(Bq.call hb7).far (p:=⟨w.heap.size+1+1,0,none⟩) (by simp) (.slice (some ⟨g6,0,none⟩) n6 cap');have Ez:=(Bc.call hb7).far (p:=⟨w.heap.size+1+1,0,none⟩) (by simp) (.slice (some ⟨g6,0,none⟩) n6 cap');have Ey:Bx (w'.setCell ⟨w.heap.size+1+1,0,none⟩ (.slice (some ⟨g6,0,none⟩) n6 cap')) (w.heap.size+1+1) 297 #[.slice (some ⟨g6,0,none⟩) n6 cap']:=Ym.set 0 _;have PY:=ig Ym Rh (.slice (some ⟨g6,0,none⟩) n6 cap');have WM:=(dL hb7 W0.heap.size).trans ((KeepsOthers.setCell w' ⟨w.heap.size+1+1,0,none⟩ (.slice (some ⟨g6,0,none⟩) n6 cap')).from W0.heap.size);have TJ:qj w.heap.size (w.heap.size+1+1+1+1) W (w'.setCell ⟨w.heap.size+1+1,0,none⟩ (.slice (some ⟨g6,0,none⟩) n6 cap')):=qj.trans ⟨hb7.mono (by omega),hb7.block _ (by omega)⟩ ⟨(Below.refl _ _).setCell (by show w.heap.size<=w.heap.size+1+1;omega) _,Below.heap_setCell _ _ _ _ (by simp;omega)⟩;clear hT TS TN Ym hb7 Rh Vg hcap6 e3 e4;generalize w'.setCell ⟨w.heap.size+1+1,0,none⟩ (.slice (some ⟨g6,0,none⟩) n6 cap')=W8 at *;have hst:=Ig.uD (R:=y) hb0 hd9;have V7:Kp (hor (Ig.grp a) (pre++[x]) / b % 10000=(d+10000*(y % b)) / b):=⟨by rw[hsn.out,show y*10000+d=d+10000*y by omega,hst.2.1,Nat.add_mul_mod_self_left,Nat.mod_eq_of_lt hst.1]⟩
  have Zy:Kp (hor (Ig.grp a) (pre++[x]) % b=(d+10000*(y % b))-b*((d+10000*(y % b)) / b)):=⟨by rw[hsn.out,show y*10000+d=d+10000*y by omega,hst.2.2];exact Nat.mod_eq_sub_mul_div⟩
  have Wh:b*((d+10000*(y % b)) / b)<=d+10000*(y % b):=Nat.mul_div_le _ _;have hq9:(d+10000*(y % b)) / b<=9999:=by have:=hst.1;omega
  have hRl:(Ig.grp (d+10000*(y % b))).length<=15000+1:=yF hd9 hyl;have hdf:=fun e=>Ig.xk (R:=d+10000*(y % b)) (d:=e) hb0
  clear hst hsn hyl;generalize d+10000*(y % b)=R at *;generalize R / b=q at *;have hbN:aA W8 b (.slice A2 (Ig.grp b).length c2):=⟨A2,c2,rfl,(hA2.below hb8).more hb8.size,hn2,hm2⟩
  have hs8:w.heap.size+1+1+1+1<W8.heap.size:=Nat.lt_of_lt_of_le (by omega) TJ.1.size;obtain ⟨W9,YO⟩:∃W9,W9=W8.alloc (.cells #[.func (.func 261) #[.slice A2 (Ig.grp b).length c2] #[]] 347):=⟨_,rfl⟩
  have hbn:=aG W8 (.cells #[.func (.func 261) #[.slice A2 (Ig.grp b).length c2] #[]] 347);have R_:=Bx.mk W8 347 #[.func (.func 261) #[.slice A2 (Ig.grp b).length c2] #[]];rw [←YO]at hbn R_;have k3:=Oj.cell 0 rfl
  gi_wp2
  rw[←YO];have aX:=ah hb8 hbn;have PO:=WM.trans (dL hbn W0.heap.size);have PN:qj w.heap.size (w.heap.size+1+1+1+1) W W9:=qj.trans TJ ⟨hbn.mono (by omega),hbn.block _ hs8⟩;replace Oj:=Oj.call hbn;replace IC:=IC.call hbn;replace Ey:=Ey.call hbn;replace Ez:=Ez.call hbn;replace PY:=PY.call hbn;replace hbN:=hbN.call hbn;have h98:W8.heap.size<W9.heap.size:=by rw[YO,aj];omega
  clear hb8 WM TJ k3 hbn YO;generalize W8.heap.size=g8 at *;have hl3:∀e,e<10000->(Ig.grp (b*(e+1))).length<=90000:=fun e he=>Nat.le_trans (jC (n:=2) lb (Nat.lt_of_lt_of_le (show e+1<10002 by omega) (by decide))) (by omega)
  have hf:=fun (W':World) (e:Nat) (hW:Below W9.heap.size W9 W') (he:e<9999)=>Gq b R e (.slice A2 (Ig.grp b).length c2) (.slice (some ⟨g6,0,none⟩) n6 cap') g8 (w.heap.size+1+1) W' (R_.call hW) (Ey.call hW) (hbN.call hW) (PY.call hW) (by omega) (by omega) (by omega) (hl3 e (by omega))
  have Q9:∀e,decide (R<b*(e+1))=decide (q<=e):=fun e=>by
   have:=hdf e
   rcases Nat.lt_or_ge e q with h|h
   · rw[decide_eq_false (by omega),decide_eq_false (by omega)]
   · rw[decide_eq_true (by omega),decide_eq_true (by omega)]
  simp only[Q9]at hf;clear hl3 hdf Q9;obtain ⟨v6,hv6⟩:∃v6,v6=Value.slice (some ⟨g6,0,none⟩) n6 cap':=⟨_,rfl⟩
  have VW:x.1<(iV (Ig.grp a) b pre).size:=by simp[iV]
  have hxn:=x.2;have cq:=fun w1 (hb1:Below W9.heap.size W9 w1)=>(hb1.cell (p:=⟨w.heap.size+1,0,none⟩) IC.lt).trans (IC.cell 0 rfl)
  refine fG [ak (.slice (some ⟨w.heap.size+1+1+1,0,none⟩) (Ig.grp a).length (Ig.grp a).length),ak (.int .i64 (x.1:Int)),ak (.func (.func 262) #[] #[.pointer (some ⟨g8,0,none⟩),.pointer (some ⟨w.heap.size+1+1,0,none⟩)]),ak (.int .i64 (q:Int)),ak (.pointer (some ⟨w.heap.size+1+1+1,x.1,none⟩))] 5 41 (by kernel_rfl) (by kernel_rfl) rfl rfl (by kernel_rfl) ?_ ?_ ?_
  · simp only[aY]
    and_intros <;> first|exact aI _|trivial
  · simp only[Users,List.take,List.length];refine ⟨?_,?_,?_,?_,?_,trivial⟩;all_goals (intro vs w1 hb1 hd;have c3:=cq w1 hb1;clear cq;simp only[aN,Act.put,List.nil_append,List.cons_append,List.setIfInBounds_toArray,List.set_cons_succ,List.set_cons_zero,Nat.reduceAdd])
    · clear hd hf;go_wp2;exact⟨Below.refl _ _,rfl⟩
    · clear hd hf;go_wp2;exact⟨Below.refl _ _,rfl⟩
    · clear hd hf;go_wp2;exact⟨Below.refl _ _,rfl⟩
    · have h2:vs 2=.func (.func 262) #[] #[.pointer (some ⟨g8,0,none⟩),.pointer (some ⟨w.heap.size+1+1,0,none⟩)]:=hd 2 rfl;have hC:=CY q g8 (w.heap.size+1+1) w1 hq9 (fun W' e hW he=>hf W' e (ah hb1 hW) he);clear hd hf;rw [h2];go_wp2_with fail;refine hC.mono ?_;clear hC;rintro _ w9 ⟨rfl,aX⟩;go_wp2;rfl
    · have h0:vs 0=.slice (some ⟨w.heap.size+1+1+1,0,none⟩) (Ig.grp a).length (Ig.grp a).length:=hd 0 rfl;have h1:vs 1=.int .i64 (x.1:Int):=hd 1 rfl;clear hd hf;rw [h0,h1];go_wp2;exact ⟨Below.refl _ _,rfl⟩
  · clear cq hf;intro vs wa hba hR;simp only[bV,ak]at hR;obtain ⟨-,-,-,e3,e4,-⟩:=hR;simp only[List.drop,List.take,List.map,aN,Act.put,List.setIfInBounds_toArray,List.set_cons_succ,List.set_cons_zero,Nat.reduceAdd];rw [e3,e4];generalize vs 0=z0,vs 1=z1,vs 2=z2;clear e3 e4;replace Oj:=Oj.call hba;replace IC:=IC.call hba;replace Ey:=Ey.call hba;replace Ez:=Ez.call hba;replace R_:=R_.call hba;replace PY:=PY.call hba;replace hbN:=hbN.call hba;replace aX:=ah aX hba;replace PO:=PO.trans (dL hba W0.heap.size);replace PN:qj w.heap.size (w.heap.size+1+1+1+1) W wa:=PN.trans ⟨hba.mono (by have:=aX.size;omega),hba.block _ (by omega)⟩;have hce:=Ez.cell x.1 (Array.getElem?_eq_getElem VW);have hfr:=Ez.frozen x.1;go_wp2;have DR:=aQ aX (p:=⟨w.heap.size+1+1+1,x.1,none⟩) (by show w.heap.size<=w.heap.size+1+1+1;omega) (.int .i64 (q:Int));have WQ:=PO.trans ((KeepsOthers.setCell wa ⟨w.heap.size+1+1+1,x.1,none⟩ (.int .i64 (q:Int))).from W0.heap.size);have WJ:qj w.heap.size (w.heap.size+1+1+1+1) W (wa.setCell ⟨w.heap.size+1+1+1,x.1,none⟩ (.int .i64 (q:Int))):=PN.trans ⟨(Below.refl _ _).setCell (by show w.heap.size<=w.heap.size+1+1+1;omega) _,Below.heap_setCell _ _ _ _ (by simp)⟩;have h810:g8<(wa.setCell ⟨w.heap.size+1+1+1,x.1,none⟩ (.int .i64 (q:Int))).heap.size:=Nat.lt_of_lt_of_le (Nat.lt_of_lt_of_le h98 hba.size) (KeepsOthers.setCell wa _ _).size;replace Oj:=Oj.far (p:=⟨w.heap.size+1+1+1,x.1,none⟩) (by simp;omega) (.int .i64 (q:Int));replace IC:=IC.far (p:=⟨w.heap.size+1+1+1,x.1,none⟩) (by simp) (.int .i64 (q:Int));replace Ey:=Ey.far (p:=⟨w.heap.size+1+1+1,x.1,none⟩) (by simp) (.int .i64 (q:Int));replace R_:=R_.far (p:=⟨w.heap.size+1+1+1,x.1,none⟩) (by simp;omega) (.int .i64 (q:Int));replace Ez:=Ez.set x.1 (.int .i64 (q:Int));replace PY:=O7 (g:=w.heap.size+1+1+1) (o:=x.1) PY (by omega) (.int .i64 (q:Int));have Xn:aA (wa.setCell ⟨w.heap.size+1+1+1,x.1,none⟩ (.int .i64 (q:Int))) b (.slice A2 (Ig.grp b).length c2):=⟨A2,c2,rfl,(hA2.below DR).more DR.size,hn2,hm2⟩
    have hcx:=Ez.cell x.1 (v:=.int .i64 (q:Int)) (by rw[Array.getElem?_setIfInBounds_self_of_lt VW]);rw [←V7.out,Dh]at Ez;clear hbN aX PO PN hce hfr hba;rw [V7.out]at Ez;generalize wa.setCell ⟨w.heap.size+1+1+1,x.1,none⟩ (.int .i64 (q:Int))=RJ at *
    gi_wp2
    have hbl:(Ig.grp (b*q)).length<=15000+1:=Nat.le_trans (MC Wh) hRl;have cq:=fun w1 (hb1:Below RJ.heap.size RJ w1)=>(hb1.cell (p:=⟨w.heap.size+1,0,none⟩) IC.lt).trans (IC.cell 0 rfl)
    have cr:=fun w1 (hb1:Below RJ.heap.size RJ w1)=>(hb1.cell (p:=⟨w.heap.size+1+1,0,none⟩) Ey.lt).trans (Ey.cell 0 rfl)
    have c9:=fun w1 (hb1:Below RJ.heap.size RJ w1)=>(hb1.cell (p:=⟨g8,0,none⟩) R_.lt).trans (R_.cell 0 rfl)
    have cx:=fun w1 (hb1:Below RJ.heap.size RJ w1)=>(hb1.cell (p:=⟨w.heap.size+1+1+1,x.1,none⟩) Ez.lt).trans hcx
    refine fG [ak (.slice (some ⟨g6,0,none⟩) n6 cap'),ak (.func (.func 261) #[.slice A2 (Ig.grp b).length c2] #[]),ak (.slice (some ⟨w.heap.size+1+1+1,0,none⟩) (Ig.grp a).length (Ig.grp a).length),ak (.int .i64 (x.1:Int)),ak (.pointer (some ⟨w.heap.size+1+1+1,x.1,none⟩)),ak (.int .i64 (q:Int)),(fun v W=>aA W (b*q) v),(fun v W=>aA W (R-b*q) v)] 8 41 (by kernel_rfl) (by kernel_rfl) rfl rfl (by kernel_rfl) ?_ ?_ ?_
    · simp only[aY]
      and_intros <;> first|exact aI _|exact fun v w w' h hb=>h.call hb|trivial
    · simp only[Users,List.take,List.length];refine ⟨?_,?_,?_,?_,?_,?_,?_,?_,trivial⟩;all_goals (intro vs w1 hb1 hd;have c2':=cq w1 hb1;have c3':=cr w1 hb1;have c4':=c9 w1 hb1;have c5':=cx w1 hb1;have E5:=Xn.call hb1;have Rh:=PY.call hb1;clear cq cr c9 cx;simp only[aN,Act.put,List.nil_append,List.cons_append,List.setIfInBounds_toArray,List.set_cons_succ,List.set_cons_zero,Nat.reduceAdd])
      · clear hd;go_wp2;exact⟨Below.refl _ _,rfl⟩
      · clear hd;go_wp2;exact⟨Below.refl _ _,rfl⟩
      · clear hd;go_wp2;exact⟨Below.refl _ _,rfl⟩
      · clear hd;go_wp2;exact⟨Below.refl _ _,rfl⟩
      · have h2:vs 2=.slice (some ⟨w.heap.size+1+1+1,0,none⟩) (Ig.grp a).length (Ig.grp a).length:=hd 2 rfl;have h3:vs 3=.int .i64 (x.1:Int):=hd 3 rfl;clear hd;rw [h2,h3];go_wp2;exact ⟨Below.refl _ _,rfl⟩
      · have h4:vs 4=.pointer (some ⟨w.heap.size+1+1+1,x.1,none⟩):=hd 4 rfl;clear hd;rw [h4];go_wp2;exact ⟨Below.refl _ _,rfl⟩
      · have h1':vs 1=.func (.func 261) #[.slice A2 (Ig.grp b).length c2] #[]:=hd 1 rfl;have h5:vs 5=.int .i64 (q:Int):=hd 5 rfl;clear hd;rw [h1',h5];have hC:=yP b q _ _ E5 (by omega) (by omega);go_wp2_with fail;refine hC.mono ?_;clear hC;rintro _ w9 ⟨v9,rfl,kT,aX⟩;go_wp2;exact kT
      · have h0:vs 0=.slice (some ⟨g6,0,none⟩) n6 cap':=hd 0 rfl;have h6:aA w1 (b*q) (vs 6):=hd 6 rfl;clear hd;rw [h0];have hC:=mX R (b*q) _ (vs 6) w1 Rh h6 Wh (by omega);go_wp2_with fail;refine hC.mono ?_;clear hC;rintro _ w9 ⟨v9,rfl,kT,aX⟩;go_wp2;exact kT
    · clear cq cr c9 cx;intro vs wb hbb hR;simp only[bV,ak]at hR;obtain ⟨-,-,-,-,-,-,-,e7,-⟩:=hR;simp only[List.drop,List.take,List.map,aN,Act.put,List.setIfInBounds_toArray,List.set_cons_succ,List.set_cons_zero,Nat.reduceAdd];replace Oj:=Oj.call hbb;replace IC:=IC.call hbb;replace Ey:=Ey.call hbb;replace Ez:=Ez.call hbb;have hb11:=ah DR hbb;have WO:=WQ.trans (dL hbb W0.heap.size);have Q7:qj w.heap.size (w.heap.size+1+1+1+1) W wb:=WJ.trans ⟨hbb.mono (by have:=DR.size;omega),hbb.block _ (by omega)⟩;generalize vs 7=z7 at *;generalize vs 0=z0,vs 1=z1,vs 2=z2,vs 3=z3,vs 4=z4,vs 5=z5,vs 6=z6;obtain ⟨A9,c9,rfl,XE,ZM,vJ⟩:=e7.out;have hce:=Ey.cell 0 rfl;have hfr:=Ey.frozen 0;clear XE ZM vJ PY Xn hcx;generalize (Ig.grp (R-b*q)).length=n9 at *;go_wp2;refine ⟨WO.trans ((KeepsOthers.setCell _ _ _).from _),Q7.trans ⟨(Below.refl _ _).setCell (by show w.heap.size<=w.heap.size+1+1;omega) _,Below.heap_setCell _ _ _ _ (by simp;omega)⟩,aQ hb11 (by show w.heap.size<=w.heap.size+1+1;omega) _,Nat.le_trans hle (Nat.le_trans Q7.1.size (KeepsOthers.setCell _ _ _).size),Oj.far (by simp;omega) _,IC.far (by simp) _,⟨_,Ey.set 0 _,?_⟩,Ez.far (by simp) _⟩;rw [Zy.out];exact ig Ey e7 _
 case done =>
  rintro D ys W hD rfl ⟨hb,hle,B3,Bq,⟨v,Br,U_⟩,Bc⟩ hK;rw [ET]at U_;have hdl:=MS (Ig.grp a) b (bW (Ig.grp a).length);have hda:=fun w1 (hb1:Below W.heap.size W w1)=>Gm (Bc.call hb1)
  have hdt:=HY a hb0;have cq:=fun w1 (hb1:Below W.heap.size W w1)=>(hb1.cell (p:=⟨w.heap.size+1,0,none⟩) Bq.lt).trans (Bq.cell 0 rfl)
  have cr:=fun w1 (hb1:Below W.heap.size W w1)=>(hb1.cell (p:=⟨w.heap.size+1+1,0,none⟩) Br.lt).trans (Br.cell 0 rfl)
  generalize DZ (Ig.grp a) b (bW (Ig.grp a).length)=ds at *;obtain ⟨A5,c5,rfl,N8,Wv,TD⟩:=U_.out
  gi_wp2
  refine wpIn_wide.2 ?_;have hT:=fun w1 (hb1:Below W.heap.size W w1)=>fU ds (some ⟨w.heap.size+1+1+1,0,none⟩) (Ig.grp a).length w1 (hda w1 hb1) (by rw[hdl];omega) (by rw[hdl];omega)
  rw[hdl]at hT;have hNq:aA W (a / b) (.slice (some ⟨w.heap.size+1+1+1,0,none⟩) (Ig.bg ds).length (Ig.grp a).length):=qB (hda W (Below.refl _ _)) (by rw[hdl];omega) (by unfold maxLen;omega) ⟨hdt⟩;clear hdt hda hdl cq cr;generalize (Ig.bg ds).length=n6 at *;generalize (Ig.grp (a % b)).length=n7 at *;have hq0:=Bq.cell 0 rfl;have Tt:=Bq.frozen 0;have hr0:=Br.cell 0 rfl;have hrf:=Br.frozen 0;have Bq2:=Bq.set 0 (.slice (some ⟨w.heap.size+1+1+1,0,none⟩) n6 (Ig.grp a).length);have Vk:=Br.far (p:=⟨w.heap.size+1,0,none⟩) (by simp) (.slice (some ⟨w.heap.size+1+1+1,0,none⟩) n6 (Ig.grp a).length);have Xv:=ig Bq hNq (.slice (some ⟨w.heap.size+1+1+1,0,none⟩) n6 (Ig.grp a).length);have Xu:=ig Bq U_ (.slice (some ⟨w.heap.size+1+1+1,0,none⟩) n6 (Ig.grp a).length);have hb2:=aQ hb (p:=⟨w.heap.size+1,0,none⟩) (by show w.heap.size<=w.heap.size+1;omega) (.slice (some ⟨w.heap.size+1+1+1,0,none⟩) n6 (Ig.grp a).length);have Bq3:=Bq2.far (p:=⟨w.heap.size+1+1,0,none⟩) (by simp) (.slice A5 n7 c5);have Br3:=Vk.set 0 (.slice A5 n7 c5);have Uh:=ig Vk Xv (.slice A5 n7 c5);have Ug:=ig Vk Xu (.slice A5 n7 c5);have hb3:=aQ hb2 (p:=⟨w.heap.size+1+1,0,none⟩) (by show w.heap.size<=w.heap.size+1+1;omega) (.slice A5 n7 c5);have hr4:=Vk.cell 0 rfl;have ZE:=Vk.frozen 0;have hK1:=(Below.heap_setCell W ⟨w.heap.size+1,0,none⟩ (.slice (some ⟨w.heap.size+1+1+1,0,none⟩) n6 (Ig.grp a).length) D (by show D≠w.heap.size+1;omega)).trans hK;have hK2:=(Below.heap_setCell (W.setCell ⟨w.heap.size+1,0,none⟩ (.slice (some ⟨w.heap.size+1+1+1,0,none⟩) n6 (Ig.grp a).length)) ⟨w.heap.size+1+1,0,none⟩ (.slice A5 n7 c5) D (by show D≠w.heap.size+1+1;omega)).trans hK1;clear hb hle B3 Bq Br U_ Bc hNq hb2 Xv Xu Bq2 Vk N8 Wv TD hK1;have hdr:=(Below.refl ((W.setCell ⟨w.heap.size+1,0,none⟩ (.slice (some ⟨w.heap.size+1+1+1,0,none⟩) n6 (Ig.grp a).length)).setCell ⟨w.heap.size+1+1,0,none⟩ (.slice A5 n7 c5)).heap.size ((W.setCell ⟨w.heap.size+1,0,none⟩ (.slice (some ⟨w.heap.size+1+1+1,0,none⟩) n6 (Ig.grp a).length)).setCell ⟨w.heap.size+1+1,0,none⟩ (.slice A5 n7 c5))).drew;replace Uh:=Uh.call hdr;replace Ug:=Ug.call hdr;replace Bq3:=Bq3.call hdr;replace Br3:=Br3.call hdr;replace hb3:=ah hb3 hdr;clear hdr;replace hK2:(((W.setCell ⟨w.heap.size+1,0,none⟩ (.slice (some ⟨w.heap.size+1+1+1,0,none⟩) n6 (Ig.grp a).length)).setCell ⟨w.heap.size+1+1,0,none⟩ (.slice A5 n7 c5)).drew).heap[D]? = some (.deferred (some [])):=hK2;have hT1:=hT W.drew ((Below.refl _ _).drew);clear hT
  go_region_with (refine hT1.mono ?_;rintro _ _ ⟨rfl,rfl⟩)
  all_goals (
   gi_wp2
   clear hT1 hq0 hr0 Tt hrf hr4 ZE;generalize ((W.setCell ⟨w.heap.size+1,0,none⟩ (.slice (some ⟨w.heap.size+1+1+1,0,none⟩) n6 (Ig.grp a).length)).setCell ⟨w.heap.size+1+1,0,none⟩ (.slice A5 n7 c5)).drew=W5 at *;refine ⟨by simp,.inl ⟨_,_,rfl,run_takeDeferred hK2,?_⟩⟩;have hg:=grownBy_putObj' W5 D (.deferred none);have hr:∀r,some D=some r->∃o:Obj,W5.heap[r]? = some o/\o.isCells=false:=fun r e=>by cases e;exact⟨_,hK2,rfl⟩
   exact⟨_,tq rfl _ _ rfl rfl (dM Bq3 hg hr) (dM Br3 hg hr),_,_,rfl,lF Uh hg hr,lF Ug hg hr,hb3.trans (belowK_b (w:=w) (Nat.le_refl _) W5 D _ _ (by omega) hK2 rfl rfl)⟩)
 case stop =>
  rintro D c pre W _ _ h _;exact h.elim
end Go.Proofs.YtohgjenaclfegaaGreatDoor
namespace Ig
theorem Dv:∀(b:List UInt8) (n:Nat),b.foldl (fun n c=>10*n+(c.toNat-48)) n=n*10 ^ b.length+nv b
 | [],n=>by simp[nv]
 | c :: b,n=>by
  have h1:=Dv b (10*n+(c.toNat-48));have h2:=Dv b (10*0+(c.toNat-48))
  unfold nv at h1 h2 ⊢
  rw[List.foldl_cons,List.foldl_cons,h1,h2,List.length_cons,Nat.pow_succ,Nat.add_mul,Nat.add_mul,Nat.mul_comm 10 n,Nat.mul_assoc,Nat.mul_comm 10 (10 ^ b.length)];omega
theorem SY (a b:List UInt8):nv (a++b)=nv a*10 ^ b.length+nv b:=by
 rw[←Dv]
 unfold nv
 rw[List.foldl_append]
theorem QN:∀(k:Nat) {s:List UInt8},s.length=k->s.all y8=true->nv s<10 ^ k
 | 0,s,h,_=>by rw[List.length_eq_zero_iff.1 h];decide
 | k+1,s,h,hd=>by
  rcases List.eq_nil_or_concat s with h0|⟨m,c,h0⟩
  · rw[h0]at h;simp at h
  · obtain rfl:s=m++[c]:=by simpa using h0
    rw[List.all_append,Bool.and_eq_true]at hd;have ih:=QN k (s:=m) (by simpa using h) hd.1;have hc:c.toNat<=57:=by have:=hd.2;simp[y8]at this;omega
    rw[EI,Nat.pow_succ];omega
structure qh (D:List UInt8) (a m:Nat) (out:List Int):Prop where
 le:m<=D.length
 gr:Gr out
 eq:aK out+10000 ^ out.length*(nv (D.take m):Int)=a
 lo:out.length+m<=D.length
theorem zJ (a:Nat):qh (Go.Lib.decDigits a) a (Go.Lib.decDigits a).length []:=⟨Nat.le_refl _,(fun g h=>by cases h),by rw[List.take_length,Du];simp[aK],by simp⟩
theorem Ba {D:List UInt8} (hD:D.all y8=true) {m:Nat}:nv ((D.take m).drop (m-4))<10000:=by
 have h1:((D.take m).drop (m-4)).all y8=true:=List.all_eq_true.2 fun c hc=>List.all_eq_true.1 hD c (List.mem_of_mem_take (List.mem_of_mem_drop hc))
 have h2:=QN _ rfl h1;have h3:((D.take m).drop (m-4)).length<=4:=by simp;omega
 exact Nat.lt_of_lt_of_le h2 (Nat.pow_le_pow_right (n:=10) (by decide) h3)
theorem Dq {D:List UInt8} {a m:Nat} {out:List Int} (hD:D.all y8=true) (h:qh D a m out) (hm:0<m):qh D a (m-4) (out++[(nv ((D.take m).drop (m-4)):Int)]):=by
 have hlt:=Ba hD (m:=m);refine ⟨by have:=h.le;omega,fun g hg=>?_,?_,by have:=h.lo;simp;omega⟩
 · rcases List.mem_append.1 hg with hg|hg
   · exact h.gr g hg
   · obtain rfl:g=_:=by simpa using hg
     omega
 · have hs:D.take m=D.take (m-4)++(D.take m).drop (m-4):=by
    conv=>lhs;rw[←List.take_append_drop (m-4) (D.take m),List.take_take,Nat.min_eq_left (by omega)]
   have hv:nv (D.take m)=nv (D.take (m-4))*10000+nv ((D.take m).drop (m-4)):=by
    conv=>lhs;rw[hs,SY]
    by_cases h4:4<=m
    · have:((D.take m).drop (m-4)).length=4:=by have:=h.le;simp;omega
      rw[this]
    · rw[show m-4=0 by omega];simp[nv]
   rw[←h.eq,hv,cO,List.length_append,List.length_singleton,Int.pow_succ];generalize nv ((D.take m).drop (m-4))=n;generalize nv (D.take (m-4))=q;generalize (10000:Int) ^ out.length=p;simp only[aK];rw [Int.natCast_add,Int.natCast_mul,Int.mul_add,Int.mul_add,Int.mul_assoc];rw [show ((10000:Nat):Int)=10000 from rfl,Int.mul_comm 10000 (q:Int)];omega
theorem Gn {D:List UInt8} {a:Nat} {out:List Int} (h:qh D a 0 out):bg out=grp a:=by
 rw[iT h.gr];have:=h.eq;simp [nv]at this
 rw[this,Int.toNat_natCast]
end Ig
namespace Go.Proofs.YtohgjenaclfegaaGreatDoor
open Go.RowKit Go.Shelf
theorem SN {W:World} {B:Nat} {v:Value} {out:List Int} (h:W.ownsRow B 3 1 v out.length (out.flatMap aV)):∃A cap,v=.slice A out.length cap/\At 1 aV W W.heap.size A out/\out.length<=cap/\cap<=maxLen/\∀b off,A=some ⟨b,off,none⟩->B<=b:=by
 rcases h.2 with ⟨rfl,h0⟩|⟨g,cap,cur,rfl,h2,h3,h4,h5,h6,h7⟩
 · obtain rfl:out=[]:=List.length_eq_zero_iff.1 h0;exact ⟨none,0,rfl,At.nil,Nat.le_refl _,Nat.zero_le _,fun b off h=>by cases h⟩
 · obtain⟨A,e,hA,hc⟩:=dI.at (f:=aV) (size:=1) (fun _=>rfl) (show dI 3 1 B cap out.length (out.flatMap aV) (.slice (some ⟨g,0,none⟩) out.length cap) W from ⟨g,cur,rfl,h2,h4,h3,h6,h7⟩);refine ⟨A,cap,e,hA,hc,h5,fun b off hb=>?_⟩;rw [hb]at e;simp only[Value.slice.injEq,Option.some.injEq,Addr.mk.injEq]at e;omega
theorem wQ {e:TypeId} {B n size:Nat} {v:Value} {bs:List Value} {w w':World} (h:w.ownsRow B e size v n bs) (hb:Below w.heap.size w w'):w'.ownsRow B e size v n bs:=by
 refine⟨h.1,?_⟩
 rcases h.2 with h1|⟨g,cap,cur,h1,h2,h3,h4⟩
 · exact .inl h1
 · exact .inr ⟨g,cap,cur,h1,h2,(hb.block g (Array.getElem?_eq_some_iff.1 h3).1).trans h3,h4⟩
theorem JK {e:TypeId} {B n size:Nat} {v:Value} {bs:List Value} {w:World} (h:w.ownsRow B e size v n bs) {p:Addr} (hp:p.block<B) (u:Value):(w.setCell p u).ownsRow B e size v n bs:=by
 refine⟨h.1,?_⟩
 rcases h.2 with h1|⟨g,cap,cur,h1,h2,h3,h4⟩
 · exact .inl h1
 · exact .inr ⟨g,cap,cur,h1,h2,(Below.heap_setCell w p u g (by omega)).trans h3,h4⟩
theorem Am {e t:TypeId} {B n size g:Nat} {v:Value} {bs:List Value} {cs:Array Value} {w w':World} (ho:w.ownsRow B e size v n bs) (hg:w.grownBy w' v.ownBlock) (hB:Bx w g t cs) (hlt:g<B):Bx w' g t cs :=
 (hg.block g hB.lt (fun h=>by have:=(ho.lt g h.symm).1;omega)).trans hB
theorem Qn {s:List UInt8} (h:s.all Ig.y8=true):∀c∈s,48<=c.toNat/\c.toNat<=57:=fun c hc=>by
 have:=List.all_eq_true.1 h c hc;simpa [Ig.y8] using this
def lenOf:Value->Nat
 | .string b=>b.size
 | _=>0
theorem gK {fn:Func} {t:Tmp} {g:Nat} {neg:Bool} {A:Option Addr} {n c:Nat} (h:fn.results=#[.cell t 299]) (tmps:Array Value) (w:World) (ht:tmps.getD t undef=.pointer (some ⟨g,0,none⟩)) (hB:Bx w g 299 #[.bool neg,.slice A n c]) :
 (results fn tmps).run Tryz.prog w=.ok (.agg #[.bool neg,.slice A n c]) w:=by
 have h0:=hB.cell 0 rfl;have h1:=hB.cell 1 rfl;have ht':tmps[t]?.getD undef=.pointer (some ⟨g,0,none⟩):=by simpa using ht
 simp only[results,h];simp [go_sem,ht',h0,h1,loadVar]
theorem parse_any (z:Int) (w:World) (hz:Ig.fits z) :
 Calls Tryz.prog 256 #[.string ⟨(Lib.itoa z).toArray⟩] w fun e w'=>∃v,e=.returned (.agg #[.bool (decide (z<0)),v])/\aA w' z.natAbs v/\Below w.heap.size w w':=by
 have hT:=fun w0=>lZ (Lib.itoa z) w0
 have hlen:(decide ((Lib.decDigits z.natAbs).length<(Lib.itoa z).length))=decide (z<0):=by
  by_cases h:0<=z
  · rw[Ig.itoa_nonneg h,decide_eq_false (by omega),decide_eq_false (by omega)]
  · rw[Ig.itoa_neg (by omega),decide_eq_true (by rw[List.length_cons];omega),decide_eq_true (by omega)]
 have hD:=Ig.n_ z.natAbs;have hst:=Ig.zJ z.natAbs;have hDl:(Lib.decDigits z.natAbs).length<=200:=by rw[Ig.kM];exact (Ig.pV z).1 hz
 rw[Ig.mF]at hT;generalize decide (z<0)=neg at *;generalize z.natAbs=a at *;generalize Lib.itoa z=s at *;generalize Lib.decDigits a=D at *
 go_enter Tryz.func256,Tryz.ntmps256
 go_wp2_with (go_at_call 212;refine (hT _).mono ?_;rintro _ _ ⟨rfl,rfl⟩)
 have hb0:=bNew (aG w (.cells #[.bool false,.slice none 0 0] 299)) (.cells #[.bool neg,.slice none 0 0] 299);have B1:=(Bx.mk w 299 #[.bool false,.slice none 0 0]).new (.cells #[.bool neg,.slice none 0 0] 299);have B2:=Bx.mk (w.alloc (.cells #[.bool false,.slice none 0 0] 299)) 299 #[.bool neg,.slice none 0 0];have hsz:((w.alloc (.cells #[.bool false,.slice none 0 0] 299)).alloc (.cells #[.bool neg,.slice none 0 0] 299)).heap.size=w.heap.size+2:=by rw[aj,aj]
 rw[aj]at B2;generalize ((w.alloc (.cells #[.bool false,.slice none 0 0] 299)).alloc (.cells #[.bool neg,.slice none 0 0] 299))=W0 at *;clear hT hlen
 go_loopw [3,5,6,7] (fun s3 s5 s6 s7 wr=>∃(m:Nat) (out:List Int) (v:Value),s3=.string ⟨(D.take m).toArray⟩/\Kp (Ig.qh D a m out)/\m<=D.length/\out.length<=200/\Bx wr w.heap.size 299 #[.bool false,.slice none 0 0]/\Bx wr (w.heap.size+1) 299 #[.bool neg,v]/\wr.ownsRow (w.heap.size+2) 3 1 v out.length (out.flatMap aV)/\w.heap.size+2<=wr.heap.size/\Below w.heap.size w wr)
  (fun s3 s5 s6 s7 _=>lenOf s3)
 case atStart=>exact⟨D.length,[],.slice none 0 0,by rw[List.take_length],⟨hst⟩,Nat.le_refl _,by simp,B1,B2,World.ownsRow_nil _ _ _ _,by omega,hb0⟩
 case round =>
  clear hb0 B1 B2 hsz hst;obtain ⟨m,out,v,rfl,hp,hmD,hol,B1,B2,hown,hle,hb⟩:=hrel;by_cases h0:0<m
  · have hnext:=Kp.mk (Ig.Dq hD hp.out h0);have hch:=Ig.Ba hD (m:=m);have hlo:=hp.out.lo;have hdig:((D.take m).drop (m-4)).all Ig.y8=true:=List.all_eq_true.2 fun c hc=>List.all_eq_true.1 hD c (List.mem_of_mem_take (List.mem_of_mem_drop hc))
    have hcl:((D.take m).drop (m-4)).length<=4:=by simp;omega
    have hcn:(D.take m).drop (m-4)≠[]:=by
     intro h;have:=congrArg List.length h;simp at this;omega
    have hA:=fun w0=>NW ((D.take m).drop (m-4)) (Ig.nv ((D.take m).drop (m-4)):Int) w0 (by omega) (Bl _ (Qn hdig) hcn (by omega))
    have htk:(D.take m).take (m-4)=D.take (m-4):=by rw[List.take_take,Nat.min_eq_left (by omega)]
    have htl:(D.take m).length=m:=by simp;omega
    clear hdig hcl hcn;generalize Ig.nv ((D.take m).drop (m-4))=n at *;generalize hch2:(D.take m).drop (m-4)=ch at *;have hmx:max (0:Int) ((m:Int)-4)=((m-4:Nat):Int):=by omega
    have hm4:m-4<=m:=by omega
    clear hp;generalize D.take m=t at *;generalize ht':D.take (m-4)=t' at *;generalize hk:m-4=k at *;have c1:=B2.cell 1 rfl;have htc:List.take (m-k) ch=ch:=by rw[←hch2];exact List.take_of_length_le (by rw[List.length_drop,htl];omega)
    go_wp2_with fail;refine (hA _).mono ?_;rintro _ w1 ⟨rfl,hb1⟩;clear c1 hA htc;replace B1:=B1.call hb1;replace B2:=B2.call hb1;replace hown:=wQ hown hb1;replace hb:=ah hb hb1;replace hle:=Nat.le_trans hle hb1.size;have c1:=B2.cell 1 rfl;obtain ⟨i0,z0,hi,hz,hs1,hz1,hby⟩:=KJ;have hBt:=Bx.mk w1 3 #[.int .i64 (n:Int)]
    go_wp2_with (at_builtin;refine wpList_append_own _ rfl (.tmp 31) (.tmp 33) 297 rfl (w.heap.size+2) 3 i0 z0 1 8 Tryz.underlying297 hi hz hs1 hby hz1 (by decide) _ _ _ rfl (hown.alloc _) ⟨w1.heap.size,0,none⟩ 1 1 [.int .i64 (n:Int)] rfl rfl ?c1 ?c2 ?c3 ?c4 ?c5 ?_)
    case c1 =>
     intro j u hj
     match j,hj with
     | 0,hj=>simp at hj;subst hj;simp[Addr.add]
    case c2=>intro u hu;simp at hu;subst hu;rfl
    case c3=>unfold maxLen;omega
    case c4=>omega
    case c5=>rw[aj];omega
    intro v' w2 hown' hgrow _;have hbn:=aG w1 (.cells #[.int .i64 (n:Int)] 3);have hown1:=wQ hown hbn;have NV:=Am hown1 hgrow (B1.call hbn) (by omega);have Vq:=Am hown1 hgrow (B2.call hbn) (by omega);have hb':=(ah hb hbn).grown hgrow (by rw[aj];omega) (fun k hk=>by have:=(hown1.lt k hk).1;omega);have hle':w.heap.size+2<=w2.heap.size:=Nat.le_trans (Nat.le_trans hle hbn.size) hgrow.size
    obtain⟨ao,n',cap,rfl⟩:∃ao n' cap,v'=.slice ao n' cap:=by
     rcases hown'.2 with ⟨hv,_⟩|⟨g,cap,cur,hv,_⟩
     · exact⟨_,_,_,hv⟩
     · exact⟨_,_,_,hv⟩
    have d1:=Vq.cell 1 rfl;have f1:=Vq.frozen 1;clear c1 hBt hgrow hown hown1 B1 B2 hbn hb hle hi hz hs1 hz1 hby;go_wp2;refine ⟨⟨k,out++[(n:Int)],.slice ao n' cap,?_,hnext,by omega,by rw[List.length_append,List.length_singleton];omega,NV.far (by simp) _,Vq.set 1 _,?_,?_,aQ hb' (by show w.heap.size<=w.heap.size+1;omega) _⟩,?_⟩
    · rw[ht']
    · rw[List.length_append,List.length_singleton,List.flatMap_append];exact JK hown' (by show w.heap.size+1<w.heap.size+2;omega) _
    · exact Nat.le_trans hle' (KeepsOthers.setCell w2 _ _).size
    · simp only[lenOf]
      show t'.length<t.length
      rw[←htk,List.length_take,htl];omega
  · obtain rfl:m=0:=by omega
    have hfin:=Ig.Gn hp.out;clear hp hD hmD;obtain ⟨A,cap,rfl,hA,hcap,hcm,hAB⟩:=SN hown;have hT:=fU out A cap wr hA hcap (by omega);have hN:=qB hA hcap hcm ⟨hfin⟩;have hAt:At 1 aV wr wr.heap.size A (Ig.bg out):=by rw[←mG];exact hA.take _
    clear hown hA hN;have hlk:Kp ((Ig.grp a).length=(Ig.bg out).length):=⟨by rw[hfin]⟩
    have htl:=Kp.mk (show (Ig.bg out).length<=cap by rw[←mG,List.length_take];omega);rw [hfin]at hAt;clear hfin;generalize (Ig.bg out).length=n at *;have c0:=B2.cell 0 rfl;have c1:=B2.cell 1 rfl;have f1:=B2.frozen 1;have Vq:=B2.set 1 (.slice A n cap);have NV:=B1.far (p:=⟨w.heap.size+1,1,none⟩) (by simp) (.slice A n cap);have hb':=aQ hb (p:=⟨w.heap.size+1,1,none⟩) (by show w.heap.size<=w.heap.size+1;omega) (.slice A n cap);have hAt':=yR (g:=w.heap.size+1) (o:=1) hAt (fun b off h=>by have:=hAB b off h;omega) (.slice A n cap);clear B1 hb hAt;go_wp2_with fail;refine hT.mono ?_;rintro _ _ ⟨rfl,rfl⟩;clear hT;have d0:=Vq.cell 0 rfl;have d1:=Vq.cell 1 rfl;have e0:=NV.cell 0 rfl;have e1:=NV.cell 1 rfl;have g0:=NV.frozen 0;have g1:=NV.frozen 1;have B1s:=(NV.set 0 (.bool neg)).set 1 (.slice A n cap);have hbs:=aQ (aQ hb' (p:=⟨w.heap.size,0,none⟩) (Nat.le_refl _) (.bool neg)) (p:=⟨w.heap.size,1,none⟩) (Nat.le_refl _) (.slice A n cap);have hAs:=yR (g:=w.heap.size) (o:=1) (yR (g:=w.heap.size) (o:=0) hAt' (fun b off h=>by have:=hAB b off h;omega) (.bool neg)) (fun b off h=>by have:=hAB b off h;omega) (.slice A n cap);go_wp2;refine bodyPost_ret (gK rfl _ _ rfl B1s) rfl ⟨_,rfl,⟨A,cap,by rw[hlk.out],hAs.more ?_,by rw[hlk.out];exact htl.out,hcm⟩,hbs⟩;exact Nat.le_trans (KeepsOthers.setCell wr _ _).size (Nat.le_trans (KeepsOthers.setCell _ _ _).size (KeepsOthers.setCell _ _ _).size)
end Go.Proofs.YtohgjenaclfegaaGreatDoor

import Derived.Test.YtohgjenaclfegaaGreatDoorQA05
import Derived.Stop.RegionWithIn
import Derived.BigQuiet
import Derived.Test.YtohgjenaclfegaaGreatDoorQF00
set_option linter.unusedVariables false
set_option linter.unusedSimpArgs false
set_option maxRecDepth 100000
set_option maxHeartbeats 8000000
namespace Go.Proofs.YtohgjenaclfegaaGreatDoor
open Go.RowKit Go.Shelf
attribute [local go_sem] Oper.semAt_some
def Ib (d:Sh.Dl) (hs:List Sh.Hn) (i:Nat) (h:Sh.Hn):Array Value:=#[.int .i64 h.c,.int .i64 h.l,.string ⟨h.s.toArray⟩,.string ⟨(Sh.cont d i h.c h.l (bf hs i)).toArray⟩]
def hdE (d:Sh.Dl) (hs:List Sh.Hn) (x:Nat × Sh.Hn):Array Value:=#[.int .i64 x.1,.agg (Ib d hs x.1 x.2)]
theorem QX (n:Nat) (d:Sh.Dl) (v:Value) (w:World) (hv:∃A m c,v=.slice A m c):CallsIn Fence.wide n Tryz.prog 36 #[.agg (eP d v)] w fun e w'=>e=.returned (.func (.func 81) #[] #[.pointer (some ⟨w.heap.size,0,none⟩)])/\w'=w.alloc (.cells (eP d v) 32):=by
 obtain⟨A,m,c,rfl⟩:=hv
 unfold eP
 refine callsIn_of_wp Tryz.func36 rfl trivial ?_ rfl;simp only[Tryz.ntmps36,List.size_toArray,List.length_cons,List.length_nil,Nat.reduceAdd,Nat.reduceSub,Array.replicate_succ,Array.replicate_zero,List.push_toArray,List.append_toArray,List.nil_append,List.cons_append]
 gi_wp2
 go_ret;exact ⟨rfl,rfl⟩
theorem orB {e:Ending} {P Q:Prop} (h:(e=.returned (.bool true)/\P)∨(e=.returned (.bool false)/\Q)):∃b:Bool,e=.returned (.bool b)/\((b=true/\P)∨(b=false/\Q)):=by
 rcases h with ⟨h1,h2⟩|⟨h1,h2⟩
 · exact⟨true,h1,.inl ⟨rfl,h2⟩⟩
 · exact⟨false,h1,.inr ⟨rfl,h2⟩⟩
theorem MJ (n:Nat) (hn1:2<=n) (d:Sh.Dl) (hs:List Sh.Hn) (A:Option Addr) (cap gB:Nat) (hd:zT d) (hk:∀x∈hs,uj x) (hl:hs.length<=100) (hcap:hs.length<=cap) :
 SeqF n Tryz.prog 81 #[.pointer (some ⟨gB,0,none⟩)] (hdE d hs) (fun pre x=>x.1=pre.length/\hs[x.1]? = some x.2) (fun xs=>xs.length=hs.length) (fun _=>True)
  (fun X=>Bx X gB 32 (eP d (.slice A hs.length cap))/\At 3 dS X X.heap.size A hs):=by
 intro lp J Jx W hW hJ hJx VU hG hY hj0;have VW:=Kp.mk VU
 unfold eP at VW hW
 refine callsIn_of_wp Tryz.func81 rfl trivial ?_ rfl;simp only[Tryz.ntmps81,List.size_toArray,List.length_cons,List.length_nil,Nat.reduceAdd,Nat.reduceSub,Array.replicate_succ,Array.replicate_zero,List.push_toArray,List.append_toArray,List.nil_append,List.cons_append];have m4:=hW.1.cell 4 (v:=.slice A hs.length cap) rfl;have hbf0:Kp (bf hs 0=[]):=⟨rfl⟩
 have hnL:Kp (∀i,(bf hs i).length<=1000):=⟨fun i=>by
  cases i with
  | zero=>simp[bf]
  | succ k =>
   rw[bf]
   cases hx:hs[k]? with
   | none=>simp
   | some g=>exact (hk g (List.mem_of_getElem? hx)).s⟩
 gi_wp2_with fail
 gi_loopw [3,10] (fun s3 s10 wr=>∃(xs:List (Nat × Sh.Hn)) (q:List UInt8),xs.length<=hs.length/\s10=.int .i64 (xs.length:Nat)/\s3=.string ⟨q.toArray⟩/\Kp (bf hs xs.length=q)/\J xs wr/\W.heap.size<=wr.heap.size) (fun s3 s10 _=>hs.length-(intOf s10).toNat)
 case atStart=>exact⟨[],[],Nat.zero_le _,rfl,rfl,hbf0,hj0,Nat.le_refl _⟩
 case round =>
  clear hj0 m4 hW;obtain ⟨xs,q,hxm,rfl,rfl,hq,hj,hWs⟩:=hrel;obtain ⟨k,hkx⟩:∃k,Kp (xs.length=k):=⟨_,⟨rfl⟩⟩
  have hql:q.length<=1000:=by rw[←hq.out];exact hnL.out _
  rw[hkx.out]at hxm hq ⊢;by_cases hlt:k<hs.length
  · obtain⟨BA,hA⟩:=VW.out _ _ hj;obtain ⟨h,hgo⟩:∃h,hs[k]? = some h:=⟨_,List.getElem?_eq_getElem hlt⟩
    obtain⟨p,off,rfl,hp,hcell⟩:=hA (by omega);have hc0:wr.cell? ⟨p,off+k*3,none⟩=some (.int .i64 h.c):=hcell k h hgo 0 _ rfl;have hc1:=hcell k h hgo 1 _ rfl;have hc2:=hcell k h hgo 2 _ rfl;have Xw:=CB hd (hk h (List.mem_of_getElem? hgo)) (show k<=100 by omega);have hcn:Kp ((nums d k h).flatMap Sh.fK++q=Sh.cont d k h.c h.l (bf hs k)):=⟨by rw[hq.out];rfl⟩
    have BH:=Bx.mk wr 70 #[.int .i64 h.c,.int .i64 h.l,.string ⟨h.s.toArray⟩];have hbn:=fP wr (.cells #[.int .i64 h.c,.int .i64 h.l,.string ⟨h.s.toArray⟩] 70);obtain ⟨w1,hw1⟩:∃w1,Kp (wr.alloc (.cells #[.int .i64 h.c,.int .i64 h.l,.string ⟨h.s.toArray⟩] 70)=w1):=⟨_,⟨rfl⟩⟩
    rw[hw1.out]at BH hbn;have hI:=Lib.fresh_isBuilder 171 5 w1;have VP:=fP w1 (.cells #[.pointer none,.slice none 0 0] 171);obtain ⟨w2,hw2⟩:∃w2,Kp (w1.alloc (.cells #[.pointer none,.slice none 0 0] 171)=w2):=⟨_,⟨rfl⟩⟩
    rw[hw2.out]at hI VP;have hsz1:w1.heap.size=wr.heap.size+1:=by rw[←hw1.out,World.size_alloc]
    have hsz2:w2.heap.size=w1.heap.size+1:=by rw[←hw2.out,World.size_alloc]
    gi_upto_region 5 with fail
    rw[hw1.out,hw2.out];rw [show w1.heap.size=wr.heap.size+1 from hsz1]at hI hsz2;have hbW:=ah hbn VP;have Gq:=BA.call hbW;have Uw:=BH.call VP;have BS:=Bx.mk w2 3 ((nums d k h).map fun x=>Value.int .i64 x).toArray;have MI:=fP w2 (.cells ((nums d k h).map fun x=>Value.int .i64 x).toArray 3);have NT:=EP hI MI;have BH3:=Uw.call MI;have Zv:=ah hbW MI;obtain ⟨w3,hw3⟩:∃w3,Kp (w2.alloc (.cells ((nums d k h).map fun x=>Value.int .i64 x).toArray 3)=w3):=⟨_,⟨rfl⟩⟩
    rw[hw3.out]at NT BS MI BH3 Zv;have hC:=Qp (wr.heap.size+1) (wr.heap.size+1) w2.heap.size [] (nums d k h) w3 NT (by have:=MI.size;omega) BS (by omega) rfl Xw (by simp);rw [List.nil_append,hsz2]at hC;have a0:=Gq.cell 0 (v:=.int .i64 d.r) rfl;have a1:=Gq.cell 1 (v:=.int .i64 d.d) rfl;have a2:=Gq.cell 2 (v:=.int .i64 d.t) rfl;have a3:=Gq.cell 3 (v:=.int .i64 d.n) rfl;have h0:=Uw.cell 0 (v:=.int .i64 h.c) rfl;have h1:=Uw.cell 1 (v:=.int .i64 h.l) rfl;have hfl:((nums d k h).flatMap Sh.fK).length<=4*8:=pz (nums d k h) Xw
    have hne0:(nums d k h).flatMap Sh.fK≠[]:=by
     have h7:Sh.fK 7≠[]:=by rw[Sh.fK,Sh.DX (by decide)];simp
     intro e;rw [nums,List.flatMap_cons]at e;exact h7 (List.append_eq_nil_iff.1 e).1
    obtain⟨ns,hns⟩:∃ns,Kp (nums d k h=ns):=⟨_,⟨rfl⟩⟩
    replace hw3:Kp (w2.alloc (.cells #[.int .i64 7,.int .i64 d.r,.int .i64 d.d,.int .i64 d.t,.int .i64 d.n,.int .i64 k,.int .i64 h.c,.int .i64 h.l] 3)=w3):=hw3;rw [hns.out]at hC hfl hne0 hcn;clear hw1 hw2 hc0 hc1 hc2 hbn VP hcell Xw hI BS Gq Uw BA hA hbW
    gi_wp2_with fail
    rw[hw3.out];clear hw3;refine ⟨trivial,fun _=>by omega,(callsIn_wide.2 hC).mono ?_⟩;rintro _ w4 ⟨rfl,hI4,hb4,hk4⟩;have BH4:=Cm hk4 BH3 (by omega) (by decide);have Zu:=Zv.trans (hb4.mono (Nat.le_succ _));have hWr:=lX (wr.heap.size+1) (wr.heap.size+1) (Lib.byteCells (ns.flatMap Sh.fK)) q w4 hI4 (by rw[Lib.byteCells_length];omega) (by have:=Zu.size;have:=BH4.lt;omega);rw [←Lib.byteCells_append]at hWr;clear hC hI4 hb4 hk4 BH3 MI a0 a1 a2 a3 h0 h1 Zv NT
    gi_wp2_with fail
    refine⟨trivial,fun _=>by omega,(callsIn_wide.2 hWr).mono ?_⟩;rintro _ w5 ⟨rfl,Ui,hb5,hk5⟩;have WM:=Cm hk5 BH4 (by omega) (by decide);have hbW5:=Zu.trans (hb5.mono (Nat.le_succ _));have hIS:Lib.IsBuilder 171 5 (wr.heap.size+1) (wr.heap.size+1) (Lib.byteCells (ns.flatMap Sh.fK++q)) w5.drew:=.inr Ui;rw [hcn.out]at hIS
    have hneC:Sh.cont d k h.c h.l (bf hs k)≠[]:=by
     rw[←hcn.out];intro e;exact hne0 (List.append_eq_nil_iff.1 e).1
    have hSt:=DN (wr.heap.size+1) (wr.heap.size+1) _ w5.drew hIS hneC;obtain ⟨ct,hct⟩:∃ct,Kp (Sh.cont d k h.c h.l (bf hs k)=ct):=⟨_,⟨rfl⟩⟩
    rw[hct.out]at hSt;clear hWr Ui hb5 hk5 BH4 Zu hIS hneC hcn hne0 hfl hns;have hYk:=fun Y hjY=>hY xs (k,h) Y hjY ⟨hkx.out.symm,hgo⟩
    have hyE:Kp (hdE d hs (k,h)=#[.int .i64 k,.agg #[.int .i64 h.c,.int .i64 h.l,.string ⟨h.s.toArray⟩,.string ⟨ct.toArray⟩]]):=⟨by unfold hdE Ib;rw[hct.out]⟩
    have g0:=WM.cell 0 (v:=.int .i64 h.c) rfl;have g1:=WM.cell 1 (v:=.int .i64 h.l) rfl;have g2:=WM.cell 2 (v:=.string ⟨h.s.toArray⟩) rfl;have hnx:Kp (bf hs (xs++[(k,h)]).length=h.s):=⟨by rw[List.length_append,hkx.out];show bf hs (k+1)=_;rw[bf,hgo];rfl⟩
    have hlnx:Kp ((xs++[(k,h)]).length=k+1):=⟨by rw[List.length_append,hkx.out];rfl⟩
    clear VW hY hgo hk hd hkx hq hct
    gi_upto_region 7 with fail
    have QW:=hbW5.drew;have BH5d:Bx w5.drew wr.heap.size 70 #[.int .i64 h.c,.int .i64 h.l,.string ⟨h.s.toArray⟩]:=WM;clear WM hbW5
    gi_region_with (first
     | (refine ⟨trivial,fun _=>by omega,(callsIn_wide.2 hSt).mono ?_⟩;rintro _ w6 ⟨rfl,hb6,hk6⟩;have WL:=Cm hk6 BH5d (by omega) (by decide);have VQ:=QW.trans (hb6.mono (Nat.le_succ _));have hj6:=hJ _ _ _ hj VQ;obtain ⟨fn,tmps,assign,body,hy,hR⟩:=hYk w6 hj6;rw [hyE.out]at hy;have e0:=WL.cell 0 (v:=.int .i64 h.c) rfl;have e1:=WL.cell 1 (v:=.int .i64 h.l) rfl;have e2:=WL.cell 2 (v:=.string ⟨h.s.toArray⟩) rfl;clear g0 g1 g2)
     | (refine ⟨fun _=>by omega,hR.mono ?_⟩;intro e W3 hh;obtain ⟨bb,rfl,hcase⟩:=orB hh))
    all_goals
     have hs6:=VQ.size
     rcases hcase with ⟨rfl,hJ3,hF3⟩|⟨rfl,hJx3⟩
     · have BH3:Bx W3 wr.heap.size 70 #[.int .i64 h.c,.int .i64 h.l,.string ⟨h.s.toArray⟩]:=hF3.keep _ _ hWs WL;have d2:=BH3.cell 2 (v:=.string ⟨h.s.toArray⟩) rfl;have hs3:=hF3.size;clear hh hR hy hYk WL BH5d hk6 hb6 VQ QW hj6 hj hSt e0 e1 e2 hF3 BH3 hyE
       gi_wp2_with fail
       refine⟨⟨xs++[(k,h)],h.s,by rw[hlnx.out];omega,?_,rfl,hnx,hJ3,by omega⟩,?_⟩
       · rw[hlnx.out];go_num
       · simp[intOf];omega
     · clear hh hR hy hYk WL BH5d hk6 hb6 VQ QW hj6 hj hSt e0 e1 e2 hyE
       gi_wp2_with fail
       exact bodyPost_ret (results_none rfl _ _ _) rfl ⟨⟨_,rfl⟩,.inr ⟨_,hJx3⟩⟩
  · have hkn:k=hs.length:=by omega
    subst hkn
    gi_wp2_with fail
    exact bodyPost_end (results_none rfl _ _ _) rfl ⟨⟨_,rfl⟩,.inl ⟨_,hkx.out,hj⟩⟩
theorem xX (m:List UInt8) (w:World):Calls Tryz.prog 141 #[.string ⟨m.toArray⟩] w fun e w'=>e=.returned (.func (.func 191) #[] #[.pointer (some ⟨w.heap.size,0,none⟩)])/\w'=w.alloc (.cells #[.string ⟨m.toArray⟩] 9):=by
 go_enter Tryz.func141,Tryz.ntmps141
 go_wp2;go_ret;exact ⟨rfl,rfl⟩
theorem vG (m:List UInt8) (xs:List (List UInt8)) (gm g:Nat) (w:World) (Bm:Bx w gm 9 #[.string ⟨m.toArray⟩]) (Bs:Bx w g 9 (xs.map fun x=>Value.string ⟨x.toArray⟩).toArray) (hN:xs.length<=100) (hl:m.length+xs.flatten.length<=1000000) (hR:Rnd w) :
 aT 191 #[.slice (some ⟨g,0,none⟩) xs.length xs.length,.pointer (some ⟨gm,0,none⟩)] w (.string ⟨(Sh.NK (m++xs.flatten)).toArray⟩):=by
 have hl2:m.length+(List.map List.length xs).sum<=1000000:=by rw[←List.length_flatten];exact hl
 have hl3:¬ 9223372036854775807<m.length+(List.map List.length xs).sum:=by omega
 go_enter Tryz.func191,Tryz.ntmps191
 go_wp2_with fail;refine RS.au (RS.gu (w.heap.size) 4 #[] #[]) [] [RS.ak (.string ⟨m.toArray⟩),RS.ak (.slice (some ⟨g,0,none⟩) xs.length xs.length),RS.ak (.string ⟨xs.flatten.toArray⟩),RS.ak (.string ⟨(m++xs.flatten).toArray⟩),RS.ak (.string ⟨(Sh.NK (m++xs.flatten)).toArray⟩),RS.ak (.string ⟨(Sh.NK (m++xs.flatten)).toArray⟩)] 6 9 (by kernel_rfl) rfl rfl (by kernel_rfl) (by kernel_rfl) ?_ ?_ ?_
 · simp only[RS.aY]
   and_intros <;> first|exact RS.aB _|trivial
 · simp only[RS.aS,List.take,List.length];refine ⟨?_,?_,?_,?_,?_,?_,trivial⟩;all_goals (intro vs w2 hb2 hd;simp only[RS.aJ,Act.put,List.nil_append,List.cons_append,List.setIfInBounds_toArray,List.set_cons_succ,List.set_cons_zero,Nat.reduceAdd])
   · have q0:=(Bm.call hb2.bl).cell 0 (v:=.string ⟨m.toArray⟩) rfl;clear hd;go_wp2;exact aQ
   · clear hd;go_wp2;exact aQ
   · have e0:vs 1=_:=hd 1 rfl;have hC:=Ql xs g xs.length w2 (fun j x hx=>(Bs.call hb2.bl).cell j (by simp[hx])) (Bs.call hb2.bl).lt hN (Nat.le_refl _) (by omega);clear hd;rw [e0];go_wp2_with fail;refine hC.mono ?_;rintro _ w9 ⟨rfl,aX⟩;clear hC;have hK9:=hb2.call (Nat.le_refl _) aX;go_wp2;first|exact⟨hK9,rfl⟩|exact hK9|rfl
   · have e0:vs 0=_:=hd 0 rfl;have e1:vs 2=_:=hd 2 rfl;clear hd;rw [e0,e1];go_wp2;exact aQ
   · have e0:vs 3=_:=hd 3 rfl;have hC:=RG (m++xs.flatten) w2 (by rw[List.length_append];omega) (hR.below hb2.bl);clear hd;rw [e0];go_wp2_with fail;refine hC.mono ?_;rintro _ w9 ⟨rfl,aX⟩;clear hC;have hK9:=hb2.call (Nat.le_refl _) aX;go_wp2;first|exact⟨hK9,rfl⟩|exact hK9|rfl
   · have e0:vs 4=_:=hd 4 rfl;clear hd;rw [e0];go_wp2;exact aQ
 · intro vs wa hba hR2;simp only[RS.bP,RS.ak]at hR2;obtain ⟨e0,e1,e2,e3,e4,e5,-⟩:=hR2;simp only[List.drop,List.take,List.map,RS.aJ,Act.put,List.setIfInBounds_toArray,List.set_cons_succ,List.set_cons_zero,Nat.reduceAdd];rw [e0,e1,e2,e3,e4,e5];clear e0 e1 e2 e3 e4 e5;go_wp2;go_ret;exact ⟨rfl,hba.bl⟩
theorem Qi (s:List UInt8) (w:World) (hl:s.length<=100000) (hR:Rnd w) :
 aT 88 #[.string ⟨s.toArray⟩] w (.string ⟨(Sh.leaf s).toArray⟩):=by
 have hb:=bNew (fP w (.cells #[.string ⟨#[0]⟩] 9)) (.cells #[.string ⟨s.toArray⟩] 9);have B1:=(Bx.mk w 9 #[.string ⟨#[0]⟩]).new (.cells #[.string ⟨s.toArray⟩] 9);have B2:=Bx.mk (w.alloc (.cells #[.string ⟨#[0]⟩] 9)) 9 #[.string ⟨s.toArray⟩];have hC:=vG [0] [s] w.heap.size (w.heap.size+1) ((w.alloc (.cells #[.string ⟨#[0]⟩] 9)).alloc (.cells #[.string ⟨s.toArray⟩] 9)) B1 (by rw[World.size_alloc]at B2;exact B2) (by simp) (by simp;omega) (hR.below hb);simp only[List.flatten_cons,List.flatten_nil,List.append_nil,List.length_cons,List.length_nil,Nat.reduceAdd]at hC;clear B1 B2
 go_enter Tryz.func88,Tryz.ntmps88
 go_wp2_with (go_at_call 141;refine (xX [0] _).mono ?_;rintro _ _ ⟨rfl,rfl⟩)
 refine hC.mono ?_;rintro _ w1 ⟨rfl,hb1⟩;replace hb:=ah hb hb1;clear hC;go_wp2;go_ret;exact ⟨rfl,hb⟩
theorem PW (a b:List UInt8) (w:World) (ha:a.length<=100000) (hbl:b.length<=100000) (hR:Rnd w) :
 aT 87 #[.string ⟨a.toArray⟩,.string ⟨b.toArray⟩] w (.string ⟨(Sh.node a b).toArray⟩):=by
 have hb:=bNew (fP w (.cells #[.string ⟨#[1]⟩] 9)) (.cells #[.string ⟨a.toArray⟩,.string ⟨b.toArray⟩] 9);have B1:=(Bx.mk w 9 #[.string ⟨#[1]⟩]).new (.cells #[.string ⟨a.toArray⟩,.string ⟨b.toArray⟩] 9);have B2:=Bx.mk (w.alloc (.cells #[.string ⟨#[1]⟩] 9)) 9 #[.string ⟨a.toArray⟩,.string ⟨b.toArray⟩];have hC:=vG [1] [a,b] w.heap.size (w.heap.size+1) ((w.alloc (.cells #[.string ⟨#[1]⟩] 9)).alloc (.cells #[.string ⟨a.toArray⟩,.string ⟨b.toArray⟩] 9)) B1 (by rw[World.size_alloc]at B2;exact B2) (by simp) (by simp;omega) (hR.below hb);simp only[List.flatten_cons,List.flatten_nil,List.append_nil,List.length_cons,List.length_nil,Nat.reduceAdd]at hC;clear B1 B2
 go_enter Tryz.func87,Tryz.ntmps87
 go_wp2_with (go_at_call 141;refine (xX [1] _).mono ?_;rintro _ _ ⟨rfl,rfl⟩)
 refine hC.mono ?_;rintro _ w1 ⟨rfl,hb1⟩;replace hb:=ah hb hb1;clear hC;go_wp2;go_ret;exact ⟨rfl,hb⟩
theorem MB (c l:Int) (s ct key:List UInt8) (w:World) (hc:ct.length<=100000) (hk:key.length<=100000) (hR:Rnd w) :
 aT 46 #[.agg #[.int .i64 c,.int .i64 l,.string ⟨s.toArray⟩,.string ⟨ct.toArray⟩],.string ⟨key.toArray⟩] w (.string ⟨(Sh.sg key ct).toArray⟩):=by
 have hb:=fP w (.cells #[.int .i64 c,.int .i64 l,.string ⟨s.toArray⟩,.string ⟨ct.toArray⟩] 106);have hC:=Qi ct _ hc (hR.below hb);have hRK:=Kp.mk hR
 go_enter Tryz.func46,Tryz.ntmps46
 go_wp2_with fail;refine hC.mono ?_;rintro _ w1 ⟨rfl,hb1⟩;replace hb:=ah hb hb1;have hD:=PW key (Sh.leaf ct) w1 hk (by rw[show (Sh.leaf ct).length=32 from Sh.B_ _];omega) (hRK.out.below hb);clear hC hb1;go_wp2_with fail;refine hD.mono ?_;rintro _ w2 ⟨rfl,hb2⟩;replace hb:=ah hb hb2;clear hD hb2;go_wp2;go_ret;exact ⟨rfl,hb⟩
theorem H7 (ks:List (List UInt8)) (K:Option Addr) (kc:Nat) (d:Sh.Dl) (hs:List Sh.Hn) (i:Nat) (h:Sh.Hn) (w:World) (hK:At 1 lg w w.heap.size K ks) (h8:ks.length=8) (hkc:8<=kc) (hks:∀k∈ks,k.length<=1000) (hc:h.c<8) (hi:i<=100) (hh:uj h) (hdl:zT d) (hk:∀x∈hs,uj x) (hR:Rnd w) :
 aT 38 #[.agg (Ib d hs i h),.slice K 8 kc] w (.bool (Jv ks d hs i h)):=by
 unfold Ib
 have hcl:=Dk (i:=i) (hs:=hs) hdl hh hi hk;obtain ⟨c,hcn⟩:=Int.eq_ofNat_of_zero_le hh.c.1;have hck:c<ks.length:=by omega
 obtain⟨pk,ok,rfl,hpk,hkc⟩:=hK (by omega);obtain ⟨key,hkey⟩:∃key,ks[c]? = some key:=⟨_,List.getElem?_eq_getElem hck⟩
 have hkl9:=hks key (List.mem_of_getElem? hkey);have hsh:Kp (Jv ks d hs i h=((key != [])&&(h.s==Sh.sg key (Sh.cont d i h.c h.l (bf hs i))))):=⟨by unfold Jv;rw[hcn,Int.toNat_natCast,List.getD_eq_getElem?_getD,hkey];rfl⟩
 have k00:w.cell? ⟨pk,ok+c,none⟩=some (.string ⟨key.toArray⟩):=by
  have h9:=hkc c key hkey 0 _ rfl
  rwa [Nat.mul_one,Nat.add_zero]at h9
 generalize Sh.cont d i h.c h.l (bf hs i)=ct at *;rw [hsh.out,hcn];have hb:=fP w (.cells #[.int .i64 (c:Int),.int .i64 h.l,.string ⟨h.s.toArray⟩,.string ⟨ct.toArray⟩] 106);have k0:=(hb.cell (p:=⟨pk,ok+c,none⟩) hpk).trans k00;have hS:=fun w0 hR0=>MB c h.l h.s ct key w0 hcl (by omega) hR0
 have BH:=Bx.mk w 106 #[.int .i64 (c:Int),.int .i64 h.l,.string ⟨h.s.toArray⟩,.string ⟨ct.toArray⟩];have hR0:=hR.below hb;have b0:=BH.cell 0 (v:=.int .i64 (c:Int)) rfl;have hRK:=Kp.mk hR;clear hkc hsh hk hks hkey hcn hh hdl hkl9 hcl k00 hR;obtain ⟨eq,heq⟩:∃eq,Kp ((h.s==Sh.sg key ct)=eq):=⟨_,⟨rfl⟩⟩
 rw[heq.out]
 have kP:((key != [])=false/\(key==[])=true/\decide (key=[])=true)∨((key != [])=true/\(key==[])=false/\decide (key=[])=false):=by
  by_cases hke:key=[]
  · exact .inl (by simp[hke])
  · exact .inr (by simp[hke])
 obtain⟨res,hres⟩:∃res,Kp (((key != [])&&eq)=res):=⟨_,⟨rfl⟩⟩
 rw[hres.out]
 go_enter Tryz.func38,Tryz.ntmps38
 go_wp2_with fail;generalize w.alloc (.cells #[.int .i64 (c:Int),.int .i64 h.l,.string ⟨h.s.toArray⟩,.string ⟨ct.toArray⟩] 106)=W at *;have kE:=fun d os=>hS (Sort.grow (redrawn W d) os) (hR0.below (below_regrown W d os))
 have r0:=fun d os=>(BH.again d os).cell 0 (v:=.int .i64 (c:Int)) rfl
 have r1:=fun d os=>(BH.again d os).cell 1 (v:=.int .i64 h.l) rfl
 have r2:=fun d os=>(BH.again d os).cell 2 (v:=.string ⟨h.s.toArray⟩) rfl
 have r3:=fun d os=>(BH.again d os).cell 3 (v:=.string ⟨ct.toArray⟩) rfl
 rcases kP with ⟨z0,z1,z2⟩|⟨z0,z1,z2⟩
 · rw[z0,Bool.false_and]at hres;refine wp_region_quiet_below (by kernel_rfl) (by kernel_rfl) ?_
   repeat (go_big_quiet_step (first
    | (go_at_call 46;with_reducible exact Calls.regrown_of (kE _ _))))
   refine wpQuiet_nil ?_;rintro _ ⟨q,rfl⟩;have hb1:=below_regrown W q.d q.os;replace hb:=ah hb hb1;go_wp2;go_ret;exact ⟨by rw[←hres.out];rfl,hb⟩
 · rw[z0,Bool.true_and]at hres;refine wp_region_quiet_below (by kernel_rfl) (by kernel_rfl) ?_
   repeat (go_big_quiet_step (first
    | (go_at_call 46;with_reducible exact Calls.regrown_of (kE _ _))))
   refine wpQuiet_nil ?_;rintro _ ⟨q,rfl⟩;have hb1:=below_regrown W q.d q.os;replace hb:=ah hb hb1;go_wp2;go_ret;exact ⟨by rw[←hres.out,←heq.out];rfl,hb⟩
def DT (p:Nat->Bool) (n:Nat):Option Nat:=(List.range n).find? p
def nN (ks:List (List UInt8)) (d:Sh.Dl) (hs:List Sh.Hn) (i:Nat):Bool:=match hs[i]? with
 | some h=>Jv ks d hs i h
 | none=>false
def YQ (hs:List Sh.Hn):Option Nat->Int
 | some i=>(hs[i]?.map (·.l)).getD 0
 | none=>0
def ixF:Option Nat->Int
 | some i=>i
 | none=> -1
def Gj (ks:List (List UInt8)) (d:Sh.Dl) (hs:List Sh.Hn):Int:=YQ hs (DT (nN ks d hs) hs.length)
def c0 (hs:List Sh.Hn):Int:=(hs[0]?.map (·.c)).getD 0
def l0 (hs:List Sh.Hn):Int:=(hs[0]?.map (·.l)).getD 0
theorem sK {p:Nat->Bool} {n i:Nat}:DT p n=some i↔p i=true/\i<n/\∀j,j<i->p j=false:=by
 unfold DT
 rw[List.find?_range_eq_some];simp
theorem JX {p:Nat->Bool} {n:Nat}:DT p n=none↔∀j,j<n->p j=false:=by
 unfold DT
 rw[List.find?_range_eq_none];simp
theorem Vq {d:Sh.Dl} {kn:List Nat} {hs:List Sh.Hn} (hm:Jh d kn hs):∀(k i:Nat) (g h:Sh.Hn),hs[i]? = some g->hs[i+k]? = some h->h.l<=g.l:=by
 intro k
 induction k with
 | zero=>intro i g h hg hh;rw[Nat.add_zero,hg]at hh;cases hh;exact Int.le_refl _
 | succ k ih =>
  intro i g h hg hh;have hlt:i+k<hs.length:=by have:=(List.getElem?_eq_some_iff.1 hh).1;omega
  obtain⟨m,zI⟩:∃m,hs[i+k]? = some m:=⟨_,List.getElem?_eq_getElem hlt⟩
  have h1:=ih i g m hg zI;have h2:=(hm.fm.next (i+k) m h zI (by rw[Nat.add_assoc];exact hh)).2;omega
theorem GK {d:Sh.Dl} {kn:List Nat} {hs:List Sh.Hn} {set i:Nat} {h:Sh.Hn} (hm:Jh d kn hs) (hi:hs[i]? = some h):nN (fF keysA set) d hs i=set.testBit h.c.toNat:=by
 unfold nN
 rw[hi,Nat.testBit_eq_decide_div_mod_eq];exact xw (hm.fm.hand i h hi).1 (hm.sl i h hi)
theorem Vr {d:Sh.Dl} {kn:List Nat} {hs:List Sh.Hn} {s m:Nat} (hm:Jh d kn hs) (h:Gj (fF keysA s) d hs=3):Gj (fF keysA (s ||| m)) d hs=3:=by
 unfold Gj at h ⊢
 cases hf:DT (nN (fF keysA s) d hs) hs.length with
 | none=>rw[hf]at h;cases h
 | some i =>
  rw[hf]at h;obtain ⟨hp,hi,-⟩:=sK.1 hf;obtain ⟨g,hg⟩:∃g,hs[i]? = some g:=⟨_,List.getElem?_eq_getElem hi⟩
  rw[GK hm hg]at hp
  have hg3:g.l=3:=by
   simp only[YQ,hg,Option.map_some,Option.getD_some]at h;exact h
  have hq:nN (fF keysA (s ||| m)) d hs i=true:=by rw[GK hm hg,Nat.testBit_or,hp];rfl
  cases hf2:DT (nN (fF keysA (s ||| m)) d hs) hs.length with
  | none=>have:=JX.1 hf2 i hi;rw[hq]at this;cases this
  | some j =>
   obtain⟨hp2,hj,hall⟩:=sK.1 hf2
   have hji:j<=i:=by
    rcases Nat.lt_or_ge i j with h9|h9
    · have:=hall i h9;rw[hq]at this;cases this
    · exact h9
   obtain⟨b,hb⟩:∃b,hs[j]? = some b:=⟨_,List.getElem?_eq_getElem hj⟩
   have h1:=Vq hm (i-j) j b g hb (by rw[Nat.add_sub_cancel' hji];exact hg);have h2:=((hm.fm.hand j b hb).2.1).2;simp only[YQ,hb,Option.map_some,Option.getD_some];omega
theorem Qd {d:Sh.Dl} {kn:List Nat} {hs:List Sh.Hn} {s:Nat} (hm:Jh d kn hs) (h3:l0 hs=3) (hk:(fF keysA s).getD (c0 hs).toNat []≠[]):Gj (fF keysA s) d hs=3:=by
 obtain⟨g,hg⟩:∃g,hs[0]? = some g:=⟨_,List.getElem?_eq_getElem hm.fm.len.1⟩
 simp only[l0,c0,hg,Option.map_some,Option.getD_some]at h3 hk;have hc:=(hm.fm.hand 0 g hg).1
 have hp:nN (fF keysA s) d hs 0=true:=by
  rw[GK hm hg,Nat.testBit_eq_decide_div_mod_eq];rw [EL (show g.c.toNat<8 by omega)]at hk;by_cases hb:s / 2 ^ g.c.toNat % 2=1
  · exact decide_eq_true hb
  · rw[if_neg hb]at hk;exact absurd rfl hk
 have hf:DT (nN (fF keysA s) d hs) hs.length=some 0:=sK.2 ⟨hp,hm.fm.len.1,fun j hj=>absurd hj (Nat.not_lt_zero _)⟩
 unfold Gj
 rw[hf];simp only[YQ,hg,Option.map_some,Option.getD_some,h3]
def Uk (ks:List (List UInt8)) (x:(Sh.Dl × List Sh.Hn) × Int):Bool:=decide (Gj ks x.1.1 x.1.2=3)&&decide (c0 x.1.2≠x.2)
def cnL (ks:List (List UInt8)) (x:(Sh.Dl × List Sh.Hn) × Int):Bool:=decide (c0 x.1.2≠x.2)&&(decide (l0 x.1.2=3)&&(ks.getD (c0 x.1.2).toNat [] != []))
def cnt {α:Type} (f:α->Bool) (l:List α) (k:Nat):Nat:=(l.take k).countP f
theorem sZ {α:Type} {f:α->Bool} {l:List α} {k:Nat} {x:α} (h:l[k]? = some x):cnt f l (k+1)=cnt f l k+if f x then 1 else 0:=by
 unfold cnt
 rw[List.take_add_one,h,List.countP_append];simp [List.countP_cons]
theorem cnt_le {α:Type} {f:α->Bool} {l:List α} {k:Nat}:cnt f l k<=k:=by
 unfold cnt
 exact Nat.le_trans List.countP_le_length (by rw[List.length_take];omega)
theorem cnt_mono {α:Type} {f g:α->Bool} {l:List α} {k:Nat} (h:∀x∈l,f x=true->g x=true):cnt f l k<=cnt g l k :=
 List.countP_mono_left fun x hx hf=>h x (List.mem_of_mem_take hx) hf
theorem V9 {s m:Nat} {x:(Sh.Dl × List Sh.Hn) × Int} {kn:List Nat} (hm:Jh x.1.1 kn x.1.2) (h:Uk (fF keysA s) x=true):Uk (fF keysA (s ||| m)) x=true:=by
 unfold Uk at h ⊢
 rw[Bool.and_eq_true,decide_eq_true_eq]at h ⊢;exact ⟨Vr hm h.1,h.2⟩
theorem Si {s:Nat} {x:(Sh.Dl × List Sh.Hn) × Int} {kn:List Nat} (hm:Jh x.1.1 kn x.1.2) (h:cnL (fF keysA s) x=true):Uk (fF keysA s) x=true:=by
 unfold cnL at h
 unfold Uk
 rw[Bool.and_eq_true,Bool.and_eq_true,decide_eq_true_eq]at h;rw [Bool.and_eq_true,decide_eq_true_eq];exact ⟨Qd hm (of_decide_eq_true h.2.1) (by simpa using h.2.2),decide_eq_true h.1⟩
attribute [local go_sem] Oper.semAt_some
theorem zx {α:Type} {n:Nat} {P:Program} {g:Operand} {ps:Array Tmp} {assign body:Code} {Q:Exit->Act->World->Prop} {a:Act} {w:World} {Kw:World->Prop} (h1:1<=n) {gf:Nat} {lb:Array Value} (hg:a.eval g=.func (.func gf) #[] lb)
 (eg:∀args w,(callFunc gf args).run P w=.ok (.enter gf args) w) {encs:α->Array Value} {R:List α->α->Prop} {S G:List α->Prop} (hseq:SeqF (n-1) P gf lb encs R S G Kw) (hb0:∀X,Below w.heap.size w X->Kw X) (hps:∀x,(encs x).size=ps.size)
 (I:List α->World->Prop) (Ix:Code->List α->World->Prop) (hI:Bo I) (EZ:KI w.heap.size I) (hIx:∀c,Bo (Ix c)) (oC:∀c,KI w.heap.size (Ix c)) (wM:∀s X,I s X->Kw X) (hG:∀s X,I s X->G s) (hz:I [] w) (tb tc:Tmp) (val:α->Value) (T:TypeId) (cells:α->Array Value)
 (hassign:∀(l:Nat) (x:α) (W:World) (K:Act->World->Prop),(∀b W',Below W.heap.size W W'->Bx W' b T (cells x)->K { tmps:=(((ps.zip (encs x)).foldl (fun t (p,v)=>t.setIfInBounds p v) a.tmps).setIfInBounds tb (val x)).setIfInBounds tc (.pointer (some ⟨b,0,none⟩)),defers:=[] } W') ->
  assign.wpIn (Fence.wide.inRound l) (n-1-1) P (Exit.then K (fun _ _ _=>False)) { tmps:=(ps.zip (encs x)).foldl (fun t (p,v)=>t.setIfInBounds p v) a.tmps,defers:=[] } W)
 (hbody:∀(l:Nat) (pre:List α) (x:α) (b:Nat) (W:World),I pre W->Bx W b T (cells x)->R pre x->body.wpIn (Fence.wide.inRound l) (n-1-1) P (X_ w.heap.size I Ix (pre++[x]) W) { tmps:=(((ps.zip (encs x)).foldl (fun t (p,v)=>t.setIfInBounds p v) a.tmps).setIfInBounds tb (val x)).setIfInBounds tc (.pointer (some ⟨b,0,none⟩)),defers:=[] } W)
 (hdone:∀(D:Nat) (xs:List α) (W:World),w.heap.size<=D->S xs->I xs W->W.heap[D]? = some (.deferred (some []))->Q .normal { a with defers:={ target:=.collected D,args:=#[] } :: a.defers } W)
 (hstop:∀(D:Nat) (c:Code) (pre:List α) (W:World),w.heap.size<=D->Ix c pre W->W.heap[D]? = some (.deferred (some []))->c.wpIn Fence.wide n P Q { a with defers:={ target:=.collected D,args:=#[] } :: a.defers } W) :
 (Code.rangeFunc g ps assign body).wpIn Fence.wide n P Q a w :=
 zB h1 hg eg hseq hb0 hps I Ix hI EZ hIx oC wM hG hz
  (fun x a' X=>∃b,a'={ tmps:=(((ps.zip (encs x)).foldl (fun t (p,v)=>t.setIfInBounds p v) a.tmps).setIfInBounds tb (val x)).setIfInBounds tc (.pointer (some ⟨b,0,none⟩)),defers:=[] }/\Bx X b T (cells x))
  (fun x a' X l o o' ⟨b,e,hB⟩ ho hc=>⟨b,e,jq hB ho hc⟩)
  (fun l x W K hK=>hassign l x W K fun b W' hb hB=>hK _ _ hb ⟨b,rfl,hB⟩)
  (fun l pre x a' W hi ⟨b,e,hB⟩ hR=>by subst e;exact hbody l pre x b W hi hB hR)
  hdone hstop
theorem SH (ks:List (List UInt8)) (K:Option Addr) (kc gk:Nat) (d:Sh.Dl) (hs:List Sh.Hn) (i:Nat) (h:Sh.Hn) (w:World) (Bk:Bx w gk 34 #[.slice K 8 kc]) (hK:At 1 lg w w.heap.size K ks) (h8:ks.length=8) (hkc:8<=kc) (hks:∀k∈ks,k.length<=1000) (hc:h.c<8) (hi:i<=100) (hh:uj h) (hdl:zT d) (hk:∀x∈hs,uj x) (hR:Rnd w) :
 aT 37 #[.agg (Ib d hs i h),.pointer (some ⟨gk,0,none⟩)] w (.bool (Jv ks d hs i h)):=by
 have hb:=fP w (.cells (Ib d hs i h) 106);have BH:=Bx.mk w 106 (Ib d hs i h);have hS:=fun w0 (hb0:Below w.heap.size w w0)=>H7 ks K kc d hs i h w0 (hK.bY hb0) h8 hkc hks hc hi hh hdl hk (hR.below hb0)
 replace Bk:=Bk.call hb;have hS1:=hS _ hb
 unfold Ib at hb BH hS1 Bk ⊢
 clear hK hR hS
 go_enter Tryz.func37,Tryz.ntmps37
 have k0:=Bk.cell 0 rfl;obtain ⟨b0,b1,b2,b3⟩:=BH.p4;go_wp2_with fail;refine hS1.mono ?_;rintro _ w1 ⟨rfl,hb1⟩;replace hb:=ah hb hb1;clear hS1 b0 b1 b2 b3 k0;go_wp2;go_ret;exact ⟨rfl,hb⟩
attribute [local go_sem] Oper.semAt_some
def z4:Array Value:=#[.int .i64 0,.int .i64 0,.string ⟨#[]⟩,.string ⟨#[]⟩]
def hdO (d:Sh.Dl) (hs:List Sh.Hn):Option Nat->Array Value
 | some i=>match hs[i]? with
  | some h=>Ib d hs i h
  | none=>#[]
 | none=>z4
theorem Fr.sc {B:Nat} {W X:World} {p:Addr} {u:Value} (h:Fr B W X) (hp:p.block<B):Fr B W (X.setCell p u):=⟨by rw[World.size_setCell];exact h.size,fun b o hb ho=>(Below.heap_setCell X p u b (by omega)).trans (h.keep b o hb ho)⟩
theorem Fr.dr {B:Nat} {W X:World} (h:Fr B W X):Fr B W X.drew:=⟨h.size,h.keep⟩
theorem J7 (w:World) (p:Addr) (u:Value):w.drew.setCell p u=(w.setCell p u).drew:=rfl
theorem VK {X:World} {D:Nat} {o:Obj} (h:X.heap[D]? = some o):X.drew.heap[D]? = some o:=h
theorem Bx.dr {w:World} {g:Nat} {t:TypeId} {cs:Array Value} (h:Bx w g t cs):Bx w.drew g t cs:=h
theorem xI {fn:Func} {t u:Tmp} {g g':Nat} {i a b c e:Value} (hf:fn.results=#[.cell t 3,.cell u 106]) (tmps:Array Value) (w:World) (ht:tmps.getD t undef=.pointer (some ⟨g,0,none⟩)) (hu:tmps.getD u undef=.pointer (some ⟨g',0,none⟩)) (hI:Bx w g 3 #[i]) (hB:Bx w g' 106 #[a,b,c,e]) :
 (results fn tmps).run Tryz.prog w=.ok (.tuple #[i,.agg #[a,b,c,e]]) w:=by
 have k0:=hI.cell 0 rfl;obtain ⟨h0,h1,h2,h3⟩:=hB.p4;have ht':tmps[t]?.getD undef=.pointer (some ⟨g,0,none⟩):=by simpa using ht
 have hu':tmps[u]?.getD undef=.pointer (some ⟨g',0,none⟩):=by simpa using hu
 simp only[results,hf];simp [go_sem,ht',hu',k0,h0,h1,h2,h3,loadVar]
structure Uu (p:Nat->Bool) (w:World) (fv:Value) (pre:List (Nat × Sh.Hn)) (X:World):Prop where
 bl:Below w.heap.size w X
 b3:Bx X w.heap.size 112 #[fv]
 b4:Bx X (w.heap.size+1) 3 #[.int .i64 0]
 b5:Bx X (w.heap.size+1+1) 106 z4
 no:∀j,j<pre.length->p j=false
variable {p:Nat->Bool} {w:World} {fv:Value} {d:Sh.Dl} {hs:List Sh.Hn}
theorem Uu.grow:Bo (Uu p w fv):=fun s X Y h hb=>⟨ah h.bl hb,h.b3.call hb,h.b4.call hb,h.b5.call hb,h.no⟩
theorem Uu.put {B:Nat} (hB:w.heap.size<=B):KI B (Uu p w fv):=fun s X l o o' h hl ho hc=>⟨h.bl.trans (dV (by omega) ho),jq h.b3 ho hc,jq h.b4 ho hc,jq h.b5 ho hc,h.no⟩
structure FcX (p:Nat->Bool) (d:Sh.Dl) (hs:List Sh.Hn) (w:World) (c:Code) (pre:List (Nat × Sh.Hn)) (X:World):Prop where
 c:c=.ret
 bl:Below w.heap.size w X
 ex:∃i h,hs[i]? = some h/\DT p hs.length=some i/\Bx X (w.heap.size+1) 3 #[.int .i64 (i:Nat)]/\Bx X (w.heap.size+1+1) 106 (Ib d hs i h)
theorem FcX.grow (c:Code):Bo (FcX p d hs w c):=fun s X Y h hb=>by
 obtain⟨h1,h2,i,g,h3,h4,h5,h6⟩:=h;exact ⟨h1,ah h2 hb,i,g,h3,h4,h5.call hb,h6.call hb⟩
theorem FcX.put {B:Nat} (hB:w.heap.size<=B) (c:Code):KI B (FcX p d hs w c):=fun s X l o o' h hl ho hc=>by
 obtain⟨h1,h2,i,g,h3,h4,h5,h6⟩:=h;exact ⟨h1,h2.trans (dV (by omega) ho),i,g,h3,h4,jq h5 ho hc,jq h6 ho hc⟩
theorem MQ (ks:List (List UInt8)) (K:Option Addr) (kc gk gB:Nat) (d:Sh.Dl) (hs:List Sh.Hn) (A:Option Addr) (cap:Nat) (w:World) (Bk:Bx w gk 34 #[.slice K 8 kc]) (hK:At 1 lg w w.heap.size K ks) (h8:ks.length=8) (hkc:8<=kc) (hks:∀k∈ks,k.length<=1000)
 (BA:Bx w gB 32 (eP d (.slice A hs.length cap))) (hA:At 3 dS w w.heap.size A hs) (hcap:hs.length<=cap) (hf:lZ d hs) (hR:Rnd w) :
 Calls Tryz.prog 35 #[.func (.func 81) #[] #[.pointer (some ⟨gB,0,none⟩)],.func (.func 37) #[] #[.pointer (some ⟨gk,0,none⟩)]] w
  fun e w'=>e=.returned (.tuple #[.int .i64 (ixF (DT (nN ks d hs) hs.length)),.agg (hdO d hs (DT (nN ks d hs) hs.length))])/\Below w.heap.size w w':=by
 have hl8:=hf.len.2;have hdl:=hf.dl;have hhn:=hf.hn;have hKw:∀X,Below w.heap.size w X->Bx X gB 32 (eP d (.slice A hs.length cap))/\At 3 dS X X.heap.size A hs:=fun X hX=>⟨BA.call hX,hA.bY hX⟩
 have VX:=fun (i:Nat) (h:Sh.Hn) (hi:hs[i]? = some h) X (hX:Below w.heap.size w X)=>SH ks K kc gk d hs i h X (Bk.call hX) (hK.bY hX) h8 hkc hks (by have:=(hf.hand i h hi).1;omega) (by have:=(List.getElem?_eq_some_iff.1 hi).1;omega) (hhn h (List.mem_of_getElem? hi)) hdl hhn (hR.below hX)
 have hsh:∀(i:Nat) (h:Sh.Hn),hs[i]? = some h->Jv ks d hs i h=nN ks d hs i:=fun i h hi=>by unfold nN;rw[hi]
 have hbW:=bNew (bNew (fP w (.cells #[.func (.func 37) #[] #[.pointer (some ⟨gk,0,none⟩)]] 112)) (.cells #[.int .i64 0] 3)) (.cells z4 106);have B3:=((Bx.mk w 112 #[.func (.func 37) #[] #[.pointer (some ⟨gk,0,none⟩)]]).new (.cells #[.int .i64 0] 3)).new (.cells z4 106);have B4:=(Bx.mk (w.alloc (.cells #[.func (.func 37) #[] #[.pointer (some ⟨gk,0,none⟩)]] 112)) 3 #[.int .i64 0]).new (.cells z4 106);have B5:=Bx.mk ((w.alloc (.cells #[.func (.func 37) #[] #[.pointer (some ⟨gk,0,none⟩)]] 112)).alloc (.cells #[.int .i64 0] 3)) 106 z4;simp only[World.size_alloc]at B4 B5;have hseq:=MJ 3 (by decide) d hs A cap gB hdl hhn (by omega) hcap;generalize nN ks d hs=p at *;refine (callsIn_wide (n:=4)).1 ?_;refine callsIn_of_wp_marks Tryz.func35 rfl trivial ?_ rfl;simp only[Tryz.ntmps35,List.size_toArray,List.length_cons,List.length_nil,Nat.reduceAdd,Nat.reduceSub,Array.replicate_succ,Array.replicate_zero,List.push_toArray,List.append_toArray,List.nil_append,List.cons_append];refine wpIn_wide.2 ?_
 unfold z4 at *
 go_wp2_with fail;generalize ((w.alloc (.cells #[.func (.func 37) #[] #[.pointer (some ⟨gk,0,none⟩)]] 112)).alloc (.cells #[.int .i64 0] 3)).alloc (.cells #[.int .i64 0,.int .i64 0,.string ⟨#[]⟩,.string ⟨#[]⟩] 106)=W3 at *;have hw3:=hbW.size;have l5:=B5.lt;have hz:Uu p w (.func (.func 37) #[] #[.pointer (some ⟨gk,0,none⟩)]) [] W3:=⟨hbW,B3,B4,B5,fun j hj=>absurd hj (Nat.not_lt_zero _)⟩
 clear B3 B4 B5 hK hA hR hks Bk BA;refine (wpIn_wide (n:=4)).1 ?_
 refine zx (by decide) (gf:=81) (lb:=#[.pointer (some ⟨gB,0,none⟩)]) rfl (enters_of Tryz.func81 (by kernel_rfl) rfl) hseq (fun X hX=>hKw X (ah hbW hX)) (fun _=>rfl)
  (Uu p w (.func (.func 37) #[] #[.pointer (some ⟨gk,0,none⟩)])) (FcX p d hs w) Uu.grow (Uu.put (by omega)) FcX.grow (FcX.put (by omega)) (fun s X h=>hKw X h.bl) (fun _ _ _=>trivial) hz 6 7 (fun x=>.int .i64 x.1) 106 (fun x=>Ib d hs x.1 x.2) ?assign ?body ?done ?stop
 case assign =>
  rintro lp ⟨k,h⟩ W K hK;simp only[hdE,Ib,wQ]at hK ⊢
  gi_wp2
  have hk9:=hK _ _ (fP W _) (Bx.mk W _ _);simp only[List.setIfInBounds_toArray,List.set_cons_succ,List.set_cons_zero]at hk9;exact hk9
 case body =>
  rintro lp pre ⟨k,h⟩ gb W hI HB ⟨hk,hgo⟩;dsimp only at hk hgo HB;subst hk;simp only[hdE,wQ,List.setIfInBounds_toArray,List.set_cons_succ,List.set_cons_zero];have hC:=VX pre.length h hgo W hI.bl;have hpk:=hsh pre.length h hgo
  unfold Ib at HB hC ⊢
  have c3:=hI.b3.cell 0 rfl;have h0:=HB.cell 0 (v:=.int .i64 h.c) rfl;have h1:=HB.cell 1 (v:=.int .i64 h.l) rfl;have h2:=HB.cell 2 (v:=.string ⟨h.s.toArray⟩) rfl;have h3:=HB.cell 3 rfl;rw [hpk]at hC;have hCs:Ib d hs pre.length h=#[.int .i64 h.c,.int .i64 h.l,.string ⟨h.s.toArray⟩,.string ⟨(Sh.cont d pre.length h.c h.l (bf hs pre.length)).toArray⟩]:=rfl;generalize Sh.cont d pre.length h.c h.l (bf hs pre.length)=ct at *;clear VX hsh hKw
  gi_wp2_with fail
  refine⟨trivial,((callsIn_wide.2 hC).inRound _).mono ?_⟩;rintro _ W5 ⟨rfl,hb5⟩;have Gp:=Uu.grow _ _ _ hI hb5;have HB5:=HB.call hb5;obtain ⟨b,hbk⟩:∃b,Kp (p pre.length=b):=⟨_,⟨rfl⟩⟩
  rw[hbk.out];clear h0 h1 h2 h3 c3 hC hpk HB hI
  cases b with
  | false =>
   have hI6:Uu p w (.func (.func 37) #[] #[.pointer (some ⟨gk,0,none⟩)]) (pre++[(pre.length,h)]) W5:=⟨Gp.bl,Gp.b3,Gp.b4,Gp.b5,fun j hj=>by
    rw[List.length_append,List.length_singleton]at hj
    rcases Nat.lt_or_ge j pre.length with h9|h9
    · exact Gp.no j h9
    · rw[show j=pre.length by omega];exact hbk.out⟩
   gi_wp2_with fail
   exact⟨Fr.below hb5,hI6⟩
  | true =>
   have hfs:DT p hs.length=some pre.length:=sK.2 ⟨hbk.out,(List.getElem?_eq_some_iff.1 hgo).1,fun j hj=>Gp.no j (by omega)⟩;obtain ⟨bl5,b3,b4,b5,no5⟩:=Gp
   have hne:gb≠w.heap.size+1:=by
    rintro rfl;have h9:=(show W5.heap[w.heap.size+1]? = _ from b4).symm.trans HB5;exact absurd (Obj.cells.inj (Option.some.inj h9)).2.1 (by decide)
   have h0:=HB5.cell 0 (v:=.int .i64 h.c) rfl;have h1:=HB5.cell 1 (v:=.int .i64 h.l) rfl;have h2:=HB5.cell 2 (v:=.string ⟨h.s.toArray⟩) rfl;have h3:=HB5.cell 3 rfl;have HS:=HB5.far (p:=⟨w.heap.size+1,0,none⟩) hne (.int .i64 (pre.length:Nat));have y0:=HS.cell 0 (v:=.int .i64 h.c) rfl;have y1:=HS.cell 1 (v:=.int .i64 h.l) rfl;have y2:=HS.cell 2 (v:=.string ⟨h.s.toArray⟩) rfl;have y3:=HS.cell 3 rfl;have e4:=b4.cell 0 rfl;have f4:=b4.frozen 0;obtain ⟨e50,e51,e52,e53⟩:=b5.p4;have f50:=fun i=>b5.frozen i
   have hfr:=(((((Fr.below (B:=W3.heap.size) hb5).sc (p:=⟨w.heap.size+1,0,none⟩) (u:=.int .i64 (pre.length:Nat)) (by dsimp only;omega)).sc (p:=⟨w.heap.size+1+1,0,none⟩) (u:=.int .i64 h.c) (by dsimp only;omega)).sc (p:=⟨w.heap.size+1+1,1,none⟩) (u:=.int .i64 h.l) (by dsimp only;omega)).sc (p:=⟨w.heap.size+1+1,2,none⟩) (u:=.string ⟨h.s.toArray⟩) (by dsimp only;omega)).sc (p:=⟨w.heap.size+1+1,3,none⟩) (u:=.string ⟨ct.toArray⟩) (by dsimp only;omega) |>.dr
   have hbl:=(aK (aK (aK (aK (aK bl5 (p:=⟨w.heap.size+1,0,none⟩) (by dsimp only;omega) (.int .i64 (pre.length:Nat))) (p:=⟨w.heap.size+1+1,0,none⟩) (by dsimp only;omega) (.int .i64 h.c)) (p:=⟨w.heap.size+1+1,1,none⟩) (by dsimp only;omega) (.int .i64 h.l)) (p:=⟨w.heap.size+1+1,2,none⟩) (by dsimp only;omega) (.string ⟨h.s.toArray⟩)) (p:=⟨w.heap.size+1+1,3,none⟩) (by dsimp only;omega) (.string ⟨ct.toArray⟩)).drew;have h4':=Bx.dr (Bx.far (Bx.far (Bx.far (Bx.far (b4.set 0 (.int .i64 (pre.length:Nat))) (p:=⟨w.heap.size+1+1,0,none⟩) (by dsimp only;omega) (.int .i64 h.c)) (p:=⟨w.heap.size+1+1,1,none⟩) (by dsimp only;omega) (.int .i64 h.l)) (p:=⟨w.heap.size+1+1,2,none⟩) (by dsimp only;omega) (.string ⟨h.s.toArray⟩)) (p:=⟨w.heap.size+1+1,3,none⟩) (by dsimp only;omega) (.string ⟨ct.toArray⟩));have h5':=Bx.dr ((((((b5.far (p:=⟨w.heap.size+1,0,none⟩) (by dsimp only;omega) (.int .i64 (pre.length:Nat))).set 0 (.int .i64 h.c)).set 1 (.int .i64 h.l)).set 2 (.string ⟨h.s.toArray⟩)).set 3 (.string ⟨ct.toArray⟩)))
   gi_upto_region 5 with fail
   gi_region
   all_goals (
    gi_wp2_with fail
    try simp only[J7]
    exact⟨hfr,rfl,hbl,pre.length,h,hgo,hfs,h4',by rw[hCs];exact h5'⟩)
 case done =>
  rintro D xs W hD hlen hI hk;have hfs:DT p hs.length=none:=JX.2 fun j hj=>hI.no j (by omega)
  obtain⟨bl,b3,b4,b5,no⟩:=hI;have hlt:=(Array.getElem?_eq_some_iff.1 hk).1;have hbn:=fP W (.cells #[.int .i64 0,.int .i64 0,.string ⟨#[]⟩,.string ⟨#[]⟩] 106);have BZ:=Bx.mk W 106 #[.int .i64 0,.int .i64 0,.string ⟨#[]⟩,.string ⟨#[]⟩];have hkn:=(hbn.block _ hlt).trans hk;replace bl:=ah bl hbn;replace b4:=b4.call hbn;replace b5:=b5.call hbn;have hsz:=hbn.size;have hgl:w.heap.size+1+1<W.heap.size:=by omega
  obtain⟨WA,hWA⟩:∃WA,Kp (W.alloc (.cells #[.int .i64 0,.int .i64 0,.string ⟨#[]⟩,.string ⟨#[]⟩] 106)=WA):=⟨_,⟨rfl⟩⟩
  rw[hWA.out]at BZ hkn bl b4 b5;clear hbn hsz b3 no hseq hz hKw VX hsh;have hbl:=(aK (aK (aK (aK (aK bl (p:=⟨w.heap.size+1,0,none⟩) (by dsimp only;omega) (.int .i64 (-1))) (p:=⟨w.heap.size+1+1,0,none⟩) (by dsimp only;omega) (.int .i64 0)) (p:=⟨w.heap.size+1+1,1,none⟩) (by dsimp only;omega) (.int .i64 0)) (p:=⟨w.heap.size+1+1,2,none⟩) (by dsimp only;omega) (.string ⟨#[]⟩)) (p:=⟨w.heap.size+1+1,3,none⟩) (by dsimp only;omega) (.string ⟨#[]⟩)).drew;have h4':=Bx.dr (Bx.far (Bx.far (Bx.far (Bx.far (b4.set 0 (.int .i64 (-1))) (p:=⟨w.heap.size+1+1,0,none⟩) (by dsimp only;omega) (.int .i64 0)) (p:=⟨w.heap.size+1+1,1,none⟩) (by dsimp only;omega) (.int .i64 0)) (p:=⟨w.heap.size+1+1,2,none⟩) (by dsimp only;omega) (.string ⟨#[]⟩)) (p:=⟨w.heap.size+1+1,3,none⟩) (by dsimp only;omega) (.string ⟨#[]⟩));have h5':=Bx.dr ((((((b5.far (p:=⟨w.heap.size+1,0,none⟩) (by dsimp only;omega) (.int .i64 (-1))).set 0 (.int .i64 0)).set 1 (.int .i64 0)).set 2 (.string ⟨#[]⟩)).set 3 (.string ⟨#[]⟩)));have hkd:=(Below.heap_setCell _ ⟨w.heap.size+1+1,3,none⟩ (.string ⟨#[]⟩) D (by dsimp only;omega)).trans ((Below.heap_setCell _ ⟨w.heap.size+1+1,2,none⟩ (.string ⟨#[]⟩) D (by dsimp only;omega)).trans ((Below.heap_setCell _ ⟨w.heap.size+1+1,1,none⟩ (.int .i64 0) D (by dsimp only;omega)).trans ((Below.heap_setCell _ ⟨w.heap.size+1+1,0,none⟩ (.int .i64 0) D (by dsimp only;omega)).trans ((Below.heap_setCell WA ⟨w.heap.size+1,0,none⟩ (.int .i64 (-1)) D (by dsimp only;omega)).trans hkn))));have hne:W.heap.size≠w.heap.size+1:=by omega
  obtain⟨z0,z1,z2,z3⟩:=BZ.p4;have ZS:=BZ.far (p:=⟨w.heap.size+1,0,none⟩) hne (.int .i64 (-1));obtain ⟨y0,y1,y2,y3⟩:=ZS.p4;have e4:=b4.cell 0 rfl;have f4:=b4.frozen 0;obtain ⟨e50,e51,e52,e53⟩:=b5.p4;have f50:=fun i=>b5.frozen i
  go_upto_region 7 with fail;rw [hWA.out]
  go_region
  all_goals (
   go_wp2
   try simp only[J7]
   have ZF:=(Marks.nil W3.heap.size W3.heap.size _).push hD (Nat.le_refl _) (VK hkd);refine ZF.leave fun W' hb' hB'=>⟨_,xI rfl _ _ rfl rfl (hB' _ _ _ h4') (hB' _ _ _ h5'),?_,hbl.trans (hb'.mono (by omega))⟩
   rw[hfs]
   rfl)
 case stop =>
  rintro D cd pre W hD ⟨rfl,bl,i,h,hgo,hfs,k4,k5⟩ hk;have ZF:=(Marks.nil W3.heap.size W3.heap.size W).push hD (Nat.le_refl _) hk;clear hseq hz hKw VX hsh
  gi_wp2
  refine ZF.leave fun W' hb' hB'=>⟨_,xI rfl _ _ rfl rfl (hB' _ _ _ k4) (hB' _ _ _ k5),?_,bl.trans (hb'.mono (by omega))⟩
  rw[hfs];simp only[hdO,ixF,hgo];rfl
theorem Zl (d:Sh.Dl) (hs:List Sh.Hn) (o:Option Nat) (h:∀i,o=some i->i<hs.length):∃(c:Int) (s ct:ByteArray),hdO d hs o=#[.int .i64 c,.int .i64 (YQ hs o),.string s,.string ct]:=by
 cases o with
 | none=>exact⟨0,⟨#[]⟩,⟨#[]⟩,rfl⟩
 | some i =>
  obtain⟨g,hg⟩:∃g,hs[i]? = some g:=⟨_,List.getElem?_eq_getElem (h i rfl)⟩
  refine⟨g.c,⟨g.s.toArray⟩,⟨(Sh.cont d i g.c g.l (bf hs i)).toArray⟩,?_⟩;simp only[hdO,YQ,hg,Ib,Option.map_some,Option.getD_some]
theorem FI (ks:List (List UInt8)) (K:Option Addr) (kc:Nat) (d:Sh.Dl) (hs:List Sh.Hn) (A:Option Addr) (cap:Nat) (w:World) (hK:At 1 lg w w.heap.size K ks) (h8:ks.length=8) (hkc:8<=kc) (hks:∀k∈ks,uh k)
 (hA:At 3 dS w w.heap.size A hs) (hcap:hs.length<=cap) (hf:lZ d hs) (hR:Rnd w) :
 aT 11 #[.slice K 8 kc,.agg (eP d (.slice A hs.length cap))] w (.tuple #[.int .i64 (Gj ks d hs),.int .i64 (ixF (DT (nN ks d hs) hs.length)),.int .i64 0]):=by
 have QI:∀k∈ks,k.length<=1000:=fun k hk=>by rcases hks k hk with h|h <;> simp[h]
 have hF:=fun w0 (hb0:Below w.heap.size w w0)=>MP d hs A cap w0 (hA.bY hb0) hcap hf
 have hKn:=fun w0 (hb0:Below w.heap.size w w0)=>EO ks K kc w0 (hK.bY hb0) h8 hkc hks
 have hFi:=fun gk gB w0 (hb0:Below w.heap.size w w0) Bk BA=>MQ ks K kc gk gB d hs A cap w0 Bk (hK.bY hb0) h8 hkc QI BA (hA.bY hb0) hcap hf (hR.below hb0)
 have VL:=Zl d hs (DT (nN ks d hs) hs.length) (fun i h=>(sK.1 h).2.1);have hb:=bNew (fP w (.cells #[.slice K 8 kc] 34)) (.cells (eP d (.slice A hs.length cap)) 32);have BK:=(Bx.mk w 34 #[.slice K 8 kc]).new (.cells (eP d (.slice A hs.length cap)) 32);have BA:=Bx.mk (w.alloc (.cells #[.slice K 8 kc] 34)) 32 (eP d (.slice A hs.length cap));rw [World.size_alloc]at BA;have hHd:=fun w0=>QX 4 d (.slice A hs.length cap) w0 ⟨_,_,_,rfl⟩
 unfold Gj
 generalize DT (nN ks d hs) hs.length=o at *;obtain ⟨c9,s9,ct9,VL⟩:=VL;rw [VL]at hFi;generalize YQ hs o=lv at *;generalize ixF o=ix at *
 unfold eP at *
 clear hK hA hks QI VL hf hR;have hF1:=hF _ hb;have a0:=BA.cell 0 (v:=.int .i64 d.r) rfl;have a1:=BA.cell 1 (v:=.int .i64 d.d) rfl;have a2:=BA.cell 2 (v:=.int .i64 d.t) rfl;have a3:=BA.cell 3 (v:=.int .i64 d.n) rfl;have a4:=BA.cell 4 (v:=.slice A hs.length cap) rfl
 go_enter Tryz.func11,Tryz.ntmps11
 go_wp2_with fail;refine hF1.mono ?_;rintro _ w1 ⟨rfl,hb1⟩;replace hb:=ah hb hb1;replace BK:=BK.call hb1;replace BA:=BA.call hb1;have k0:=BK.cell 0 rfl;have hK1:=hKn _ hb;clear hF1 hF hKn a0 a1 a2 a3 a4 hb1;go_wp2_with fail;refine hK1.mono ?_;rintro _ w2 ⟨rfl,hb1⟩;replace hb:=ah hb hb1;replace BK:=BK.call hb1;replace BA:=BA.call hb1;have a0:=BA.cell 0 (v:=.int .i64 d.r) rfl;have a1:=BA.cell 1 (v:=.int .i64 d.d) rfl;have a2:=BA.cell 2 (v:=.int .i64 d.t) rfl;have a3:=BA.cell 3 (v:=.int .i64 d.n) rfl;have a4:=BA.cell 4 (v:=.slice A hs.length cap) rfl;clear hK1 k0 hb1;go_wp2_with fail;refine ((callsIn_wide (n:=4)).1 (hHd _)).mono ?_;rintro _ _ ⟨rfl,rfl⟩;have hbn:=fP w2 (.cells #[.int .i64 d.r,.int .i64 d.d,.int .i64 d.t,.int .i64 d.n,.slice A hs.length cap] 32);have BB:=Bx.mk w2 32 #[.int .i64 d.r,.int .i64 d.d,.int .i64 d.t,.int .i64 d.n,.slice A hs.length cap];replace hb:=ah hb hbn;replace BK:=BK.call hbn;have hFi1:=hFi _ _ _ hb BK BB;clear hHd hFi a0 a1 a2 a3 a4 BA hbn BB BK;go_wp2_with fail;refine hFi1.mono ?_;rintro _ w3 ⟨rfl,hb1⟩;replace hb:=ah hb hb1;clear hFi1 hb1;have hbn:=fP w3 (.cells #[.int .i64 c9,.int .i64 lv,.string s9,.string ct9] 106);have BH:=Bx.mk w3 106 #[.int .i64 c9,.int .i64 lv,.string s9,.string ct9];replace hb:=ah hb hbn;have h1:=BH.cell 1 (v:=.int .i64 lv) rfl;clear hbn;go_wp2_with fail
 go_ret3
 exact⟨rfl,hb⟩
attribute [local go_sem] Oper.semAt_some
structure AX where
 d:Sh.Dl
 hs:List Sh.Hn
 v:Value
def axC (x:AX):List Value:=[.int .i64 x.d.r,.int .i64 x.d.d,.int .i64 x.d.t,.int .i64 x.d.n,x.v]
def TR (x:AX) (w:World):Prop:=∃A c,x.v=.slice A x.hs.length c/\At 3 dS w w.heap.size A x.hs/\x.hs.length<=c
theorem TR.call {x:AX} {w w':World} (h:TR x w) (hb:Below w.heap.size w w'):TR x w':=by
 obtain⟨A,c,h1,h2,h3⟩:=h;exact ⟨A,c,h1,h2.bY hb,h3⟩
def cT (num:Int) (x:AX × Int):Bool:=x.1.d.r==num
def cC (ks:List (List UInt8)) (num:Int) (x:AX × Int):Bool:=(x.1.d.r==num)&&Uk ks ((x.1.d,x.1.hs),x.2)
def Gz (num cn cd:Int) (tr co:Nat):Array Value:=#[.int .i64 2,.int .i64 num,.int .i64 cn,.int .i64 cd,.int .i64 (tr:Int),.int .i64 (co:Int),.slice none 0 0,.int .i64 0,.int .i64 0,.int .i64 0]
def UN:Array Value:=#[.int .i64 0,.int .i64 0,.int .i64 0,.int .i64 0,.int .i64 0,.int .i64 0,.slice none 0 0,.int .i64 0,.int .i64 0,.int .i64 0]
theorem Lu {fn:Func} {t u:Tmp} {g:Nat} {c0 c1 c2 c3 c4 c5 c6 c7 c8 c9 f:Value} (hf:fn.results=#[.cell t 72,.tmp u]) (tmps:Array Value) (w:World) (ht:tmps.getD t undef=.pointer (some ⟨g,0,none⟩)) (hu:tmps.getD u undef=f) (hB:Bx w g 72 #[c0,c1,c2,c3,c4,c5,c6,c7,c8,c9]) :
 (results fn tmps).run Tryz.prog w=.ok (.tuple #[.agg #[c0,c1,c2,c3,c4,c5,c6,c7,c8,c9],f]) w:=by
 obtain⟨h0,h1,h2,h3,h4,h5,h6,h7,h8,h9⟩:=hB.p10;have ht':tmps[t]?.getD undef=.pointer (some ⟨g,0,none⟩):=by simpa using ht
 have hu':tmps[u]?.getD undef=f:=by simpa using hu
 simp only[results,hf];simp [go_sem,ht',hu',h0,h1,h2,h3,h4,h5,h6,h7,h8,h9,loadVar]
set_option maxHeartbeats 16000000 in
theorem SN (ks:List (List UInt8)) (K:Option Addr) (kc:Nat) (ls:List AX) (A5:Option Addr) (c5:Nat) (fr:List Int) (AF:Option Addr) (cF:Nat) (num cn cd:Int) (w:World) (hK:At 1 lg w w.heap.size K ks) (h8:ks.length=8) (hkc:8<=kc) (hks:∀k∈ks,uh k)
 (hL:At 5 axC w w.heap.size A5 ls) (hl5:ls.length<=c5) (hl50:ls.length<=50) (hax:∀x∈ls,TR x w/\lZ x.d x.hs) (hF:At 1 AA w w.heap.size AF fr) (hfl:fr.length=ls.length) (hfc:ls.length<=cF) (hfr:∀x∈fr,0<=x/\x<=7)
 (hnum:0<=num/\num<=99999999) (hcd:1<=cd/\cd<=1000) (hcn:0<=cn/\cn<=cd) (hR:Rnd w) :
 Calls Tryz.prog 15 #[.slice K 8 kc,.slice A5 ls.length c5,.slice AF ls.length cF,.int .i64 num,.agg #[.int .i64 cn,.int .i64 cd]] w
  fun e w'=>e=.returned (.tuple #[.agg (Gz num cn cd (cnt (cT num) (ls.zip fr) ls.length) (cnt (cC ks num) (ls.zip fr) ls.length)),.int .i64 0])/\Below w.heap.size w w':=by
 have hb:=bNew (fP w (.cells #[.int .i64 cn,.int .i64 cd] 39)) (.cells UN 72);have BC:=(Bx.mk w 39 #[.int .i64 cn,.int .i64 cd]).new (.cells UN 72);have BO:=Bx.mk (w.alloc (.cells #[.int .i64 cn,.int .i64 cd] 39)) 72 UN;rw [World.size_alloc]at BO;have hN:=fun w0=>aO (bW num 0 99999999 w0)
 rw[Tp.within_iff.2 hnum]at hN;have hCh:=fun w0=>vK cn cd w0
 rw[tN.2 ⟨hcd.1,hcd.2,hcn.1,hcn.2⟩]at hCh;have hCf:=fun w0 (hb0:Below w.heap.size w w0)=>R_ fr AF cF w0 (hF.bY hb0) (by omega) (by omega) hfr
 rw[hfl]at hCf;have h50:decide ((ls.length:Int) > 50)=false:=decide_eq_false (by omega);have hCk:=fun (x:AX) (hx:x∈ls) A c (hv:x.v=.slice A x.hs.length c) (hA:At 3 dS w w.heap.size A x.hs) (hc:x.hs.length<=c) w0 (hb0:Below w.heap.size w w0)=>FI ks K kc x.d x.hs A c w0 (hK.bY hb0) h8 hkc hks (hA.bY hb0) hc (hax x hx).2 (hR.below hb0)
 have hflK:=Kp.mk hfl
 unfold UN at *
 clear hfr hcn hcd hnum hfl
 go_enter Tryz.func15,Tryz.ntmps15
 go_wp2_with fail;refine (hN _).mono ?_;rintro _ w1 ⟨rfl,hb1⟩;replace hb:=ah hb hb1;replace BC:=BC.call hb1;replace BO:=BO.call hb1;have c0:=BC.cell 0 rfl;have c1:=BC.cell 1 rfl;clear hb1 hN;go_wp2_with fail;refine (hCh _).mono ?_;rintro _ w2 ⟨rfl,hb1⟩;replace hb:=ah hb hb1;replace BC:=BC.call hb1;replace BO:=BO.call hb1;have hCf1:=hCf _ hb;clear c0 c1 hb1 hCh hCf;go_wp2_with fail;refine hCf1.mono ?_;rintro _ w3 ⟨rfl,hb1⟩;replace hb:=ah hb hb1;replace BC:=BC.call hb1;replace BO:=BO.call hb1;have hbn:=fP w3 (.cells #[.int .i64 2,.int .i64 num,.int .i64 cn,.int .i64 cd,.int .i64 0,.int .i64 0,.slice none 0 0,.int .i64 0,.int .i64 0,.int .i64 0] 72);have BS:=Bx.mk w3 72 #[.int .i64 2,.int .i64 num,.int .i64 cn,.int .i64 cd,.int .i64 0,.int .i64 0,.slice none 0 0,.int .i64 0,.int .i64 0,.int .i64 0];have hg3:w.heap.size+1<w3.heap.size:=BO.lt;have c0:=BC.cell 0 rfl;have c1:=BC.cell 1 rfl;replace hb:=ah hb hbn;replace BO:=BO.call hbn;obtain ⟨g3,hg⟩:∃g3,Kp (w3.heap.size=g3):=⟨_,⟨rfl⟩⟩
 rw[hg.out]at BS hg3;have h0T:Kp (cnt (cT num) (ls.zip fr) 0=0):=⟨rfl⟩
 have h0C:Kp (cnt (cC ks num) (ls.zip fr) 0=0):=⟨rfl⟩
 clear hCf1 hb1 BC hbn h50;go_wp2_with fail;rw [hg.out];clear hg
 go_loopw [50] (fun s50 wr=>∃k:Nat,k<=ls.length/\s50=.int .i64 k/\Bx wr g3 72 (Gz num cn cd (cnt (cT num) (ls.zip fr) k) (cnt (cC ks num) (ls.zip fr) k))/\Bx wr (w.heap.size+1) 72 #[.int .i64 0,.int .i64 0,.int .i64 0,.int .i64 0,.int .i64 0,.int .i64 0,.slice none 0 0,.int .i64 0,.int .i64 0,.int .i64 0]/\Below w.heap.size w wr) (fun s50 _=>ls.length-(intOf s50).toNat)
 case atStart=>exact⟨0,Nat.zero_le _,rfl,by rw[h0T.out,h0C.out];exact BS,BO,hb⟩
 case round =>
  clear h0T h0C BS BO hb c0 c1;obtain ⟨k,hk,rfl,BS,BO,hb⟩:=hrel;by_cases hlt:k<ls.length
  · obtain⟨x,hx⟩:∃x,ls[k]? = some x:=⟨_,List.getElem?_eq_getElem hlt⟩
    obtain⟨f,hf⟩:∃f,fr[k]? = some f:=⟨_,List.getElem?_eq_getElem (by rw[hflK.out];exact hlt)⟩
    have hz:(ls.zip fr)[k]? = some (x,f):=by rw[List.getElem?_zip_eq_some];exact⟨hx,hf⟩
    have hxm:=List.mem_of_getElem? hx;obtain ⟨⟨A,c,hv,hA,hc⟩,hfm⟩:=hax x hxm;have ZJ:=hCk x hxm A c hv hA hc;obtain ⟨p5,o5,rfl,Qy,iR⟩:=hL (by omega);obtain ⟨pF,oF,rfl,hpF,yB⟩:=hF (by rw[hflK.out];omega);obtain ⟨p,off,rfl,hp,hcell⟩:=hA (by have:=hfm.len.1;omega);obtain ⟨g0,hg0⟩:∃g,x.hs[0]? = some g:=⟨_,List.getElem?_eq_getElem hfm.len.1⟩
    have q0:wr.cell? ⟨p5,o5+k*5,none⟩=some (.int .i64 x.d.r):=(hb.cell (p:=⟨p5,o5+k*5,none⟩) Qy).trans (iR k x hx 0 _ rfl);have q1:=(hb.cell (p:=⟨p5,o5+k*5+1,none⟩) Qy).trans (iR k x hx 1 _ rfl);have q2:=(hb.cell (p:=⟨p5,o5+k*5+2,none⟩) Qy).trans (iR k x hx 2 _ rfl);have q3:=(hb.cell (p:=⟨p5,o5+k*5+3,none⟩) Qy).trans (iR k x hx 3 _ rfl);have q4:=(hb.cell (p:=⟨p5,o5+k*5+4,none⟩) Qy).trans (iR k x hx 4 _ rfl);rw [hv]at q4;have hT1:Kp (cnt (cT num) (ls.zip fr) (k+1)=cnt (cT num) (ls.zip fr) k+if (x.d.r==num) then 1 else 0):=⟨sZ hz⟩
    have hcA:Uk ks ((x.d,x.hs),f)=((Gj ks x.d x.hs==3)&&(g0.c != f)):=by
     unfold Uk c0
     rw[hg0];simp only[Option.map_some,Option.getD_some,bne,ne_eq];by_cases h1:Gj ks x.d x.hs=3 <;> by_cases h2:g0.c=f <;> simp[h1,h2]
    have AU:Kp (cnt (cC ks num) (ls.zip fr) (k+1)=cnt (cC ks num) (ls.zip fr) k+if ((x.d.r==num)&&((Gj ks x.d x.hs==3)&&(g0.c != f))) then 1 else 0):=⟨by
     rw[sZ hz]
     show cnt (cC ks num) (ls.zip fr) k+(if ((x.d.r==num)&&Uk ks ((x.d,x.hs),f))=true then 1 else 0)=_
     rw[hcA]⟩
    have trl:cnt (cT num) (ls.zip fr) k<=k:=cnt_le;have col:cnt (cC ks num) (ls.zip fr) k<=k:=cnt_le;obtain ⟨tr1,Qs⟩:∃tr1,Kp (cnt (cT num) (ls.zip fr) (k+1)=tr1):=⟨_,⟨rfl⟩⟩
    obtain⟨Z7,QU⟩:∃Z7,Kp (cnt (cC ks num) (ls.zip fr) (k+1)=Z7):=⟨_,⟨rfl⟩⟩
    rw[Qs.out]at hT1;rw [QU.out]at AU;have hc0c:∀X,Below w.heap.size w X->X.cell? ⟨p,off,none⟩=some (.int .i64 g0.c):=fun X hX=>(hX.cell (p:=⟨p,off,none⟩) hp).trans (by have h9:=hcell 0 g0 hg0 0 _ rfl;simpa using h9)
    have hfc:∀X,Below w.heap.size w X->X.cell? ⟨pF,oF+k,none⟩=some (.int .i64 f):=fun X hX=>(hX.cell (p:=⟨pF,oF+k,none⟩) hpF).trans (by have h9:=yB k f hf 0 _ rfl;simpa using h9)
    have hl1:1<=x.hs.length:=hfm.len.1;generalize cnt (cT num) (ls.zip fr) k=tr at *;generalize cnt (cC ks num) (ls.zip fr) k=co at *;generalize Gj ks x.d x.hs=lv at *;generalize ixF (DT (nN ks x.d x.hs) x.hs.length)=ix at *;generalize g0.c=gc at *
    unfold eP at ZJ
    have hbn:=fP wr (.cells #[.int .i64 x.d.r,.int .i64 x.d.d,.int .i64 x.d.t,.int .i64 x.d.n,.slice (some ⟨p,off,none⟩) x.hs.length c] 32);have BA:=Bx.mk wr 32 #[.int .i64 x.d.r,.int .i64 x.d.d,.int .i64 x.d.t,.int .i64 x.d.n,.slice (some ⟨p,off,none⟩) x.hs.length c];have hgw:g3≠wr.heap.size:=by have:=BS.lt;omega
    replace hb:=ah hb hbn;replace BS:=BS.call hbn;replace BO:=BO.call hbn;have hCk2:=ZJ _ hb;obtain ⟨a0,a1,a2,a3,a4⟩:=BA.p5;clear hcA hz hcell yB iR hxm hx hf hfm hA ZJ hbn hv;go_wp2_with fail;refine hCk2.mono ?_;rintro _ w4 ⟨rfl,hb1⟩;replace hb:=ah hb hb1;replace BS:=BS.call hb1;replace BO:=BO.call hb1;replace BA:=BA.call hb1;clear a0 a1 a2 a3 a4 hCk2 hb1 q0 q1 q2 q3 q4
    unfold Gz at BS
    have a0:=BA.cell 0 (v:=.int .i64 x.d.r) rfl;have s4:=BS.cell 4 (v:=.int .i64 tr) rfl;have s4f:=BS.frozen 4
    cases ht:(x.d.r==num) with
    | false =>
     obtain rfl:tr1=tr:=by have:=hT1.out;rw[ht]at this;simpa using this
     obtain rfl:Z7=co:=by have:=AU.out;rw[ht]at this;simpa using this
     clear hT1 AU;go_wp2_with fail;exact ⟨⟨k+1,by omega,by go_num,by rw[Qs.out,QU.out];exact BS,BO,hb⟩,by simp[intOf];omega⟩
    | true =>
     obtain rfl:tr1=tr+1:=by have:=hT1.out;rw[ht]at this;simpa using this
     have hC2:Kp (Z7=co+if ((lv==3)&&(gc != f)) then 1 else 0):=⟨by have:=AU.out;rw[ht]at this;simpa using this⟩
     clear hT1 AU;have hg3w:w.heap.size<=g3:=by omega
     have BS5:=BS.set 4 (.int .i64 ((tr:Int)+1));have BO5:=BO.far (p:=⟨g3,4,none⟩) (by dsimp only;omega) (.int .i64 ((tr:Int)+1));have BA5:=BA.far (p:=⟨g3,4,none⟩) (by dsimp only;omega) (.int .i64 ((tr:Int)+1));have hb5:=aK hb (p:=⟨g3,4,none⟩) hg3w (.int .i64 ((tr:Int)+1));go_upto_region 13 with fail;generalize w4.setCell ⟨g3,4,none⟩ (.int .i64 ((tr:Int)+1))=W5 at *;clear BS BO BA hb a0 s4 s4f;have z4:=fun d os=>(BA5.again d os).cell 4 (v:=.slice (some ⟨p,off,none⟩) x.hs.length c) rfl
     have zc:=fun d os=>hc0c (Sort.grow (redrawn W5 d) os) (ah hb5 (below_regrown W5 d os))
     have zf:=fun d os=>hfc (Sort.grow (redrawn W5 d) os) (ah hb5 (below_regrown W5 d os))
     have hdone:∀W6:World,Below W5.heap.size W5 W6->Bx W6 g3 72 (Gz num cn cd (tr+1) co)/\Bx W6 (w.heap.size+1) 72 #[.int .i64 0,.int .i64 0,.int .i64 0,.int .i64 0,.int .i64 0,.int .i64 0,.slice none 0 0,.int .i64 0,.int .i64 0,.int .i64 0]/\Below w.heap.size w W6:=fun W6 h6=>⟨(BS5.call h6),BO5.call h6,ah hb5 h6⟩
     have ways:((lv==3)=false/\Kp (Z7=co))∨((lv==3)=true/\(gc != f)=false/\Kp (Z7=co))∨((lv==3)=true/\(gc != f)=true/\Kp (Z7=co+1)):=by
      have:=hC2.out;cases h1:(lv==3) <;> cases h2:(gc != f) <;> simp[h1,h2]at this ⊢ <;> exact⟨this⟩
     clear hC2 hb5 BA5 BO5
     rcases ways with ⟨t1,hco⟩|⟨t1,t2,hco⟩|⟨t1,t2,hco⟩
     · refine wp_region_quiet_below (by kernel_rfl) (by kernel_rfl) ?_
       repeat (go_big_quiet_step (fail))
       refine wpQuiet_nil ?_;rintro _ ⟨q,rfl⟩;obtain ⟨Yk,BO6,hb6⟩:=hdone _ (below_regrown W5 q.d q.os);obtain rfl:=hco.out;go_wp2_with fail;exact ⟨⟨k+1,by omega,by go_num,by rw[Qs.out,QU.out];exact Yk,BO6,hb6⟩,by simp[intOf];omega⟩
     · refine wp_region_quiet_below (by kernel_rfl) (by kernel_rfl) ?_
       repeat (go_big_quiet_step (fail))
       refine wpQuiet_nil ?_;rintro _ ⟨q,rfl⟩;obtain ⟨Yk,BO6,hb6⟩:=hdone _ (below_regrown W5 q.d q.os);obtain rfl:=hco.out;go_wp2_with fail;exact ⟨⟨k+1,by omega,by go_num,by rw[Qs.out,QU.out];exact Yk,BO6,hb6⟩,by simp[intOf];omega⟩
     · refine wp_region_quiet_below (by kernel_rfl) (by kernel_rfl) ?_
       repeat (go_big_quiet_step (fail))
       refine wpQuiet_nil ?_;rintro _ ⟨q,rfl⟩;obtain ⟨Yk,BO6,hb6⟩:=hdone _ (below_regrown W5 q.d q.os);clear z4 zc zf hdone;generalize Sort.grow (redrawn W5 q.d) q.os=W6 at *
       unfold Gz at Yk
       have s5:=Yk.cell 5 (v:=.int .i64 co) rfl;have s5f:=Yk.frozen 5;have BS7:=Yk.set 5 (.int .i64 ((co:Int)+1));have BO7:=BO6.far (p:=⟨g3,5,none⟩) (by dsimp only;omega) (.int .i64 ((co:Int)+1));have hb7:=aK hb6 (p:=⟨g3,5,none⟩) hg3w (.int .i64 ((co:Int)+1));go_wp2_with fail;exact ⟨⟨k+1,by omega,by go_num,by rw[Qs.out,QU.out,hco.out];exact BS7,BO7,hb7⟩,by simp[intOf];omega⟩
  · obtain rfl:k=ls.length:=by omega
    obtain⟨tr,htr⟩:∃tr,Kp (cnt (cT num) (ls.zip fr) ls.length=tr):=⟨_,⟨rfl⟩⟩
    obtain⟨co,hco⟩:∃co,Kp (cnt (cC ks num) (ls.zip fr) ls.length=co):=⟨_,⟨rfl⟩⟩
    rw[htr.out,hco.out]at BS
    unfold Gz at BS
    obtain⟨s0,s1,s2,s3,s4,s5,s6,s7,s8,s9⟩:=BS.p10;obtain ⟨o0,o1,o2,o3,o4,o5,o6,o7,o8,o9⟩:=BO.p10;have f0:=BO.frozen 0;have f1:=BO.frozen 1;have f2:=BO.frozen 2;have f3:=BO.frozen 3;have f4:=BO.frozen 4;have f5:=BO.frozen 5;have f6:=BO.frozen 6;have f7:=BO.frozen 7;have f8:=BO.frozen 8;have f9:=BO.frozen 9;go_wp2_with fail;clear s0 s1 s2 s3 s4 s5 s6 s7 s8 s9 f0 f1 f2 f3 f4 f5 f6 f7 f8 f9 o0 o1 o2 o3 o4 o5 o6 o7 o8 o9 BS;replace BO:Bx _ (w.heap.size+1) 72 #[.int .i64 2,.int .i64 0,.int .i64 0,.int .i64 0,.int .i64 0,.int .i64 0,.slice none 0 0,.int .i64 0,.int .i64 0,.int .i64 0]:=BO.set 0 (.int .i64 2);replace hb:=aK hb (p:=⟨w.heap.size+1,0,none⟩) (by dsimp only;omega) (.int .i64 2);replace BO:Bx _ (w.heap.size+1) 72 #[.int .i64 2,.int .i64 num,.int .i64 0,.int .i64 0,.int .i64 0,.int .i64 0,.slice none 0 0,.int .i64 0,.int .i64 0,.int .i64 0]:=BO.set 1 (.int .i64 num);replace hb:=aK hb (p:=⟨w.heap.size+1,1,none⟩) (by dsimp only;omega) (.int .i64 num);replace BO:Bx _ (w.heap.size+1) 72 #[.int .i64 2,.int .i64 num,.int .i64 cn,.int .i64 0,.int .i64 0,.int .i64 0,.slice none 0 0,.int .i64 0,.int .i64 0,.int .i64 0]:=BO.set 2 (.int .i64 cn);replace hb:=aK hb (p:=⟨w.heap.size+1,2,none⟩) (by dsimp only;omega) (.int .i64 cn);replace BO:Bx _ (w.heap.size+1) 72 #[.int .i64 2,.int .i64 num,.int .i64 cn,.int .i64 cd,.int .i64 0,.int .i64 0,.slice none 0 0,.int .i64 0,.int .i64 0,.int .i64 0]:=BO.set 3 (.int .i64 cd);replace hb:=aK hb (p:=⟨w.heap.size+1,3,none⟩) (by dsimp only;omega) (.int .i64 cd);replace BO:Bx _ (w.heap.size+1) 72 #[.int .i64 2,.int .i64 num,.int .i64 cn,.int .i64 cd,.int .i64 (tr:Int),.int .i64 0,.slice none 0 0,.int .i64 0,.int .i64 0,.int .i64 0]:=BO.set 4 (.int .i64 (tr:Int));replace hb:=aK hb (p:=⟨w.heap.size+1,4,none⟩) (by dsimp only;omega) (.int .i64 (tr:Int));replace BO:Bx _ (w.heap.size+1) 72 #[.int .i64 2,.int .i64 num,.int .i64 cn,.int .i64 cd,.int .i64 (tr:Int),.int .i64 (co:Int),.slice none 0 0,.int .i64 0,.int .i64 0,.int .i64 0]:=BO.set 5 (.int .i64 (co:Int));replace hb:=aK hb (p:=⟨w.heap.size+1,5,none⟩) (by dsimp only;omega) (.int .i64 (co:Int));replace BO:Bx _ (w.heap.size+1) 72 #[.int .i64 2,.int .i64 num,.int .i64 cn,.int .i64 cd,.int .i64 (tr:Int),.int .i64 (co:Int),.slice none 0 0,.int .i64 0,.int .i64 0,.int .i64 0]:=BO.set 6 (.slice none 0 0);replace hb:=aK hb (p:=⟨w.heap.size+1,6,none⟩) (by dsimp only;omega) (.slice none 0 0);replace BO:Bx _ (w.heap.size+1) 72 #[.int .i64 2,.int .i64 num,.int .i64 cn,.int .i64 cd,.int .i64 (tr:Int),.int .i64 (co:Int),.slice none 0 0,.int .i64 0,.int .i64 0,.int .i64 0]:=BO.set 7 (.int .i64 0);replace hb:=aK hb (p:=⟨w.heap.size+1,7,none⟩) (by dsimp only;omega) (.int .i64 0);replace BO:Bx _ (w.heap.size+1) 72 #[.int .i64 2,.int .i64 num,.int .i64 cn,.int .i64 cd,.int .i64 (tr:Int),.int .i64 (co:Int),.slice none 0 0,.int .i64 0,.int .i64 0,.int .i64 0]:=BO.set 8 (.int .i64 0);replace hb:=aK hb (p:=⟨w.heap.size+1,8,none⟩) (by dsimp only;omega) (.int .i64 0);replace BO:Bx _ (w.heap.size+1) 72 #[.int .i64 2,.int .i64 num,.int .i64 cn,.int .i64 cd,.int .i64 (tr:Int),.int .i64 (co:Int),.slice none 0 0,.int .i64 0,.int .i64 0,.int .i64 0]:=BO.set 9 (.int .i64 0);replace hb:=aK hb (p:=⟨w.heap.size+1,9,none⟩) (by dsimp only;omega) (.int .i64 0);exact bodyPost_ret (Lu rfl _ _ rfl rfl BO) rfl ⟨by rw[htr.out,hco.out];rfl,hb⟩
end Go.Proofs.YtohgjenaclfegaaGreatDoor

import Derived.Test.YtohgjenaclfegaaGreatDoorQA07
import Derived.Test.YtohgjenaclfegaaGreatDoorQF03
set_option linter.unusedVariables false
set_option linter.unusedSimpArgs false
set_option maxRecDepth 100000
set_option maxHeartbeats 8000000
namespace Go.Proofs.YtohgjenaclfegaaGreatDoor
open Go.RowKit Go.Shelf
attribute [local go_sem] Oper.semAt_some
theorem Dc {fn:Func} {t u:Tmp} {g:Nat} {a b c d e i f:Value} (hf:fn.results=#[.cell t 49,.tmp u]) (tmps:Array Value) (w:World) (ht:tmps.getD t undef=.pointer (some ⟨g,0,none⟩)) (hu:tmps.getD u undef=f) (hB:Bx w g 49 #[a,b,c,d,e,i]) :
 (results fn tmps).run Tryz.prog w=.ok (.tuple #[.agg #[a,b,c,d,e,i],f]) w:=by
 obtain⟨h0,h1,h2,h3,h4,h5⟩:=hB.p6;have ht':tmps[t]?.getD undef=.pointer (some ⟨g,0,none⟩):=by simpa using ht
 have hu':tmps[u]?.getD undef=f:=by simpa using hu
 simp only[results,hf];simp [go_sem,ht',hu',h0,h1,h2,h3,h4,h5,loadVar]
theorem OD (ks:List (List UInt8)) (K:Option Addr) (kc:Nat) (d:Sh.Dl) (hs:List Sh.Hn) (A:Option Addr) (cap:Nat) (w:World) (hK:At 1 h_ w w.heap.size K ks) (h8:ks.length=8) (hkc:8<=kc) (hks:∀k∈ks,mg k)
 (hA:At 3 dw w w.heap.size A hs) (hcap:hs.length<=cap) (hf:iK d hs) (hR:Rnd w) :
 bP 9 #[.slice K 8 kc,.agg (dD d (.slice A hs.length cap)),.int .i64 0,.slice none 0 0] w (.tuple #[.agg (mZ d (qZ ks d hs)),.int .i64 0]):=by
 have L_:=fun w0 (hb0:Below w.heap.size w w0)=>uK ks K kc d hs A cap w0 (hK.aU hb0) h8 hkc hks (hA.aU hb0) hcap hf (hR.below hb0)
 have hb:=bNew (bY w (.cells (dD d (.slice A hs.length cap)) 32)) (.cells #[.int .i64 0,.int .i64 0,.int .i64 0,.int .i64 0,.int .i64 0,.bool false] 49);have BA:=(Bx.mk w 32 (dD d (.slice A hs.length cap))).new (.cells #[.int .i64 0,.int .i64 0,.int .i64 0,.int .i64 0,.int .i64 0,.bool false] 49);have BC:=Bx.mk (w.alloc (.cells (dD d (.slice A hs.length cap)) 32)) 49 #[.int .i64 0,.int .i64 0,.int .i64 0,.int .i64 0,.int .i64 0,.bool false];rw [World.size_alloc]at BC;generalize qZ ks d hs=lv at *
 unfold dD mZ at *
 have E9:=L_ _ hb;obtain ⟨a0,a1,a2,a3,a4⟩:=BA.p5;have hI:=fun w0=>fF 0 0 5 w0
 clear L_ hK hA hR hf hks
 go_enter Tryz.func9,Tryz.ntmps9
 go_wp2_with fail;refine E9.mono ?_;rintro _ w1 ⟨rfl,hb1⟩;replace hb:=ah hb hb1;replace BA:=BA.call hb1;replace BC:=BC.call hb1;clear a0 a1 a2 a3 a4 E9 hb1;go_wp2_with fail;refine (hI _).mono ?_;rintro _ w2 ⟨rfl,hb1⟩;replace hb:=ah hb hb1;replace BA:=BA.call hb1;replace BC:=BC.call hb1;clear hb1 hI;go_wp2_with fail;refine (xw _ _).mono ?_;rintro _ w3 ⟨rfl,hb1⟩;replace hb:=ah hb hb1;replace BA:=BA.call hb1;replace BC:=BC.call hb1;clear hb1;obtain ⟨a0,a1,a2,a3⟩:=BA.p4;have hbn:=bY w3 (.cells #[.int .i64 d.r,.int .i64 d.d,.int .i64 d.t,.int .i64 d.n] 29);have BD:=Bx.mk w3 29 #[.int .i64 d.r,.int .i64 d.d,.int .i64 d.t,.int .i64 d.n];replace hb:=ah hb hbn;replace BC:=BC.call hbn;go_upto_region 7 with fail;generalize w3.alloc (.cells #[.int .i64 d.r,.int .i64 d.d,.int .i64 d.t,.int .i64 d.n] 29)=W0 at *;clear a0 a1 a2 a3 hbn BA;refine RS.au (RS.dX (W0.heap.size) 4 #[] #[]) [] [RS.ak (.pointer (some ⟨w3.heap.size,0,none⟩)),RS.ak (.int .i64 (d.r)),RS.ak (.pointer (some ⟨w3.heap.size,1,none⟩)),RS.ak (.int .i64 (d.d)),RS.ak (.pointer (some ⟨w3.heap.size,2,none⟩)),RS.ak (.int .i64 (d.t)),RS.ak (.int .i64 lv),RS.ak (.int .i64 0),RS.ak (.slice none 0 0),RS.ak (.func (.func 30) #[] #[.pointer (some ⟨w3.heap.size,0,none⟩)]),RS.ak (.bool false),RS.ak (.agg #[.int .i64 d.r,.int .i64 d.d,.int .i64 d.t,.int .i64 lv,.int .i64 0,.bool false])] 12 56 (by kernel_rfl) rfl rfl (by kernel_rfl) (by kernel_rfl) ?_ ?_ ?_
 · simp only[RS.aY]
   and_intros <;> first|exact RS.aI _|trivial
 · simp only[RS.aT,List.take,List.length];refine ⟨?_,?_,?_,?_,?_,?_,?_,?_,?_,?_,?_,?_,trivial⟩;all_goals (intro vs w2 hb2 hd;simp only[RS.aN,Act.put,List.nil_append,List.cons_append,List.setIfInBounds_toArray,List.set_cons_succ,List.set_cons_zero,Nat.reduceAdd])
   · clear hd;go_wp2;exact aO
   · have e0:vs 0=_:=hd 0 rfl;have q0:=(BD.call hb2.bl).cell 0 (v:=.int .i64 d.r) rfl;clear hd;rw [e0];go_wp2;exact aO
   · clear hd;go_wp2;exact aO
   · have e0:vs 2=_:=hd 2 rfl;have q0:=(BD.call hb2.bl).cell 1 (v:=.int .i64 d.d) rfl;clear hd;rw [e0];go_wp2;exact aO
   · clear hd;go_wp2;exact aO
   · have e0:vs 4=_:=hd 4 rfl;have q0:=(BD.call hb2.bl).cell 2 (v:=.int .i64 d.t) rfl;clear hd;rw [e0];go_wp2;exact aO
   · clear hd;go_wp2;exact aO
   · clear hd;go_wp2;exact aO
   · clear hd;go_wp2;exact aO
   · clear hd;go_wp2;exact aO
   · have e0:vs 8=_:=hd 8 rfl;have e1:vs 9=_:=hd 9 rfl;have hC:=xw (.func (.func 30) #[] #[.pointer (some ⟨w3.heap.size,0,none⟩)]) w2;clear hd;rw [e0,e1];go_wp2_with fail;refine hC.mono ?_;rintro _ w9 ⟨rfl,aX⟩;clear hC;have hK9:=hb2.call (Nat.le_refl _) aX;go_wp2;first|exact⟨hK9,rfl⟩|exact hK9|rfl
   · have e0:vs 1=_:=hd 1 rfl;have e1:vs 3=_:=hd 3 rfl;have e2:vs 5=_:=hd 5 rfl;have e3:vs 6=_:=hd 6 rfl;have e4:vs 7=_:=hd 7 rfl;have e5:vs 10=_:=hd 10 rfl;clear hd;rw [e0,e1,e2,e3,e4,e5];go_wp2;exact aO
 · intro vs wa hba hR2;simp only[RS.bV,RS.ak]at hR2;obtain ⟨e0,e1,e2,e3,e4,e5,e6,e7,e8,e9,e10,e11,-⟩:=hR2;simp only[List.drop,List.take,List.map,RS.aN,Act.put,List.setIfInBounds_toArray,List.set_cons_succ,List.set_cons_zero,Nat.reduceAdd];rw [e0,e1,e2,e3,e4,e5,e6,e7,e8,e9,e10,e11];clear e0 e1 e2 e3 e4 e5 e6 e7 e8 e9 e10 e11;replace hb:=ah hb hba.bl;replace BC:=BC.call hba.bl;obtain ⟨z0,z1,z2,z3,z4,z5⟩:=BC.p6;have zf0:=BC.frozen 0;have zf1:=BC.frozen 1;have zf2:=BC.frozen 2;have zf3:=BC.frozen 3;have zf4:=BC.frozen 4;have zf5:=BC.frozen 5;go_wp2_with fail;clear z0 zf0 z1 zf1 z2 zf2 z3 zf3 z4 zf4 z5 zf5;replace BC:Bx _ (w.heap.size+1) 49 #[.int .i64 d.r,.int .i64 0,.int .i64 0,.int .i64 0,.int .i64 0,.bool false]:=BC.set 0 (.int .i64 d.r);replace hb:=aQ hb (p:=⟨w.heap.size+1,0,none⟩) (by dsimp only;omega) (.int .i64 d.r);replace BC:Bx _ (w.heap.size+1) 49 #[.int .i64 d.r,.int .i64 d.d,.int .i64 0,.int .i64 0,.int .i64 0,.bool false]:=BC.set 1 (.int .i64 d.d);replace hb:=aQ hb (p:=⟨w.heap.size+1,1,none⟩) (by dsimp only;omega) (.int .i64 d.d);replace BC:Bx _ (w.heap.size+1) 49 #[.int .i64 d.r,.int .i64 d.d,.int .i64 d.t,.int .i64 0,.int .i64 0,.bool false]:=BC.set 2 (.int .i64 d.t);replace hb:=aQ hb (p:=⟨w.heap.size+1,2,none⟩) (by dsimp only;omega) (.int .i64 d.t);replace BC:Bx _ (w.heap.size+1) 49 #[.int .i64 d.r,.int .i64 d.d,.int .i64 d.t,.int .i64 lv,.int .i64 0,.bool false]:=BC.set 3 (.int .i64 lv);replace hb:=aQ hb (p:=⟨w.heap.size+1,3,none⟩) (by dsimp only;omega) (.int .i64 lv);replace BC:Bx _ (w.heap.size+1) 49 #[.int .i64 d.r,.int .i64 d.d,.int .i64 d.t,.int .i64 lv,.int .i64 0,.bool false]:=BC.set 4 (.int .i64 0);replace hb:=aQ hb (p:=⟨w.heap.size+1,4,none⟩) (by dsimp only;omega) (.int .i64 0);replace BC:Bx _ (w.heap.size+1) 49 #[.int .i64 d.r,.int .i64 d.d,.int .i64 d.t,.int .i64 lv,.int .i64 0,.bool false]:=BC.set 5 (.bool false);replace hb:=aQ hb (p:=⟨w.heap.size+1,5,none⟩) (by dsimp only;omega) (.bool false);exact bodyPost_ret (Dc rfl _ _ rfl rfl BC) rfl ⟨rfl,hb⟩
attribute [local go_sem] Oper.semAt_some
def RF (b:Bool) (x:Unit):Array Value:=#[.agg #[.int .i64 1,.int .i64 3,.int .i64 3,.bool false,.bool b],.bool true]
structure NS (gx gp gR gC gD:Nat) (d:Sh.Dl) (lv:Int) (dc:Array Value) (X:World):Prop where
 bx:Bx X gx 55 dc
 bp:Bx X gp 98 #[.pointer (some ⟨gD,0,none⟩)]
 bd:Bx X gD 163 (RD gR d lv)
 fl:CB gR gC X
theorem NS.call {gx gp gR gC gD:Nat} {d:Sh.Dl} {lv:Int} {dc:Array Value} {X Y:World} (h:NS gx gp gR gC gD d lv dc X) (hb:Below X.heap.size X Y):NS gx gp gR gC gD d lv dc Y:=⟨h.bx.call hb,h.bp.call hb,h.bd.call hb,h.fl.call hb⟩
theorem Eh (n:Nat) (hn1:2<=n) (gx gp gR gC gD:Nat) (d:Sh.Dl) (lv:Int) :
 Iy n Tryz.prog 91 #[.pointer (some ⟨gx,0,none⟩),.pointer (some ⟨gp,0,none⟩)] (RF true) (fun pre _=>pre=[]) (fun xs=>xs=[()]) (fun _=>True)
  (NS gx gp gR gC gD d lv #[.int .i64 1,.int .i64 0,.slice none 0 0,.slice none 0 0]):=by
 intro lp J Jx W hW hJ hJx L8 hG hY hj0;have DT:=Kp.mk L8;have x1:=hW.bx.cell 1 rfl;have x2:=hW.bx.cell 2 rfl;refine callsIn_of_wp Tryz.func91 rfl trivial ?_ rfl;simp only[Tryz.ntmps91,List.size_toArray,List.length_cons,List.length_nil,Nat.reduceAdd,Nat.reduceSub,Array.replicate_succ,Array.replicate_zero,List.push_toArray,List.append_toArray,List.nil_append,List.cons_append]
 gi_wp2_with fail
 gi_loopw [12] (fun s12 wr=>s12=.int .i64 0/\wr=W) (fun s12 _=>0)
 case atStart=>exact⟨rfl,rfl⟩
 case round =>
  obtain⟨rfl,rfl⟩:=hrel
  gi_upto_region 9 with fail
  refine wpIn_wide.2 ?_;have p0:=fun dd os=>(hW.bp.again dd os).cell 0 rfl
  have d0:=fun dd os=>(hW.bd.again dd os).cell 0 (v:=.slice (some ⟨gR,0,none⟩) 1 1) rfl
  have r0:=fun dd os=>(hW.fl.br.again dd os).cell 0 rfl
  have e1:=fun dd os=>(hW.bx.again dd os).cell 1 rfl
  refine wp_region_quiet_below (by kernel_rfl) (by kernel_rfl) ?_
  repeat (go_big_quiet_step (fail))
  refine wpQuiet_nil ?_;rintro _ ⟨q,rfl⟩;have hb1:=below_regrown wr q.d q.os;have hW2:=hW.call hb1;have hj2:=hJ _ _ _ hj0 hb1;generalize Sort.grow (redrawn wr q.d) q.os=W2 at *;clear p0 d0 r0 e1 x1 x2 hb1 hj0 hW
  gi_wp2_with fail
  gi_loopw [58] (fun YG wr=>(YG=.int .i64 0/\J [] wr)∨(YG=.int .i64 1/\J [()] wr)) (fun YG _=>1-(intOf YG).toNat)
  case atStart=>exact .inl ⟨rfl,hj2⟩
  case round =>
   clear hj2 hW2
   rcases hrel with ⟨rfl,hj⟩|⟨rfl,hj⟩
   · have hW3:=DT.out _ _ hj;have BC:=hW3.fl.bc
     unfold vV at BC
     obtain⟨c0,c1,c2,c3⟩:=BC.p4;have hbn:=bY wr (.cells #[.int .i64 1,.int .i64 3,.int .i64 3,.bool false] 41);have BN:=Bx.mk wr 41 #[.int .i64 1,.int .i64 3,.int .i64 3,.bool false];have hj3:=hJ _ _ _ hj hbn
     gi_upto_region 12 with fail
     generalize wr.alloc (.cells #[.int .i64 1,.int .i64 3,.int .i64 3,.bool false] 41)=W4 at *;obtain ⟨fn,tmps,assign,body,hy,hR⟩:=hY [] () W4 hj3 rfl
     unfold RF at hy
     clear c0 c1 c2 c3 hbn BC hW3;obtain ⟨c0,c1,c2,c3⟩:=BN.p4
     gi_wp2_with fail
     refine⟨fun _=>by omega,hR.mono ?_⟩;intro e W5 hh;obtain ⟨bb,rfl,hcase⟩:=Zk hh;clear hR hy hY hh
     rcases hcase with ⟨rfl,hJ3,hk3⟩|⟨rfl,hJx3⟩
     · gi_wp2_with fail
       exact⟨.inr ⟨rfl,hJ3⟩,by simp[intOf]⟩
     · gi_wp2_with fail
       exact bodyPost_ret (results_none rfl _ _ _) rfl ⟨⟨_,rfl⟩,.inr ⟨_,hJx3⟩⟩
   · gi_wp2_with fail
     exact bodyPost_end (results_none rfl _ _ _) rfl ⟨⟨_,rfl⟩,.inl ⟨_,rfl,hj⟩⟩
attribute [local go_sem] Oper.semAt_some
theorem Ih (n:Nat) (hn1:2<=n) (gx gp gR gC gD:Nat) (d:Sh.Dl) (lv:Int) (A:Option Addr) (c:Nat) :
 Iy n Tryz.prog 91 #[.pointer (some ⟨gx,0,none⟩),.pointer (some ⟨gp,0,none⟩)] (RF false) (fun pre _=>pre=[]) (fun xs=>xs=[()]) (fun _=>True)
  (fun X=>NS gx gp gR gC gD d lv #[.int .i64 4,.int .i64 (-1),.slice A 1 c,.slice none 0 0] X/\At 1 uV X X.heap.size A [0]/\1<=c):=by
 intro lp J Jx W hW hJ hJx L8 hG hY hj0;have DT:=Kp.mk L8;have x2:=hW.1.bx.cell 2 (v:=.slice A 1 c) rfl;refine callsIn_of_wp Tryz.func91 rfl trivial ?_ rfl;simp only[Tryz.ntmps91,List.size_toArray,List.length_cons,List.length_nil,Nat.reduceAdd,Nat.reduceSub,Array.replicate_succ,Array.replicate_zero,List.push_toArray,List.append_toArray,List.nil_append,List.cons_append];have hI:=fun w0=>fF 0 0 0 w0
 gi_wp2_with fail
 gi_loopw [12] (fun s12 wr=>(s12=.int .i64 0/\J [] wr)∨(s12=.int .i64 1/\J [()] wr)) (fun s12 _=>1-(intOf s12).toNat)
 case atStart=>exact .inl ⟨rfl,hj0⟩
 case round =>
  clear hj0 x2 hW
  rcases hrel with ⟨rfl,hj⟩|⟨rfl,hj⟩
  · obtain⟨hW3,hAt,hc1⟩:=DT.out _ _ hj;obtain ⟨pa,oa,rfl,hpa,hca⟩:=hAt (by decide)
    have f0:wr.cell? ⟨pa,oa,none⟩=some (.int .i64 0):=by
     have h9:=hca 0 0 rfl 0 _ rfl;simpa using h9
    have BC:=hW3.fl.bc
    unfold vV at BC
    obtain⟨c0,c1,c2,c3⟩:=BC.p4;have p0:=hW3.bp.cell 0 rfl;have d0:=hW3.bd.cell 0 (v:=.slice (some ⟨gR,0,none⟩) 1 1) rfl;have r0:=hW3.fl.br.cell 0 rfl;clear hW3 hAt hca BC
    gi_wp2_with fail
    refine⟨trivial,fun _=>by omega,(callsIn_wide.2 (hI _)).mono ?_⟩;rintro _ w1 ⟨rfl,hb1⟩;have hj3:=hJ _ _ _ hj hb1;have BC:=(DT.out _ _ hj3).1.fl.bc
    unfold vV at BC
    clear c0 c1 c2 c3 p0 d0 r0 f0 hb1 hj;obtain ⟨c0,c1,c2,c3⟩:=BC.p4;obtain ⟨fn,tmps,assign,body,hy,hR⟩:=hY [] () w1 hj3 rfl
    unfold RF at hy
    gi_wp2_with fail
    refine⟨fun _=>by omega,hR.mono ?_⟩;intro e W5 hh;obtain ⟨bb,rfl,hcase⟩:=Zk hh;clear hR hy hY hh
    rcases hcase with ⟨rfl,hJ3,hk3⟩|⟨rfl,hJx3⟩
    · gi_wp2_with fail
      exact⟨.inr ⟨rfl,hJ3⟩,by simp[intOf]⟩
    · gi_wp2_with fail
      exact bodyPost_ret (results_none rfl _ _ _) rfl ⟨⟨_,rfl⟩,.inr ⟨_,hJx3⟩⟩
  · have e1:=(DT.out _ _ hj).1.bx.cell 1 (v:=.int .i64 (-1)) rfl
    gi_wp2_with fail
    exact bodyPost_ret (results_none rfl _ _ _) rfl ⟨⟨_,rfl⟩,.inl ⟨_,rfl,hj⟩⟩
attribute [local go_sem] Oper.semAt_some
attribute [local go_sem] run_store_func
theorem xA (n:Nat) (gD:Nat) (a b c e:Value) (w:World):CallsIn Fence.wide n Tryz.prog 49 #[.pointer (some ⟨gD,0,none⟩),.agg #[a,b,c,e]] w fun r w'=>r=.returned (.func (.func 91) #[] #[.pointer (some ⟨w.heap.size+1,0,none⟩),.pointer (some ⟨w.heap.size,0,none⟩)])/\w'=(w.alloc (.cells #[.pointer (some ⟨gD,0,none⟩)] 98)).alloc (.cells #[a,b,c,e] 55):=by
 refine callsIn_of_wp Tryz.func49 rfl trivial ?_ rfl;simp only[Tryz.ntmps49,List.size_toArray,List.length_cons,List.length_nil,Nat.reduceAdd,Nat.reduceSub,Array.replicate_succ,Array.replicate_zero,List.push_toArray,List.append_toArray,List.nil_append,List.cons_append]
 gi_wp2
 go_ret;exact ⟨rfl,rfl⟩
theorem nG {α:Type} {n:Nat} {P:Program} {g:Operand} {ps:Array Tmp} {assign body:Code} {Q:Exit->Act->World->Prop} {a:Act} {w:World} {Kw:World->Prop} (h1:1<=n) {gf:Nat} {lb:Array Value} (hg:a.eval g=.func (.func gf) #[] lb)
 (eg:∀args w,(callFunc gf args).run P w=.ok (.enter gf args) w) {encs:α->Array Value} {R:List α->α->Prop} {S G:List α->Prop} (hseq:Iy (n-1) P gf lb encs R S G Kw) (hb0:∀X,Below w.heap.size w X->Kw X) (hps:∀x,(encs x).size=ps.size)
 (I:List α->World->Prop) (Ix:Code->List α->World->Prop) (hI:uU I) (yE:BI w.heap.size I) (hIx:∀c,uU (Ix c)) (kD:∀c,BI w.heap.size (Ix c)) (rV:∀s X,I s X->Kw X) (hG:∀s X,I s X->G s) (hz:I [] w) (tb tc:Tmp) (val:α->Value) (T:TypeId) (cells:α->Array Value)
 (hassign:∀(l:Nat) (x:α) (W:World) (K:Act->World->Prop),(∀b W',Below W.heap.size W W'->Bx W' b T (cells x)->K { tmps:=(((ps.zip (encs x)).foldl (fun t (p,v)=>t.setIfInBounds p v) a.tmps).setIfInBounds tb (.pointer (some ⟨b,0,none⟩))).setIfInBounds tc (val x),defers:=[] } W') ->
  assign.wpIn (Fence.wide.inRound l) (n-1-1) P (Exit.then K (fun _ _ _=>False)) { tmps:=(ps.zip (encs x)).foldl (fun t (p,v)=>t.setIfInBounds p v) a.tmps,defers:=[] } W)
 (hbody:∀(l:Nat) (pre:List α) (x:α) (b:Nat) (W:World),I pre W->Bx W b T (cells x)->R pre x->body.wpIn (Fence.wide.inRound l) (n-1-1) P (Ny w.heap.size I Ix (pre++[x]) W) { tmps:=(((ps.zip (encs x)).foldl (fun t (p,v)=>t.setIfInBounds p v) a.tmps).setIfInBounds tb (.pointer (some ⟨b,0,none⟩))).setIfInBounds tc (val x),defers:=[] } W)
 (hdone:∀(D:Nat) (xs:List α) (W:World),w.heap.size<=D->S xs->I xs W->W.heap[D]? = some (.deferred (some []))->Q .normal { a with defers:={ target:=.collected D,args:=#[] } :: a.defers } W)
 (hstop:∀(D:Nat) (c:Code) (pre:List α) (W:World),w.heap.size<=D->Ix c pre W->W.heap[D]? = some (.deferred (some []))->c.wpIn Fence.wide n P Q { a with defers:={ target:=.collected D,args:=#[] } :: a.defers } W) :
 (Code.rangeFunc g ps assign body).wpIn Fence.wide n P Q a w :=
 nI h1 hg eg hseq hb0 hps I Ix hI yE hIx kD rV hG hz
  (fun x a' X=>∃b,a'={ tmps:=(((ps.zip (encs x)).foldl (fun t (p,v)=>t.setIfInBounds p v) a.tmps).setIfInBounds tb (.pointer (some ⟨b,0,none⟩))).setIfInBounds tc (val x),defers:=[] }/\Bx X b T (cells x))
  (fun x a' X l o o' ⟨b,e,hB⟩ ho hc=>⟨b,e,dG hB ho hc⟩)
  (fun l x W K hK=>hassign l x W K fun b W' hb hB=>hK _ _ hb ⟨b,rfl,hB⟩)
  (fun l pre x a' W hi ⟨b,e,hB⟩ hR=>by subst e;exact hbody l pre x b W hi hB hR)
  hdone hstop
theorem tJ {fn:Func} {t:Tmp} {g:Nat} {a:Value} (hf:fn.results=#[.cell t 4]) (tmps:Array Value) (w:World) (ht:tmps.getD t undef=.pointer (some ⟨g,0,none⟩)) (hB:Bx w g 4 #[a]):(results fn tmps).run Tryz.prog w=.ok a w:=by
 have h0:=hB.cell 0 rfl;have ht':tmps[t]?.getD undef=.pointer (some ⟨g,0,none⟩):=by simpa using ht
 simp only[results,hf];simp [go_sem,ht',h0,loadVar]
structure Oh (w:World) (gx gq gR gC gD g9 gp:Nat) (d:Sh.Dl) (lv:Int) (dc:Array Value) (X:World):Prop where
 ck:NS gx gq gR gC gD d lv dc X
 b8:Bx X (w.heap.size+1+1+1+1) 4 #[.bool false]
 b9:Bx X g9 98 #[.pointer (some ⟨gD,0,none⟩)]
 bp:Bx X gp 53 #[.slice none 0 0]
 bl:Below w.heap.size w X
theorem NS.put {gx gp gR gC gD:Nat} {d:Sh.Dl} {lv:Int} {dc:Array Value} {X:World} (h:NS gx gp gR gC gD d lv dc X) {l:Nat} {o o':Obj} (ho:X.heap[l]? = some o) (hc:o.isCells=false):NS gx gp gR gC gD d lv dc (X.putObj l o'):=⟨dG h.bx ho hc,dG h.bp ho hc,dG h.bd ho hc,dG h.fl.br ho hc,dG h.fl.bc ho hc⟩
theorem Oh.call {w:World} {gx gq gR gC gD g9 gp:Nat} {d:Sh.Dl} {lv:Int} {dc:Array Value} {X Y:World} (h:Oh w gx gq gR gC gD g9 gp d lv dc X) (hb:Below X.heap.size X Y):Oh w gx gq gR gC gD g9 gp d lv dc Y:=⟨h.ck.call hb,h.b8.call hb,h.b9.call hb,h.bp.call hb,ah h.bl hb⟩
theorem Oh.put {w:World} {gx gq gR gC gD g9 gp:Nat} {d:Sh.Dl} {lv:Int} {dc:Array Value} {X:World} (h:Oh w gx gq gR gC gD g9 gp d lv dc X) {l:Nat} {o o':Obj} (hl:w.heap.size<=l) (ho:X.heap[l]? = some o) (hc:o.isCells=false):Oh w gx gq gR gC gD g9 gp d lv dc (X.putObj l o'):=⟨h.ck.put ho hc,dG h.b8 ho hc,dG h.b9 ho hc,dG h.bp ho hc,h.bl.trans (bF hl ho)⟩
theorem DX (gR gC:Nat) (d:Sh.Dl) (w:World) (hF:CB gR gC w) (h:rF d 3) :
 bP 14 #[.agg #[.slice (some ⟨gR,0,none⟩) 1 1,.int .i64 4],.agg #[.slice none 0 0,.slice none 0 0,.slice none 0 0],.agg (mZ d 3),.agg #[.int .i64 1,.int .i64 0,.slice none 0 0,.slice none 0 0]] w (.bool true):=by
 have hO:=fun w0 (hb0:Below w.heap.size w w0)=>rM gR gC d 3 w0 (hF.call hb0) h
 have DU:=fun w0 (hb0:Below w.heap.size w w0)=>hF.call hb0
 have hI:=fun w0=>fF 0 0 0 w0
 have hPl:=fun gD w0 BD=>tK gR gD d 3 w0 BD h true rfl
 unfold mZ at *
 refine (callsIn_wide (n:=4)).1 ?_;refine callsIn_of_wp_marks Tryz.func14 rfl trivial ?_ rfl;simp only[Tryz.ntmps14,List.size_toArray,List.length_cons,List.length_nil,Nat.reduceAdd,Nat.reduceSub,Array.replicate_succ,Array.replicate_zero,List.push_toArray,List.append_toArray,List.nil_append,List.cons_append];refine wpIn_wide.2 ?_;have hb:=(bNew (bNew (bNew (bNew (bY w (.cells #[.slice (some ⟨gR,0,none⟩) 1 1,.int .i64 4] 47)) (.cells #[.slice none 0 0,.slice none 0 0,.slice none 0 0] 62)) (.cells #[.int .i64 d.r,.int .i64 d.d,.int .i64 d.t,.int .i64 3,.int .i64 0,.bool false] 49)) (.cells #[.int .i64 1,.int .i64 0,.slice none 0 0,.slice none 0 0] 55)) (.cells #[.bool false] 4))
 have B4:=(((((Bx.mk w 47 #[.slice (some ⟨gR,0,none⟩) 1 1,.int .i64 4]).new (.cells #[.slice none 0 0,.slice none 0 0,.slice none 0 0] 62)).new (.cells #[.int .i64 d.r,.int .i64 d.d,.int .i64 d.t,.int .i64 3,.int .i64 0,.bool false] 49)).new (.cells #[.int .i64 1,.int .i64 0,.slice none 0 0,.slice none 0 0] 55)).new (.cells #[.bool false] 4))
 have B5:=((((Bx.mk (w.alloc (.cells #[.slice (some ⟨gR,0,none⟩) 1 1,.int .i64 4] 47)) 62 #[.slice none 0 0,.slice none 0 0,.slice none 0 0]).new (.cells #[.int .i64 d.r,.int .i64 d.d,.int .i64 d.t,.int .i64 3,.int .i64 0,.bool false] 49)).new (.cells #[.int .i64 1,.int .i64 0,.slice none 0 0,.slice none 0 0] 55)).new (.cells #[.bool false] 4))
 have B6:=(((Bx.mk ((w.alloc (.cells #[.slice (some ⟨gR,0,none⟩) 1 1,.int .i64 4] 47)).alloc (.cells #[.slice none 0 0,.slice none 0 0,.slice none 0 0] 62)) 49 #[.int .i64 d.r,.int .i64 d.d,.int .i64 d.t,.int .i64 3,.int .i64 0,.bool false]).new (.cells #[.int .i64 1,.int .i64 0,.slice none 0 0,.slice none 0 0] 55)).new (.cells #[.bool false] 4))
 have B7:=((Bx.mk (((w.alloc (.cells #[.slice (some ⟨gR,0,none⟩) 1 1,.int .i64 4] 47)).alloc (.cells #[.slice none 0 0,.slice none 0 0,.slice none 0 0] 62)).alloc (.cells #[.int .i64 d.r,.int .i64 d.d,.int .i64 d.t,.int .i64 3,.int .i64 0,.bool false] 49)) 55 #[.int .i64 1,.int .i64 0,.slice none 0 0,.slice none 0 0]).new (.cells #[.bool false] 4))
 have B8:=(Bx.mk ((((w.alloc (.cells #[.slice (some ⟨gR,0,none⟩) 1 1,.int .i64 4] 47)).alloc (.cells #[.slice none 0 0,.slice none 0 0,.slice none 0 0] 62)).alloc (.cells #[.int .i64 d.r,.int .i64 d.d,.int .i64 d.t,.int .i64 3,.int .i64 0,.bool false] 49)).alloc (.cells #[.int .i64 1,.int .i64 0,.slice none 0 0,.slice none 0 0] 55)) 4 #[.bool false])
 simp only[World.size_alloc]at B5 B6 B7 B8;go_upto_region 1 with fail;generalize (((((w.alloc (.cells #[.slice (some ⟨gR,0,none⟩) 1 1,.int .i64 4] 47)).alloc (.cells #[.slice none 0 0,.slice none 0 0,.slice none 0 0] 62)).alloc (.cells #[.int .i64 d.r,.int .i64 d.d,.int .i64 d.t,.int .i64 3,.int .i64 0,.bool false] 49)).alloc (.cells #[.int .i64 1,.int .i64 0,.slice none 0 0,.slice none 0 0] 55)).alloc (.cells #[.bool false] 4))=W0 at *;have wZ:=hO _ hb;have a0:=B4.cell 0 rfl;have a1:=B4.cell 1 rfl;obtain ⟨b0,b1,b2⟩:=B5.p3;obtain ⟨c0,c1,c2,c3,c4,c5⟩:=B6.p6;clear hO h;go_wp2_with fail;refine wZ.mono ?_;rintro _ w1 ⟨⟨gD,rfl,hgD,BD⟩,hb1⟩;replace hb:=ah hb hb1;replace B4:=B4.call hb1;replace B6:=B6.call hb1;replace B7:=B7.call hb1;replace B8:=B8.call hb1;clear a0 a1 b0 b1 b2 c0 c1 c2 c3 c4 c5 wZ hb1 B5;have hbn:=bY w1 (.cells #[.pointer (some ⟨gD,0,none⟩)] 98);have B9:=Bx.mk w1 98 #[.pointer (some ⟨gD,0,none⟩)];replace hb:=ah hb hbn;replace B4:=B4.call hbn;replace B6:=B6.call hbn;replace B7:=B7.call hbn;replace B8:=B8.call hbn;replace BD:=BD.call hbn;have c5:=B6.cell 5 rfl;go_upto_region 6 with fail;generalize hg9:w1.heap.size=g9 at *;generalize w1.alloc (.cells #[.pointer (some ⟨gD,0,none⟩)] 98)=W1 at *;clear hbn c5;have p0:=fun dd os=>(B4.again dd os).cell 0 rfl
 have p1:=fun dd os=>(B4.again dd os).cell 1 rfl
 refine wp_region_quiet_below (by kernel_rfl) (by kernel_rfl) ?_
 repeat (go_big_quiet_step (fail))
 refine wpQuiet_nil ?_;rintro _ ⟨q,rfl⟩;have hb1:=below_regrown W1 q.d q.os;replace hb:=ah hb hb1;replace B4:=B4.call hb1;replace B7:=B7.call hb1;replace B8:=B8.call hb1;replace B9:=B9.call hb1;replace BD:=BD.call hb1;generalize Sort.grow (redrawn W1 q.d) q.os=W2 at *;clear p0 p1 hb1 B6;have d1:=B7.cell 1 rfl;go_wp2_with fail;refine (hI _).mono ?_;rintro _ w3 ⟨rfl,hb1⟩;replace hb:=ah hb hb1;replace B4:=B4.call hb1;replace B7:=B7.call hb1;replace B8:=B8.call hb1;replace B9:=B9.call hb1;replace BD:=BD.call hb1;clear d1 hb1 hI;have hF3:=DU _ hb;go_upto_region 10 with fail;have p0:=fun dd os=>(B4.again dd os).cell 0 rfl
 have e1:=fun dd os=>(B7.again dd os).cell 1 rfl
 have r1:=fun dd os=>(hF3.br.again dd os).cell 1 rfl
 refine wp_region_quiet_below (by kernel_rfl) (by kernel_rfl) ?_
 repeat (go_big_quiet_step (fail))
 refine wpQuiet_nil ?_;rintro _ ⟨q,rfl⟩;have hb1:=below_regrown w3 q.d q.os;replace hb:=ah hb hb1;replace B7:=B7.call hb1;replace B8:=B8.call hb1;replace B9:=B9.call hb1;replace BD:=BD.call hb1;generalize Sort.grow (redrawn w3 q.d) q.os=W4 at *;clear p0 e1 r1 hb1 B4 hF3;obtain ⟨d0,d1,d2,d3⟩:=B7.p4;go_upto_region 15 with fail;have hbn:=bNew (bY W4 (.cells #[.slice none 0 0] 53)) (.cells #[.func (.func 47) #[] #[.pointer (some ⟨W4.heap.size,0,none⟩),.pointer (some ⟨w.heap.size+1,0,none⟩)]] 121);have BP:=(Bx.mk W4 53 #[.slice none 0 0]).new (.cells #[.func (.func 47) #[] #[.pointer (some ⟨W4.heap.size,0,none⟩),.pointer (some ⟨w.heap.size+1,0,none⟩)]] 121);replace hb:=ah hb hbn;replace B7:=B7.call hbn;replace B8:=B8.call hbn;replace B9:=B9.call hbn;replace BD:=BD.call hbn;clear d0 d1 d2 d3;generalize Z5:W4.heap.size=gp at *;generalize (W4.alloc (.cells #[.slice none 0 0] 53)).alloc (.cells #[.func (.func 47) #[] #[.pointer (some ⟨gp,0,none⟩),.pointer (some ⟨w.heap.size+1,0,none⟩)]] 121)=W5 at *;clear hbn Z5;obtain ⟨d0,d1,d2,d3⟩:=B7.p4;have k9:=B9.cell 0 rfl;go_wp2_with fail;refine ((callsIn_wide (n:=4)).1 (xA 4 gD _ _ _ _ _)).mono ?_;rintro _ _ ⟨rfl,rfl⟩;have hbn:=bNew (bY W5 (.cells #[.pointer (some ⟨gD,0,none⟩)] 98)) (.cells #[.int .i64 1,.int .i64 0,.slice none 0 0,.slice none 0 0] 55);have Bq:=(Bx.mk W5 98 #[.pointer (some ⟨gD,0,none⟩)]).new (.cells #[.int .i64 1,.int .i64 0,.slice none 0 0,.slice none 0 0] 55);have Bx':=Bx.mk (W5.alloc (.cells #[.pointer (some ⟨gD,0,none⟩)] 98)) 55 #[.int .i64 1,.int .i64 0,.slice none 0 0,.slice none 0 0];rw [World.size_alloc]at Bx';replace hb:=ah hb hbn;replace B8:=B8.call hbn;replace B9:=B9.call hbn;replace BD:=BD.call hbn;replace BP:=BP.call hbn;clear d0 d1 d2 d3 k9 B7 hbn;generalize hgq:W5.heap.size=gq at *;generalize (W5.alloc (.cells #[.pointer (some ⟨gD,0,none⟩)] 98)).alloc (.cells #[.int .i64 1,.int .i64 0,.slice none 0 0,.slice none 0 0] 55)=W6 at *;clear hgq;have hseq:=Eh 3 (by decide) (gq+1) gq gR gC gD d 3;have hz:NS (gq+1) gq gR gC gD d 3 #[.int .i64 1,.int .i64 0,.slice none 0 0,.slice none 0 0] W6:=⟨Bx',Bq,BD,DU _ hb⟩
 clear Bx' Bq BD;have ER:Oh w (gq+1) gq gR gC gD g9 gp d 3 #[.int .i64 1,.int .i64 0,.slice none 0 0,.slice none 0 0] W6:=⟨hz,B8,B9,BP,hb⟩
 have hw6:=B8.lt;have hw7:=hb.size;clear hz B8 B9 BP DU hF;go_wp2_with fail;refine (wpIn_wide (n:=4)).1 ?_
 refine nG (by decide) (gf:=91) (lb:=#[.pointer (some ⟨gq+1,0,none⟩),.pointer (some ⟨gq,0,none⟩)]) rfl (enters_of Tryz.func91 (by kernel_rfl) rfl) hseq (fun X hX=>(ER.call hX).ck) (fun _=>rfl)
  (fun _ X=>Oh w (gq+1) gq gR gC gD g9 gp d 3 #[.int .i64 1,.int .i64 0,.slice none 0 0,.slice none 0 0] X) (fun _ _ _=>False) (fun _ X Y h hb=>h.call hb) (fun _ X l o o' h hl ho hc=>h.put (by omega) ho hc) (fun _ _ _ _ h _=>h) (fun _ _ _ _ _ _ h _ _ _=>h) (fun _ X h=>h.ck) (fun _ _ _=>trivial) ER 15 16 (fun _=>.bool true) 126 (fun _=>#[.int .i64 1,.int .i64 3,.int .i64 3,.bool false,.bool true]) ?assign ?body ?done ?stop
 case assign =>
  rintro lp ⟨⟩ W K hK;simp only[RF,iy]at hK ⊢
  gi_wp2
  have hk9:=hK _ _ (bY W _) (Bx.mk W _ _);simp only[List.setIfInBounds_toArray,List.set_cons_succ,List.set_cons_zero]at hk9;exact hk9
 case body =>
  rintro lp pre ⟨⟩ gb W hI HB hR;simp only[RF,iy,List.setIfInBounds_toArray,List.set_cons_succ,List.set_cons_zero];obtain ⟨c0,c1,c2,c3,c4⟩:=HB.p5;have hId:=hI.call (Y:=W.drew) (aP W).drew;have YA:=hId.ck.bd;have Yo:Bx W.drew gb 126 #[.int .i64 1,.int .i64 3,.int .i64 3,.bool false,.bool true]:=HB;have k9:=hI.b9.cell 0 rfl;clear hseq ER hw6 hw7 hb HB
  gi_upto_region 22 with fail
  gi_region_with (first|(refine ⟨trivial,((callsIn_wide.2 (hPl gD _ YA)).inRound _).mono ?_⟩;rintro _ w7 ⟨rfl,hb7⟩;have Yp:=Yo.call hb7;have e4:=Yp.cell 4 rfl;have hI7:=hId.call hb7;have hF7:ou W6.heap.size W w7:=ou.below (ah (aP W).drew hb7);clear c0 c1 c2 c3 c4 k9))
  all_goals
   clear hb7 Yp Yo YA hId hI hR
   gi_wp2_with fail
   exact⟨hF7,hI7⟩
 case done =>
  rintro D xs W hD hs hI hk;have d0:=hI.bp.cell 0 rfl;have e8:=hI.b8.cell 0 rfl;have f8:=hI.b8.frozen 0;have hbl:=aQ hI.bl (p:=⟨w.heap.size+1+1+1+1,0,none⟩) (by dsimp only;omega) (.bool true);have h8':=hI.b8.set 0 (.bool true);have hkd:=(Below.heap_setCell W ⟨w.heap.size+1+1+1+1,0,none⟩ (.bool true) D (by dsimp only;omega)).trans hk;clear hseq ER hb hI hs;go_wp2_with fail;have Hg:=(Marks.nil W6.heap.size W6.heap.size _).push hD (Nat.le_refl _) hkd;refine Hg.leave fun W' hb' hB'=>⟨_,tJ rfl _ _ rfl (hB' _ _ _ h8'),rfl,hbl.trans (hb'.mono (by omega))⟩
 case stop=>exact fun D c pre W hD h hk=>h.elim
attribute [local go_sem] Oper.semAt_some
attribute [local go_sem] run_store_func
theorem Hz (gR gC:Nat) (d:Sh.Dl) (lv:Int) (hlv:(lv==3)=false) (A:Option Addr) (c:Nat) (w:World) (hA:At 1 uV w w.heap.size A [0]) (hc:1<=c) (hF:CB gR gC w) (h:rF d lv) :
 bP 14 #[.agg #[.slice (some ⟨gR,0,none⟩) 1 1,.int .i64 4],.agg #[.slice none 0 0,.slice none 0 0,.slice none 0 0],.agg (mZ d lv),.agg #[.int .i64 4,.int .i64 (-1),.slice A 1 c,.slice none 0 0]] w (.bool true):=by
 have hO:=fun w0 (hb0:Below w.heap.size w w0)=>rM gR gC d lv w0 (hF.call hb0) h
 have DU:=fun w0 (hb0:Below w.heap.size w w0)=>hF.call hb0
 have hPl:=fun gD w0 BD=>tK gR gD d lv w0 BD h false hlv
 unfold mZ at *
 refine (callsIn_wide (n:=4)).1 ?_;refine callsIn_of_wp_marks Tryz.func14 rfl trivial ?_ rfl;simp only[Tryz.ntmps14,List.size_toArray,List.length_cons,List.length_nil,Nat.reduceAdd,Nat.reduceSub,Array.replicate_succ,Array.replicate_zero,List.push_toArray,List.append_toArray,List.nil_append,List.cons_append];refine wpIn_wide.2 ?_;have hb:=(bNew (bNew (bNew (bNew (bY w (.cells #[.slice (some ⟨gR,0,none⟩) 1 1,.int .i64 4] 47)) (.cells #[.slice none 0 0,.slice none 0 0,.slice none 0 0] 62)) (.cells #[.int .i64 d.r,.int .i64 d.d,.int .i64 d.t,.int .i64 lv,.int .i64 0,.bool false] 49)) (.cells #[.int .i64 4,.int .i64 (-1),.slice A 1 c,.slice none 0 0] 55)) (.cells #[.bool false] 4))
 have B4:=(((((Bx.mk w 47 #[.slice (some ⟨gR,0,none⟩) 1 1,.int .i64 4]).new (.cells #[.slice none 0 0,.slice none 0 0,.slice none 0 0] 62)).new (.cells #[.int .i64 d.r,.int .i64 d.d,.int .i64 d.t,.int .i64 lv,.int .i64 0,.bool false] 49)).new (.cells #[.int .i64 4,.int .i64 (-1),.slice A 1 c,.slice none 0 0] 55)).new (.cells #[.bool false] 4))
 have B5:=((((Bx.mk (w.alloc (.cells #[.slice (some ⟨gR,0,none⟩) 1 1,.int .i64 4] 47)) 62 #[.slice none 0 0,.slice none 0 0,.slice none 0 0]).new (.cells #[.int .i64 d.r,.int .i64 d.d,.int .i64 d.t,.int .i64 lv,.int .i64 0,.bool false] 49)).new (.cells #[.int .i64 4,.int .i64 (-1),.slice A 1 c,.slice none 0 0] 55)).new (.cells #[.bool false] 4))
 have B6:=(((Bx.mk ((w.alloc (.cells #[.slice (some ⟨gR,0,none⟩) 1 1,.int .i64 4] 47)).alloc (.cells #[.slice none 0 0,.slice none 0 0,.slice none 0 0] 62)) 49 #[.int .i64 d.r,.int .i64 d.d,.int .i64 d.t,.int .i64 lv,.int .i64 0,.bool false]).new (.cells #[.int .i64 4,.int .i64 (-1),.slice A 1 c,.slice none 0 0] 55)).new (.cells #[.bool false] 4))
 have B7:=((Bx.mk (((w.alloc (.cells #[.slice (some ⟨gR,0,none⟩) 1 1,.int .i64 4] 47)).alloc (.cells #[.slice none 0 0,.slice none 0 0,.slice none 0 0] 62)).alloc (.cells #[.int .i64 d.r,.int .i64 d.d,.int .i64 d.t,.int .i64 lv,.int .i64 0,.bool false] 49)) 55 #[.int .i64 4,.int .i64 (-1),.slice A 1 c,.slice none 0 0]).new (.cells #[.bool false] 4))
 have B8:=(Bx.mk ((((w.alloc (.cells #[.slice (some ⟨gR,0,none⟩) 1 1,.int .i64 4] 47)).alloc (.cells #[.slice none 0 0,.slice none 0 0,.slice none 0 0] 62)).alloc (.cells #[.int .i64 d.r,.int .i64 d.d,.int .i64 d.t,.int .i64 lv,.int .i64 0,.bool false] 49)).alloc (.cells #[.int .i64 4,.int .i64 (-1),.slice A 1 c,.slice none 0 0] 55)) 4 #[.bool false])
 simp only[World.size_alloc]at B5 B6 B7 B8;go_upto_region 1 with fail;generalize (((((w.alloc (.cells #[.slice (some ⟨gR,0,none⟩) 1 1,.int .i64 4] 47)).alloc (.cells #[.slice none 0 0,.slice none 0 0,.slice none 0 0] 62)).alloc (.cells #[.int .i64 d.r,.int .i64 d.d,.int .i64 d.t,.int .i64 lv,.int .i64 0,.bool false] 49)).alloc (.cells #[.int .i64 4,.int .i64 (-1),.slice A 1 c,.slice none 0 0] 55)).alloc (.cells #[.bool false] 4))=W0 at *;have wZ:=hO _ hb;have a0:=B4.cell 0 rfl;have a1:=B4.cell 1 rfl;obtain ⟨b0,b1,b2⟩:=B5.p3;obtain ⟨c0,c1,c2,c3,c4,c5⟩:=B6.p6;clear hO h hlv;go_wp2_with fail;refine wZ.mono ?_;rintro _ w1 ⟨⟨gD,rfl,hgD,BD⟩,hb1⟩;replace hb:=ah hb hb1;replace B4:=B4.call hb1;replace B6:=B6.call hb1;replace B7:=B7.call hb1;replace B8:=B8.call hb1;clear a0 a1 b0 b1 b2 c0 c1 c2 c3 c4 c5 wZ hb1 B5;have hbn:=bY w1 (.cells #[.pointer (some ⟨gD,0,none⟩)] 98);have B9:=Bx.mk w1 98 #[.pointer (some ⟨gD,0,none⟩)];replace hb:=ah hb hbn;replace B4:=B4.call hbn;replace B6:=B6.call hbn;replace B7:=B7.call hbn;replace B8:=B8.call hbn;replace BD:=BD.call hbn;have c5:=B6.cell 5 rfl;go_upto_region 6 with fail;generalize hg9:w1.heap.size=g9 at *;generalize w1.alloc (.cells #[.pointer (some ⟨gD,0,none⟩)] 98)=W1 at *;clear hbn c5;have p0:=fun dd os=>(B4.again dd os).cell 0 rfl
 have p1:=fun dd os=>(B4.again dd os).cell 1 rfl
 refine wp_region_quiet_below (by kernel_rfl) (by kernel_rfl) ?_
 repeat (go_big_quiet_step (fail))
 refine wpQuiet_nil ?_;rintro _ ⟨q,rfl⟩;have hb1:=below_regrown W1 q.d q.os;replace hb:=ah hb hb1;replace B4:=B4.call hb1;replace B7:=B7.call hb1;replace B8:=B8.call hb1;replace B9:=B9.call hb1;replace BD:=BD.call hb1;generalize Sort.grow (redrawn W1 q.d) q.os=W2 at *;clear p0 p1 hb1 B6;have d0:=B7.cell 0 rfl;have d1:=B7.cell 1 (v:=.int .i64 (-1)) rfl;have d2:=B7.cell 2 (v:=.slice A 1 c) rfl;have d3:=B7.cell 3 rfl;go_upto_region 15 with fail;have hbn:=bNew (bY W2 (.cells #[.slice none 0 0] 53)) (.cells #[.func (.func 47) #[] #[.pointer (some ⟨W2.heap.size,0,none⟩),.pointer (some ⟨w.heap.size+1,0,none⟩)]] 121);have BP:=(Bx.mk W2 53 #[.slice none 0 0]).new (.cells #[.func (.func 47) #[] #[.pointer (some ⟨W2.heap.size,0,none⟩),.pointer (some ⟨w.heap.size+1,0,none⟩)]] 121);replace hb:=ah hb hbn;replace B7:=B7.call hbn;replace B8:=B8.call hbn;replace B9:=B9.call hbn;replace BD:=BD.call hbn;clear d0 d1 d2 d3;generalize Z5:W2.heap.size=gp at *;generalize (W2.alloc (.cells #[.slice none 0 0] 53)).alloc (.cells #[.func (.func 47) #[] #[.pointer (some ⟨gp,0,none⟩),.pointer (some ⟨w.heap.size+1,0,none⟩)]] 121)=W5 at *;clear hbn Z5;have d0:=B7.cell 0 rfl;have d1:=B7.cell 1 (v:=.int .i64 (-1)) rfl;have d2:=B7.cell 2 (v:=.slice A 1 c) rfl;have d3:=B7.cell 3 rfl;have k9:=B9.cell 0 rfl;go_wp2_with fail;refine ((callsIn_wide (n:=4)).1 (xA 4 gD _ _ _ _ _)).mono ?_;rintro _ _ ⟨rfl,rfl⟩;have hbn:=bNew (bY W5 (.cells #[.pointer (some ⟨gD,0,none⟩)] 98)) (.cells #[.int .i64 4,.int .i64 (-1),.slice A 1 c,.slice none 0 0] 55);have Bq:=(Bx.mk W5 98 #[.pointer (some ⟨gD,0,none⟩)]).new (.cells #[.int .i64 4,.int .i64 (-1),.slice A 1 c,.slice none 0 0] 55);have Bx':=Bx.mk (W5.alloc (.cells #[.pointer (some ⟨gD,0,none⟩)] 98)) 55 #[.int .i64 4,.int .i64 (-1),.slice A 1 c,.slice none 0 0];rw [World.size_alloc]at Bx';replace hb:=ah hb hbn;replace B8:=B8.call hbn;replace B9:=B9.call hbn;replace BD:=BD.call hbn;replace BP:=BP.call hbn;clear d0 d1 d2 d3 k9 B7 hbn;generalize hgq:W5.heap.size=gq at *;generalize (W5.alloc (.cells #[.pointer (some ⟨gD,0,none⟩)] 98)).alloc (.cells #[.int .i64 4,.int .i64 (-1),.slice A 1 c,.slice none 0 0] 55)=W6 at *;clear hgq;have hseq:=Ih 3 (by decide) (gq+1) gq gR gC gD d lv A c;have hz:NS (gq+1) gq gR gC gD d lv #[.int .i64 4,.int .i64 (-1),.slice A 1 c,.slice none 0 0] W6:=⟨Bx',Bq,BD,DU _ hb⟩
 clear Bx' Bq BD;have ER:Oh w (gq+1) gq gR gC gD g9 gp d lv #[.int .i64 4,.int .i64 (-1),.slice A 1 c,.slice none 0 0] W6:=⟨hz,B8,B9,BP,hb⟩
 have hw6:=B8.lt;have hw7:=hb.size;clear hz B8 B9 BP DU hF;go_wp2_with fail;refine (wpIn_wide (n:=4)).1 ?_
 refine nG (by decide) (gf:=91) (lb:=#[.pointer (some ⟨gq+1,0,none⟩),.pointer (some ⟨gq,0,none⟩)]) rfl (enters_of Tryz.func91 (by kernel_rfl) rfl) hseq (fun X hX=>⟨(ER.call hX).ck,hA.aU (ER.call hX).bl,hc⟩) (fun _=>rfl)
  (fun _ X=>Oh w (gq+1) gq gR gC gD g9 gp d lv #[.int .i64 4,.int .i64 (-1),.slice A 1 c,.slice none 0 0] X) (fun _ _ _=>False) (fun _ X Y h hb=>h.call hb) (fun _ X l o o' h hl ho hc=>h.put (by omega) ho hc) (fun _ _ _ _ h _=>h) (fun _ _ _ _ _ _ h _ _ _=>h) (fun _ X h=>⟨h.ck,hA.aU h.bl,hc⟩) (fun _ _ _=>trivial) ER 15 16 (fun _=>.bool true) 126 (fun _=>#[.int .i64 1,.int .i64 3,.int .i64 3,.bool false,.bool false]) ?assign ?body ?done ?stop
 case assign =>
  rintro lp ⟨⟩ W K hK;simp only[RF,iy]at hK ⊢
  gi_wp2
  have hk9:=hK _ _ (bY W _) (Bx.mk W _ _);simp only[List.setIfInBounds_toArray,List.set_cons_succ,List.set_cons_zero]at hk9;exact hk9
 case body =>
  rintro lp pre ⟨⟩ gb W hI HB hR;simp only[RF,iy,List.setIfInBounds_toArray,List.set_cons_succ,List.set_cons_zero];obtain ⟨c0,c1,c2,c3,c4⟩:=HB.p5;have hId:=hI.call (Y:=W.drew) (aP W).drew;have YA:=hId.ck.bd;have Yo:Bx W.drew gb 126 #[.int .i64 1,.int .i64 3,.int .i64 3,.bool false,.bool false]:=HB;have k9:=hI.b9.cell 0 rfl;clear hseq ER hw6 hw7 hb HB
  gi_upto_region 22 with fail
  gi_region_with (first|(refine ⟨trivial,((callsIn_wide.2 (hPl gD _ YA)).inRound _).mono ?_⟩;rintro _ w7 ⟨rfl,hb7⟩;have Yp:=Yo.call hb7;have e4:=Yp.cell 4 rfl;have hI7:=hId.call hb7;have hF7:ou W6.heap.size W w7:=ou.below (ah (aP W).drew hb7);clear c0 c1 c2 c3 c4 k9))
  all_goals
   clear hb7 Yp Yo YA hId hI hR
   gi_wp2_with fail
   exact⟨hF7,hI7⟩
 case done =>
  rintro D xs W hD hs hI hk;have d0:=hI.bp.cell 0 rfl;have e8:=hI.b8.cell 0 rfl;have f8:=hI.b8.frozen 0;have hbl:=aQ hI.bl (p:=⟨w.heap.size+1+1+1+1,0,none⟩) (by dsimp only;omega) (.bool true);have h8':=hI.b8.set 0 (.bool true);have hkd:=(Below.heap_setCell W ⟨w.heap.size+1+1+1+1,0,none⟩ (.bool true) D (by dsimp only;omega)).trans hk;clear hseq ER hb hI hs;go_wp2_with fail;have Hg:=(Marks.nil W6.heap.size W6.heap.size _).push hD (Nat.le_refl _) hkd;refine Hg.leave fun W' hb' hB'=>⟨_,tJ rfl _ _ rfl (hB' _ _ _ h8'),rfl,hbl.trans (hb'.mono (by omega))⟩
 case stop=>exact fun D c pre W hD h hk=>h.elim
theorem mQ (c n:Int) (h0:0<n) (h:uY c) (w:World) :
 bP 8 #[.int .i64 c,.int .i64 n] w (.int .i64 (Sh.pk c n)):=by
 obtain⟨h1,h2⟩:=h;have hb:=aP w;by_cases hc:c<0
 · have hm:0<= -(c+1):=by omega
   go_enter Tryz.func8,Tryz.ntmps8
   go_wp2;go_ret;refine ⟨gJ ?_,hb⟩;rw [Sh.JF hc,←Int.neg_tmod];exact Int.tmod_eq_emod_of_nonneg hm
 · have hm:0<=c:=by omega
   go_enter Tryz.func8,Tryz.ntmps8
   go_wp2;go_ret;exact ⟨gJ (Sh.JE hm).symm,hb⟩
theorem Tj {ks:List (List UInt8)} {d:Sh.Dl} {hs:List Sh.Hn} (hf:iK d hs):0<=qZ ks d hs/\qZ ks d hs<=3:=by
 unfold qZ
 cases h:vP (jG ks d hs) hs.length with
 | none=>exact⟨Int.le_refl _,show (0:Int)<=3 by decide⟩
 | some i =>
  obtain⟨-,hi,-⟩:=kH.1 h;obtain ⟨g,hg⟩:∃g,hs[i]? = some g:=⟨_,List.getElem?_eq_getElem hi⟩
  simp only[Po,hg,Option.map_some,Option.getD_some];exact (hf.hand i g hg).2.1
theorem XJ {ks:List (List UInt8)} {d:Sh.Dl} {hs:List Sh.Hn} (hf:iK d hs):rF d (qZ ks d hs):=⟨hf.kr,hf.kd,hf.kt,Tj hf⟩
theorem Pm {ks:List (List UInt8)} {d:Sh.Dl} {kn:List Nat} {hs:List Sh.Hn} (hm:yY d kn hs) (h:qZ ks d hs=3):0<=Tn (vP (jG ks d hs) hs.length)/\l0 hs=3:=by
 unfold qZ at h
 cases hf:vP (jG ks d hs) hs.length with
 | none=>rw[hf]at h;cases h
 | some i =>
  rw[hf]at h;obtain ⟨-,hi,-⟩:=kH.1 hf;obtain ⟨g,hg⟩:∃g,hs[i]? = some g:=⟨_,List.getElem?_eq_getElem hi⟩
  simp only[Po,hg,Option.map_some,Option.getD_some]at h;obtain ⟨b,hb⟩:∃b,hs[0]? = some b:=⟨_,List.getElem?_eq_getElem hm.fm.len.1⟩
  have h1:=EN hm i 0 b g hb (by rw[Nat.zero_add];exact hg);have h2:=((hm.fm.hand 0 b hb).2.1).2;refine ⟨Int.natCast_nonneg i,?_⟩;simp only[l0,hb,Option.map_some,Option.getD_some];omega
theorem Uz (x:AX) (f:Int):cnt (cT x.d.r) ([x].zip [f]) 1=1:=by
 simp[cnt,cT]
theorem UA (ks:List (List UInt8)) (x:AX) (f:Int):cnt (cC ks x.d.r) ([x].zip [f]) 1=if decide (qZ ks x.d x.hs=3)&&decide (c0 x.hs≠f) then 1 else 0:=by
 simp only[cnt,cC,N9,List.zip_cons_cons,List.zip_nil_right,List.take_succ_cons,List.take_nil,List.countP_cons,List.countP_nil,beq_self_eq_true,Bool.true_and,Nat.zero_add]
theorem SL {c e:Int} (h:1<=e):Tb.Pq 1 1 c (e-c)=Rat.divInt c e:=by
 have h1:1<=c+(e-c):=by omega
 rw[Tb.Qq h1,Tb.NJ h1,Tb.FM (by decide),Rat.mul_one,Rat.mul_zero,Rat.add_zero,show c+(e-c)=e by omega]
theorem EH {c e:Int} (h:1<=e):Tb.Pq 1 0 c (e-c)=Rat.divInt 1 1:=by
 rw[Tb.NJ (by omega)];exact (Rat.divInt_self' (by decide)).symm
theorem D8 (gR gC:Nat) (d:Sh.Dl) (lv:Int) (w:World) (hF:CB gR gC w) (h:rF d lv) :
 Calls Tryz.prog 10 #[.agg #[.slice (some ⟨gR,0,none⟩) 1 1,.int .i64 4],.agg #[.slice none 0 0,.slice none 0 0,.slice none 0 0],.agg (mZ d lv)] w fun e w'=>(∃(ac i:Int) (A:Option Addr) (n c:Nat),e=.returned (.tuple #[.agg #[.int .i64 ac,.int .i64 i,.slice A n c,.slice none 0 0],.int .i64 0])/\(ac==1)=(lv==3) /\
  ∀W,Below w'.heap.size w' W->bP 14 #[.agg #[.slice (some ⟨gR,0,none⟩) 1 1,.int .i64 4],.agg #[.slice none 0 0,.slice none 0 0,.slice none 0 0],.agg (mZ d lv),.agg #[.int .i64 ac,.int .i64 i,.slice A n c,.slice none 0 0]] W (.bool true))/\Below w.heap.size w w':=by
 cases hlv:(lv==3) with
 | true =>
  obtain rfl:lv=3:=by simpa using hlv
  refine (D7 gR gC d w hF h).mono ?_;rintro _ w' ⟨rfl,hb⟩;exact ⟨⟨1,0,none,0,0,rfl,rfl,fun W hW=>DX gR gC d W (hF.call (ah hb hW)) h⟩,hb⟩
 | false =>
  refine (H6 gR gC d lv hlv w hF h).mono ?_;rintro _ w' ⟨⟨v,rfl,hr⟩,hb⟩;obtain ⟨A,c,rfl,hA,hc,-⟩:=aF.at (p:=[(0:Int)]) (f:=uV) (fun _=>rfl) hr;exact ⟨⟨4,-1,A,1,c,rfl,rfl,fun W hW=>Hz gR gC d lv hlv A c W (hA.aU hW) hc (hF.call (ah hb hW)) h⟩,hb⟩
theorem UJ {w:World} {g:Nat} {x:AX} (h:Bx w g 32 #[.int .i64 x.d.r,.int .i64 x.d.d,.int .i64 x.d.t,.int .i64 x.d.n,x.v]):At 5 X9 w w.heap.size (some ⟨g,0,none⟩) [x]:=fun _ =>
 ⟨g,0,rfl,h.lt,fun i c hi j u hj=>by
  match i,hi with
  | 0,hi =>
   cases hi
   match j,hj with
   | 0,hj=>cases hj;exact h.cell 0 rfl
   | 1,hj=>cases hj;exact h.cell 1 rfl
   | 2,hj=>cases hj;exact h.cell 2 rfl
   | 3,hj=>cases hj;exact h.cell 3 rfl
   | 4,hj=>cases hj;exact h.cell 4 rfl⟩
theorem UH {w:World} {g:Nat} {n:Int} (h:Bx w g 3 #[.int .i64 n]):At 1 uV w w.heap.size (some ⟨g,0,none⟩) [n]:=fun _ =>
 ⟨g,0,rfl,h.lt,fun i c hi j u hj=>by
  match i,hi with
  | 0,hi =>
   cases hi
   match j,hj with
   | 0,hj=>cases hj;exact h.cell 0 rfl⟩
theorem Il (ks:List (List UInt8)) (K:Option Addr) (kc:Nat) (d:Sh.Dl) (hs:List Sh.Hn) (A:Option Addr) (cA g gf:Nat) (f k cn cd:Int) (w:World) (hK:At 1 h_ w w.heap.size K ks) (h8:ks.length=8) (hkc:8<=kc) (hks:∀k∈ks,mg k)
 (hL:Bx w g 32 #[.int .i64 d.r,.int .i64 d.d,.int .i64 d.t,.int .i64 d.n,.slice A hs.length cA]) (hA:At 3 dw w w.heap.size A hs) (hcA:hs.length<=cA) (hfm:iK d hs) (hF:Bx w gf 3 #[.int .i64 f]) (hfr:0<=f/\f<=7)
 (hcd:1<=cd/\cd<=1000) (hcn:0<=cn/\cn<=cd) (hR:Rnd w) (hk:k=if decide (qZ ks d hs=3)&&decide (c0 hs≠f) then 1 else 0) :
 Calls Tryz.prog 15 #[.slice K 8 kc,.slice (some ⟨g,0,none⟩) 1 1,.slice (some ⟨gf,0,none⟩) 1 1,.int .i64 d.r,.agg #[.int .i64 cn,.int .i64 cd]] w
  fun e w'=>e=.returned (.tuple #[.agg #[.int .i64 2,.int .i64 d.r,.int .i64 cn,.int .i64 cd,.int .i64 1,.int .i64 k,.slice none 0 0,.int .i64 0,.int .i64 0,.int .i64 0],.int .i64 0])/\Below w.heap.size w w':=by
 have h:=Nu ks K kc [⟨d,hs,.slice A hs.length cA⟩] (some ⟨g,0,none⟩) 1 [f] (some ⟨gf,0,none⟩) 1 d.r cn cd w hK h8 hkc hks (UJ hL) (Nat.le_refl _) (show (1:Nat)<=50 by decide) (fun x hx=>by
  obtain rfl:x=_:=List.mem_singleton.1 hx
  exact⟨⟨A,cA,rfl,hA,hcA⟩,hfm⟩) (UH hF) rfl (Nat.le_refl _) (fun x hx=>by
  obtain rfl:x=_:=List.mem_singleton.1 hx
  exact hfr) hfm.kr hcd hcn hR
 have e1:cnt (cT d.r) (([⟨d,hs,.slice A hs.length cA⟩]:List AX).zip [f]) 1=1:=Uz ⟨d,hs,.slice A hs.length cA⟩ f
 have e2:(cnt (cC ks d.r) (([⟨d,hs,.slice A hs.length cA⟩]:List AX).zip [f]) 1:Int)=k:=by
  rw[UA ks ⟨d,hs,.slice A hs.length cA⟩ f,hk]
  split <;> rfl
 unfold CS at h
 rw[show ([⟨d,hs,.slice A hs.length cA⟩]:List AX).length=1 from rfl]at h;rw [e1,e2]at h;exact h
def BG (e:TypeId) (size B n:Nat) (flat:List Value):RS.Rl:=fun _ v w=>aF e size B n flat v w
theorem CU {e t:TypeId} {size B B' n:Nat} {flat:List Value} {z cs:Array Value} (hne:e≠t):RS.b_ (RS.KZ B t z cs) (BG e size B' n flat):=fun _ v w w' h hK=>aF.GH h hK.Gt hne
end Go.Proofs.YtohgjenaclfegaaGreatDoor

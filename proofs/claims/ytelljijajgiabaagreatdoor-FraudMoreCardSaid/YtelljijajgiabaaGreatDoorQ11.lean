import Derived.Test.YtelljijajgiabaaGreatDoorQ10
import Derived.WalkMore
import Derived.ScopeJumps
set_option linter.unusedVariables false
set_option linter.unusedSimpArgs false
set_option maxRecDepth 100000
set_option maxHeartbeats 8000000
namespace Go.Proofs.YtelljijajgiabaaGreatDoor
open Go.RowKit Go.Shelf
def KC (w:World) (gA gB:Nat) (nA nB:Array Value) (W W':World):Prop:=(Below w.heap.size w W->Below w.heap.size w W')/\(Bx W gA 51 nA->Bx W' gA 51 nA)/\(Bx W gB 51 nB->Bx W' gB 51 nB)
theorem dD (w:World) (gA gB:Nat) (nA nB:Array Value):RN.Cls (KC w gA gB nA nB) :=
 ⟨fun _=>⟨fun h=>h,fun h=>h,fun h=>h⟩,fun h h'=>⟨fun k=>h'.1 (h.1 k),fun k=>h'.2.1 (h.2.1 k),fun k=>h'.2.2 (h.2.2 k)⟩,fun _ n=>⟨fun h=>⟨h.os,h.tape,h.output,h.size,h.block⟩,fun h=>h,fun h=>h⟩⟩
def NC (gA gB:Nat) (oA oB:Array Value) (j:Nat) (W:World):Prop:=(j=10->Bx W gA 51 oA)/\(j=11->Bx W gB 51 oB)
def RX (g:Nat) (n:Array Value):Value->World->Prop:=fun _ w=>Bx w g 51 n
theorem VH (n:Nat) (a:Array Value) (h:a.size=n):a=((List.range n).map fun k=>a.getD k undef).toArray:=by
 apply Array.ext
 · simp[h]
 · intro i h1 h2;simp [Array.getD,h1]
theorem act74 (a:Act) (h:a.tmps.size=74) (hd:a.defers=[]):∃us:Nat->Value,a={ tmps:=#[us 0,us 1,us 2,us 3,us 4,us 5,us 6,us 7,us 8,us 9,us 10,us 11,us 12,us 13,us 14,us 15,us 16,us 17,us 18,us 19,us 20,us 21,us 22,us 23,us 24,us 25,us 26,us 27,us 28,us 29,us 30,us 31,us 32,us 33,us 34,us 35,us 36,us 37,us 38,us 39,us 40,us 41,us 42,us 43,us 44,us 45,us 46,us 47,us 48,us 49,us 50,us 51,us 52,us 53,us 54,us 55,us 56,us 57,us 58,us 59,us 60,us 61,us 62,us 63,us 64,us 65,us 66,us 67,us 68,us 69,us 70,us 71,us 72,us 73],defers:=[] }:=by
 refine⟨fun k=>a.tmps.getD k undef,?_⟩;obtain ⟨t,d⟩:=a;obtain rfl:d=[]:=hd;exact congrArg (fun x=>Act.mk x []) (VH 74 t h)
theorem vP {W:World} {g:Nat} {d:Int} {sd:List UInt8} (hd:0<d) (e0:Lib.itoa d=sd) (h:W.cell? ⟨g,1,none⟩=some (.string ⟨sd.toArray⟩)):Classical.epsilon (fun k:Nat=>W.cell? ⟨g,1,none⟩=some (.string ⟨(Lib.itoa (k:Int)).toArray⟩))=d.toNat:=by
 have e:((d.toNat:Nat):Int)=d:=by omega
 have h1:W.cell? ⟨g,1,none⟩=some (.string ⟨(Lib.itoa ((d.toNat:Nat):Int)).toArray⟩):=by rw[e,e0];exact h
 have h2:=Classical.epsilon_spec (p:=fun k:Nat=>W.cell? ⟨g,1,none⟩=some (.string ⟨(Lib.itoa (k:Int)).toArray⟩)) ⟨_,h1⟩;have h3:=h1.symm.trans h2;simp only[Option.some.injEq,Value.string.injEq,ByteArray.mk.injEq]at h3;have h4:=Ig.dH (List.toArray_inj h3);omega
theorem E_ (x y:Rat) (w:World) (hE:Env w) (hx:Rq.Fq x) (hy:Rq.Fq y) :
 aW 35 #[QV x,QV y] w (.int .i64 (dA (x.num*y.den) (y.num*x.den))):=by
 unfold QV
 have hV1:=fun w0 hE0=>qc (Lib.itoa x.num) (Lib.itoa (x.den:Int)) w0 (aV hx.num) (aV hx.den) hE0
 have hV2:=fun w0 hE0=>qc (Lib.itoa y.num) (Lib.itoa (y.den:Int)) w0 (aV hy.num) (aV hy.den) hE0
 rw[Rq.oq hx]at hV1;rw [Rq.oq hy]at hV2;have hfit:Kp (Ig.fits x.num/\Ig.fits (x.den:Int)/\Ig.fits y.num/\Ig.fits (y.den:Int)):=⟨⟨hx.num,hx.den,hy.num,hy.den⟩⟩
 have hd0:=Rq.iG x;have hc0:=Rq.iG y;clear hx hy;obtain ⟨ans,hans⟩:=jH (dA (x.num*y.den) (y.num*x.den));have hs:Kp ((1:Int)*dA (x.num*y.den) (y.num*x.den)=ans):=⟨by rw[Int.one_mul];exact hans.out⟩
 rw[hans.out];generalize x.num=n at *;generalize (x.den:Int)=d at *;generalize y.num=m at *;generalize (y.den:Int)=c at *;clear hans;obtain ⟨sn,WX⟩:=jH (Lib.itoa n);obtain ⟨sd,esd⟩:=jH (Lib.itoa d);obtain ⟨sm,esm⟩:=jH (Lib.itoa m);obtain ⟨sc,esc⟩:=jH (Lib.itoa c);have hst:Kp (Lib.itoa n=sn/\Lib.itoa d=sd/\Lib.itoa m=sm/\Lib.itoa c=sc):=⟨⟨WX.out,esd.out,esm.out,esc.out⟩⟩
 rw[WX.out,esd.out]at hV1;rw [esm.out,esc.out]at hV2;rw [WX.out,esd.out,esm.out,esc.out];clear WX esd esm esc;have hb:=bNew (au w (.cells #[.string ⟨sn.toArray⟩,.string ⟨sd.toArray⟩] 51)) (.cells #[.string ⟨sm.toArray⟩,.string ⟨sc.toArray⟩] 51);have BA:=(Bx.mk w 51 #[.string ⟨sn.toArray⟩,.string ⟨sd.toArray⟩]).new (.cells #[.string ⟨sm.toArray⟩,.string ⟨sc.toArray⟩] 51);have BB:=Bx.mk (w.alloc (.cells #[.string ⟨sn.toArray⟩,.string ⟨sd.toArray⟩] 51)) 51 #[.string ⟨sm.toArray⟩,.string ⟨sc.toArray⟩];rw [ah]at BB;have DF:=BA.cell 0 rfl;have DC:=BA.cell 1 rfl
 go_enter Tryz.func35,Tryz.ntmps35
 go_wp2;have hAB:Kp (w.heap.size≠w.heap.size+1):=⟨by omega⟩
 have NK:Kp (w.heap.size<=w.heap.size):=⟨by omega⟩
 have NJ:Kp (w.heap.size<=w.heap.size+1):=⟨by omega⟩
 refine wp_scope_jumps 0 (fun a' w'=>∃(n d m c sg:Int) (sn sd sm sc:List UInt8),a'.tmps.size=74/\a'.defers=[]/\a'.tmps.getD 2 undef=.pointer (some ⟨w.heap.size,0,none⟩)/\a'.tmps.getD 3 undef=.pointer (some ⟨(w.heap.size+1),0,none⟩)/\a'.tmps.getD 4 undef=.int .i64 0/\a'.tmps.getD 5 undef=.int .i64 sg/\(sg=1∨sg= -1)/\0<d/\0<c/\Kp (Lib.itoa n=sn/\Lib.itoa d=sd/\Lib.itoa m=sm/\Lib.itoa c=sc)/\Kp (Ig.fits n/\Ig.fits d/\Ig.fits m/\Ig.fits c)/\Kp (sg*dA (n*c) (m*d)=ans)/\Bx w' w.heap.size 51 #[.string ⟨sn.toArray⟩,.string ⟨sd.toArray⟩]/\Bx w' (w.heap.size+1) 51 #[.string ⟨sm.toArray⟩,.string ⟨sc.toArray⟩]/\Below w.heap.size w w') (fun a' w'=>Classical.epsilon (fun k:Nat=>w'.cell? ⟨w.heap.size,1,none⟩=some (.string ⟨(Lib.itoa (k:Int)).toArray⟩))) rfl ?_ ?_
 · go_wp2_with fail;refine (hV1 _ (hE.below hb)).mono ?_;rintro _ y1 ⟨rfl,hb1⟩;replace hb:=aj hb hb1;replace BA:=BA.call hb1;replace BB:=BB.call hb1;have b0:=BB.cell 0 rfl;have b1:=BB.cell 1 rfl;clear hb1 hV1 DF DC;go_wp2_with fail;refine (hV2 _ (hE.below hb)).mono ?_;rintro _ y2 ⟨rfl,hb1⟩;replace hb:=aj hb hb1;replace BA:=BA.call hb1;replace BB:=BB.call hb1;clear hb1 hV2 b0 b1;go_wp2
   go_step3
   obtain⟨hn,hd,hm,hc⟩:=hfit.out;have hD1:=fun w0 hE0=>vZ n d w0 hn hd (by omega) hE0
   have hD2:=fun w0 hE0=>vZ m c w0 hm hc (by omega) hE0
   have yB:=fun w0=>kZ (n / d) (m / c) w0 (gJ d hn) (gJ c hm)
   have fr:=mY n (show d≠0 by omega) hd;have fs:=mY m (show c≠0 by omega) hc;have tr:=iE (n % d);have ts:=iE (m % c);have hlt:=fun h=>SX (n:=n) (m:=m) hd0 hc0 h
   have hgt:=fun h=>SY (n:=n) (m:=m) hd0 hc0 h
   have h00:=fun h h1 h2=>S_ (n:=n) (d:=d) (m:=m) (c:=c) h h1 h2
   have zQ:=fun h h1 h2=>S9 (n:=n) (m:=m) hd0 hc0 h h1 h2
   have hr0:=fun h h1 h2=>SV (n:=n) (m:=m) hd0 hc0 h h1 h2
   have htn:=fun h=>ET (n:=n) (d:=d) (m:=m) (c:=c) h
   have hsd:=fun h=>jZ (n:=n) hd0 h
   have hsc:=fun h=>jZ (n:=m) hc0 h
   obtain⟨sp,RQ⟩:=jH (Lib.itoa (n / d));obtain ⟨sr,JV⟩:=jH (Lib.itoa (n % d));obtain ⟨sq,RP⟩:=jH (Lib.itoa (m / c));obtain ⟨ss,ess⟩:=jH (Lib.itoa (m % c));rw [hst.out.1,hst.out.2.1,RQ.out,JV.out]at hD1;rw [hst.out.2.2.1,hst.out.2.2.2,RP.out,ess.out]at hD2;rw [RQ.out,RP.out]at yB;rw [JV.out]at tr;rw [ess.out]at ts;replace RQ:=trivial;replace RP:=trivial;generalize hv:dA (n*c) (m*d)=val at *;generalize n / d=p at *;generalize m / c=q at *;generalize n % d=r at *;generalize m % c=s at *;replace hv:=Kp.mk hv;have a0:=BA.cell 0 rfl;have a1:=BA.cell 1 rfl;have b0:=BB.cell 0 rfl;have b1:=BB.cell 1 rfl;go_wp2_with fail;refine (hD1 _ (hE.below hb)).mono ?_;rintro _ w1 ⟨rfl,hb1⟩;replace hb:=aj hb hb1;replace BA:=BA.call hb1;replace BB:=BB.call hb1;clear hb1 hD1 a0 a1 b0 b1;have b0:=BB.cell 0 rfl;have b1:=BB.cell 1 rfl;go_wp2_with fail;refine (hD2 _ (hE.below hb)).mono ?_;rintro _ w2 ⟨rfl,hb1⟩;replace hb:=aj hb hb1;replace BA:=BA.call hb1;replace BB:=BB.call hb1;clear hb1 hD2 b0 b1
   rcases Int.lt_trichotomy p q with hpq|hpq|hpq
   · rw[m_ hpq]at yB;have hval:=Kp.mk (hlt hpq);clear hlt hgt h00 zQ hr0 htn hsd hsc tr ts hpq hv;go_wp2_with fail;refine (yB _).mono ?_;rintro _ w3 ⟨rfl,hb1⟩;replace hb:=aj hb hb1;replace BA:=BA.call hb1;replace BB:=BB.call hb1;clear hb1 yB;go_wp2;simp only[Exit.jump];go_ret;exact ⟨cu (by have:=hs.out;rw[hval.out]at this;omega),hb⟩
   · have qN:=Kp.mk hpq;subst hpq;rw [oI]at yB;go_wp2_with fail;refine (yB _).mono ?_;rintro _ w3 ⟨rfl,hb1⟩;replace hb:=aj hb hb1;replace BA:=BA.call hb1;replace BB:=BB.call hb1;clear hb1 yB;by_cases hr:r=0
     · rw[decide_eq_true hr]at tr;by_cases hs0:s=0
       · rw[decide_eq_true hs0]at ts;have hval:=Kp.mk (h00 qN.out hr hs0);clear hlt hgt h00 zQ hr0 htn hsd hsc hr hs0 qN hv fr fs;go_wp2;simp only[Exit.jump];go_ret;exact ⟨cu (by have:=hs.out;rw[hval.out,Int.mul_zero]at this;exact this),hb⟩
       · rw[decide_eq_false hs0]at ts;have hval:=Kp.mk (zQ qN.out hr hs0);clear hlt hgt h00 zQ hr0 htn hsd hsc hr hs0 qN hv fr fs;go_wp2;simp only[Exit.jump];go_ret;exact ⟨cu (by have:=hs.out;rw[hval.out]at this;omega),hb⟩
     · rw[decide_eq_false hr]at tr;by_cases hs0:s=0
       · rw[decide_eq_true hs0]at ts;have hval:=Kp.mk (hr0 qN.out hr hs0);clear hlt hgt h00 zQ hr0 htn hsd hsc hr hs0 qN hv fr fs;go_wp2;simp only[Exit.jump];go_ret;exact ⟨cu (by have:=hs.out;rw[hval.out]at this;omega),hb⟩
       · rw[decide_eq_false hs0]at ts;have hval:=Kp.mk (htn qN.out);have hdr:=hsd hr;have hcs:=hsc hs0;clear hlt hgt h00 zQ hr0 htn hsd hsc hr hs0 qN;have hnew:Kp (Ig.fits d/\Ig.fits r/\Ig.fits c/\Ig.fits s):=⟨⟨hd,fr,hc,fs⟩⟩
         clear fr fs hn hd hm hc hfit;have a1:=BA.cell 1 rfl;have b1:=BB.cell 1 rfl
         · skip
           go_wp2_with fail;refine RN.aA (N:=NC w.heap.size (w.heap.size+1) #[.string ⟨sn.toArray⟩,.string ⟨sd.toArray⟩] #[.string ⟨sm.toArray⟩,.string ⟨sc.toArray⟩]) (dD w w.heap.size (w.heap.size+1) #[.string ⟨sd.toArray⟩,.string ⟨sr.toArray⟩] #[.string ⟨sc.toArray⟩,.string ⟨ss.toArray⟩]) [RN.ak (.pointer (some ⟨w.heap.size,1,none⟩)),RN.ak (.string ⟨sd.toArray⟩),RN.ak (.string ⟨sr.toArray⟩),RN.ak (.agg #[.string ⟨sd.toArray⟩,.string ⟨sr.toArray⟩]),RN.ak (.pointer (some ⟨(w.heap.size+1),1,none⟩)),RN.ak (.string ⟨sc.toArray⟩),RN.ak (.string ⟨ss.toArray⟩),RN.ak (.agg #[.string ⟨sc.toArray⟩,.string ⟨ss.toArray⟩]),RN.ak (.int .i64 1),RN.ak (.int .i64 (-1)),RX w.heap.size #[.string ⟨sd.toArray⟩,.string ⟨sr.toArray⟩],RX (w.heap.size+1) #[.string ⟨sc.toArray⟩,.string ⟨ss.toArray⟩]] 12 74 (by kernel_rfl) rfl rfl (by kernel_rfl) ?_ ?_ ?_ ?_
           · simp only[RN.bV]
             and_intros <;> first|exact RN.aF _|exact fun _ _ _ h k=>k.2.1 h|exact fun _ _ _ h k=>k.2.2 h|trivial
           · exact fun j=>⟨fun _=>BA,fun _=>BB⟩
           · simp only[RN.Users,List.take,List.length];refine ⟨?_,?_,?_,?_,?_,?_,?_,?_,?_,?_,?_,?_,trivial⟩;all_goals (intro vs w2 hb2 hd hn;simp only[RN.aQ,Act.put,List.nil_append,List.cons_append,List.setIfInBounds_toArray,List.set_cons_succ,List.set_cons_zero,Nat.reduceAdd])
             · clear hd hn;go_wp2;exact⟨⟨(dD w w.heap.size (w.heap.size+1) #[.string ⟨sd.toArray⟩,.string ⟨sr.toArray⟩] #[.string ⟨sc.toArray⟩,.string ⟨ss.toArray⟩]).refl _,fun _ _ h=>h⟩,rfl⟩
             · have e0:vs 0=_:=hd 0 rfl;have a1':=((hn 10 (by decide) (by kernel_rfl)).1 rfl).cell 1 rfl;clear hd hn;rw[e0];go_wp2;exact⟨⟨(dD w w.heap.size (w.heap.size+1) #[.string ⟨sd.toArray⟩,.string ⟨sr.toArray⟩] #[.string ⟨sc.toArray⟩,.string ⟨ss.toArray⟩]).refl _,fun _ _ h=>h⟩,rfl⟩
             · clear hd hn;go_wp2;exact⟨⟨(dD w w.heap.size (w.heap.size+1) #[.string ⟨sd.toArray⟩,.string ⟨sr.toArray⟩] #[.string ⟨sc.toArray⟩,.string ⟨ss.toArray⟩]).refl _,fun _ _ h=>h⟩,rfl⟩
             · have e0:vs 1=_:=hd 1 rfl;have e1:vs 2=_:=hd 2 rfl;clear hd hn;rw[e0,e1];go_wp2;exact⟨⟨(dD w w.heap.size (w.heap.size+1) #[.string ⟨sd.toArray⟩,.string ⟨sr.toArray⟩] #[.string ⟨sc.toArray⟩,.string ⟨ss.toArray⟩]).refl _,fun _ _ h=>h⟩,rfl⟩
             · clear hd hn;go_wp2;exact⟨⟨(dD w w.heap.size (w.heap.size+1) #[.string ⟨sd.toArray⟩,.string ⟨sr.toArray⟩] #[.string ⟨sc.toArray⟩,.string ⟨ss.toArray⟩]).refl _,fun _ _ h=>h⟩,rfl⟩
             · have e0:vs 4=_:=hd 4 rfl;have b1':=((hn 11 (by decide) (by kernel_rfl)).2 rfl).cell 1 rfl;clear hd hn;rw[e0];go_wp2;exact⟨⟨(dD w w.heap.size (w.heap.size+1) #[.string ⟨sd.toArray⟩,.string ⟨sr.toArray⟩] #[.string ⟨sc.toArray⟩,.string ⟨ss.toArray⟩]).refl _,fun _ _ h=>h⟩,rfl⟩
             · clear hd hn;go_wp2;exact⟨⟨(dD w w.heap.size (w.heap.size+1) #[.string ⟨sd.toArray⟩,.string ⟨sr.toArray⟩] #[.string ⟨sc.toArray⟩,.string ⟨ss.toArray⟩]).refl _,fun _ _ h=>h⟩,rfl⟩
             · have e0:vs 5=_:=hd 5 rfl;have e1:vs 6=_:=hd 6 rfl;clear hd hn;rw[e0,e1];go_wp2;exact⟨⟨(dD w w.heap.size (w.heap.size+1) #[.string ⟨sd.toArray⟩,.string ⟨sr.toArray⟩] #[.string ⟨sc.toArray⟩,.string ⟨ss.toArray⟩]).refl _,fun _ _ h=>h⟩,rfl⟩
             · clear hd hn;go_wp2;exact⟨⟨(dD w w.heap.size (w.heap.size+1) #[.string ⟨sd.toArray⟩,.string ⟨sr.toArray⟩] #[.string ⟨sc.toArray⟩,.string ⟨ss.toArray⟩]).refl _,fun _ _ h=>h⟩,rfl⟩
             · have e0:vs 8=_:=hd 8 rfl;clear hd hn;rw[e0];go_wp2;exact⟨⟨(dD w w.heap.size (w.heap.size+1) #[.string ⟨sd.toArray⟩,.string ⟨sr.toArray⟩] #[.string ⟨sc.toArray⟩,.string ⟨ss.toArray⟩]).refl _,fun _ _ h=>h⟩,rfl⟩
             · have e0:vs 3=_:=hd 3 rfl;have hX:=(hn 10 (by decide) (by kernel_rfl)).1 rfl;have x0:=hX.cell 0 rfl;have x1:=hX.cell 1 rfl;have f0:=hX.frozen 0;have f1:=hX.frozen 1
               have hY:Bx ((w2.setCell ⟨w.heap.size,0,none⟩ (.string ⟨sd.toArray⟩)).setCell ⟨w.heap.size,1,none⟩ (.string ⟨sr.toArray⟩)) w.heap.size 51 #[.string ⟨sd.toArray⟩,.string ⟨sr.toArray⟩]:=by
                have:=(hX.set 0 (.string ⟨sd.toArray⟩)).set 1 (.string ⟨sr.toArray⟩);simpa using this
               have hF:∀ {cs:Array Value},Bx w2 (w.heap.size+1) 51 cs->Bx ((w2.setCell ⟨w.heap.size,0,none⟩ (.string ⟨sd.toArray⟩)).setCell ⟨w.heap.size,1,none⟩ (.string ⟨sr.toArray⟩)) (w.heap.size+1) 51 cs:=fun h=>(h.far (p:=⟨w.heap.size,0,none⟩) (fun e=>hAB.out e.symm) _).far (p:=⟨w.heap.size,1,none⟩) (fun e=>hAB.out e.symm) _
               have hW:Below w.heap.size w w2->Below w.heap.size w ((w2.setCell ⟨w.heap.size,0,none⟩ (.string ⟨sd.toArray⟩)).setCell ⟨w.heap.size,1,none⟩ (.string ⟨sr.toArray⟩)):=fun h=>(h.setCell (p:=⟨w.heap.size,0,none⟩) NK.out _).setCell (p:=⟨w.heap.size,1,none⟩) NK.out _
               rw[e0];clear hd hn e0 hX;go_wp2;exact ⟨⟨⟨hW,fun _=>hY,hF⟩,fun j hj hN=>⟨fun e=>absurd e hj,fun e=>hF (hN.2 e)⟩⟩,hY⟩
             · have e0:vs 7=_:=hd 7 rfl;have hX:=(hn 11 (by decide) (by kernel_rfl)).2 rfl;have x0:=hX.cell 0 rfl;have x1:=hX.cell 1 rfl;have f0:=hX.frozen 0;have f1:=hX.frozen 1
               have hY:Bx ((w2.setCell ⟨(w.heap.size+1),0,none⟩ (.string ⟨sc.toArray⟩)).setCell ⟨(w.heap.size+1),1,none⟩ (.string ⟨ss.toArray⟩)) (w.heap.size+1) 51 #[.string ⟨sc.toArray⟩,.string ⟨ss.toArray⟩]:=by
                have:=(hX.set 0 (.string ⟨sc.toArray⟩)).set 1 (.string ⟨ss.toArray⟩);simpa using this
               have hF:∀ {cs:Array Value},Bx w2 w.heap.size 51 cs->Bx ((w2.setCell ⟨(w.heap.size+1),0,none⟩ (.string ⟨sc.toArray⟩)).setCell ⟨(w.heap.size+1),1,none⟩ (.string ⟨ss.toArray⟩)) w.heap.size 51 cs:=fun h=>(h.far (p:=⟨(w.heap.size+1),0,none⟩) (hAB.out) _).far (p:=⟨(w.heap.size+1),1,none⟩) (hAB.out) _
               have hW:Below w.heap.size w w2->Below w.heap.size w ((w2.setCell ⟨(w.heap.size+1),0,none⟩ (.string ⟨sc.toArray⟩)).setCell ⟨(w.heap.size+1),1,none⟩ (.string ⟨ss.toArray⟩)):=fun h=>(h.setCell (p:=⟨(w.heap.size+1),0,none⟩) NJ.out _).setCell (p:=⟨(w.heap.size+1),1,none⟩) NJ.out _
               rw[e0];clear hd hn e0 hX;go_wp2;exact ⟨⟨⟨hW,hF,fun _=>hY⟩,fun j hj hN=>⟨fun e=>hF (hN.1 e),fun e=>absurd e hj⟩⟩,hY⟩
           · intro vs wa hba hR2;simp only[RN.cZ,RN.ak]at hR2;obtain ⟨e0,e1,e2,e3,e4,e5,e6,e7,e8,e9,e10,e11,-⟩:=hR2;simp only[List.drop,List.take,List.map,RN.aQ,Act.put,List.setIfInBounds_toArray,List.set_cons_succ,List.set_cons_zero,Nat.reduceAdd];rw [e0,e1,e2,e3,e4,e5,e6,e7,e8,e9];have Ze:Bx wa w.heap.size 51 #[.string ⟨sd.toArray⟩,.string ⟨sr.toArray⟩]:=e10;have BB2:Bx wa (w.heap.size+1) 51 #[.string ⟨sc.toArray⟩,.string ⟨ss.toArray⟩]:=e11;have hb2:=hba.1 hb;clear hb BA BB a1 b1;go_wp2
             go_step3
             refine⟨rfl,d,r,c,s,(-1),sd,sr,sc,ss,rfl,rfl,rfl,rfl,rfl,rfl,.inr rfl,hdr.1,hcs.1,⟨⟨hst.out.2.1,JV.out,hst.out.2.2.2,ess.out⟩⟩,hnew,⟨?_⟩,?_,?_,hb2⟩
             · have h1:=hs.out;rw [hval.out]at h1;rw [←h1];omega
             · exact Ze
             · exact BB2
   · rw[ng hpq]at yB;have hval:=Kp.mk (hgt hpq);clear hlt hgt h00 zQ hr0 htn hsd hsc tr ts hpq hv;go_wp2_with fail;refine (yB _).mono ?_;rintro _ w3 ⟨rfl,hb1⟩;replace hb:=aj hb hb1;replace BA:=BA.call hb1;replace BB:=BB.call hb1;clear hb1 yB;go_wp2;simp only[Exit.jump];go_ret;exact ⟨cu (by have:=hs.out;rw[hval.out]at this;omega),hb⟩
 · clear hV1 hV2 DF DC BA BB hb hs hfit hd0 hc0 hst;rintro a' w' ⟨n,d,m,c,sg,sn,sd,sm,sc,z0,z1,z2,z3,z4,z5,hsg,hd0,hc0,hst,hfit,hs,BA,BB,hb⟩;have hA1:=Kp.mk (BA.cell 1 rfl);obtain ⟨us,rfl⟩:=act74 a' z0 z1;have e2:us 2=.pointer (some ⟨w.heap.size,0,none⟩):=z2;have e3:us 3=.pointer (some ⟨(w.heap.size+1),0,none⟩):=z3;have e4:us 4=.int .i64 0:=z4;have e5:us 5=.int .i64 sg:=z5;clear z0 z1 z2 z3 z4 z5;rw [e2,e3,e4,e5];clear e2 e3 e4 e5;obtain ⟨hn,hd,hm,hc⟩:=hfit.out;have hD1:=fun w0 hE0=>vZ n d w0 hn hd (by omega) hE0
   have hD2:=fun w0 hE0=>vZ m c w0 hm hc (by omega) hE0
   have yB:=fun w0=>kZ (n / d) (m / c) w0 (gJ d hn) (gJ c hm)
   have fr:=mY n (show d≠0 by omega) hd;have fs:=mY m (show c≠0 by omega) hc;have tr:=iE (n % d);have ts:=iE (m % c);have hlt:=fun h=>SX (n:=n) (m:=m) hd0 hc0 h
   have hgt:=fun h=>SY (n:=n) (m:=m) hd0 hc0 h
   have h00:=fun h h1 h2=>S_ (n:=n) (d:=d) (m:=m) (c:=c) h h1 h2
   have zQ:=fun h h1 h2=>S9 (n:=n) (m:=m) hd0 hc0 h h1 h2
   have hr0:=fun h h1 h2=>SV (n:=n) (m:=m) hd0 hc0 h h1 h2
   have htn:=fun h=>ET (n:=n) (d:=d) (m:=m) (c:=c) h
   have hsd:=fun h=>jZ (n:=n) hd0 h
   have hsc:=fun h=>jZ (n:=m) hc0 h
   obtain⟨sp,RQ⟩:=jH (Lib.itoa (n / d));obtain ⟨sr,JV⟩:=jH (Lib.itoa (n % d));obtain ⟨sq,RP⟩:=jH (Lib.itoa (m / c));obtain ⟨ss,ess⟩:=jH (Lib.itoa (m % c));rw [hst.out.1,hst.out.2.1,RQ.out,JV.out]at hD1;rw [hst.out.2.2.1,hst.out.2.2.2,RP.out,ess.out]at hD2;rw [RQ.out,RP.out]at yB;rw [JV.out]at tr;rw [ess.out]at ts;replace RQ:=trivial;replace RP:=trivial;generalize hv:dA (n*c) (m*d)=val at *;generalize n / d=p at *;generalize m / c=q at *;generalize n % d=r at *;generalize m % c=s at *;replace hv:=Kp.mk hv;have a0:=BA.cell 0 rfl;have a1:=BA.cell 1 rfl;have b0:=BB.cell 0 rfl;have b1:=BB.cell 1 rfl;go_wp2_with fail;refine (hD1 _ (hE.below hb)).mono ?_;rintro _ w1 ⟨rfl,hb1⟩;replace hb:=aj hb hb1;replace BA:=BA.call hb1;replace BB:=BB.call hb1;clear hb1 hD1 a0 a1 b0 b1;have b0:=BB.cell 0 rfl;have b1:=BB.cell 1 rfl;go_wp2_with fail;refine (hD2 _ (hE.below hb)).mono ?_;rintro _ w2 ⟨rfl,hb1⟩;replace hb:=aj hb hb1;replace BA:=BA.call hb1;replace BB:=BB.call hb1;clear hb1 hD2 b0 b1
   rcases Int.lt_trichotomy p q with hpq|hpq|hpq
   · rw[m_ hpq]at yB;have hval:=Kp.mk (hlt hpq);clear hlt hgt h00 zQ hr0 htn hsd hsc tr ts hpq hv;go_wp2_with fail;refine (yB _).mono ?_;rintro _ w3 ⟨rfl,hb1⟩;replace hb:=aj hb hb1;replace BA:=BA.call hb1;replace BB:=BB.call hb1;clear hb1 yB
     rcases hsg with rfl|rfl
     all_goals
      go_wp2;simp only[Exit.jump];go_ret;exact ⟨cu (by have:=hs.out;rw[hval.out]at this;omega),hb⟩
   · have qN:=Kp.mk hpq;subst hpq;rw [oI]at yB;go_wp2_with fail;refine (yB _).mono ?_;rintro _ w3 ⟨rfl,hb1⟩;replace hb:=aj hb hb1;replace BA:=BA.call hb1;replace BB:=BB.call hb1;clear hb1 yB;by_cases hr:r=0
     · rw[decide_eq_true hr]at tr;by_cases hs0:s=0
       · rw[decide_eq_true hs0]at ts;have hval:=Kp.mk (h00 qN.out hr hs0);clear hlt hgt h00 zQ hr0 htn hsd hsc hr hs0 qN hv fr fs;go_wp2;simp only[Exit.jump];go_ret;exact ⟨cu (by have:=hs.out;rw[hval.out,Int.mul_zero]at this;exact this),hb⟩
       · rw[decide_eq_false hs0]at ts;have hval:=Kp.mk (zQ qN.out hr hs0);clear hlt hgt h00 zQ hr0 htn hsd hsc hr hs0 qN hv fr fs
         rcases hsg with rfl|rfl
         all_goals
          go_wp2;simp only[Exit.jump];go_ret;exact ⟨cu (by have:=hs.out;rw[hval.out]at this;omega),hb⟩
     · rw[decide_eq_false hr]at tr;by_cases hs0:s=0
       · rw[decide_eq_true hs0]at ts;have hval:=Kp.mk (hr0 qN.out hr hs0);clear hlt hgt h00 zQ hr0 htn hsd hsc hr hs0 qN hv fr fs
         rcases hsg with rfl|rfl
         all_goals
          go_wp2;simp only[Exit.jump];go_ret;exact ⟨cu (by have:=hs.out;rw[hval.out]at this;omega),hb⟩
       · rw[decide_eq_false hs0]at ts;have hval:=Kp.mk (htn qN.out);have hdr:=hsd hr;have hcs:=hsc hs0;clear hlt hgt h00 zQ hr0 htn hsd hsc hr hs0 qN;have hnew:Kp (Ig.fits d/\Ig.fits r/\Ig.fits c/\Ig.fits s):=⟨⟨hd,fr,hc,fs⟩⟩
         clear fr fs hn hd hm hc hfit;have a1:=BA.cell 1 rfl;have b1:=BB.cell 1 rfl
         rcases hsg with rfl|rfl
         · skip
           go_wp2_with fail;refine RN.aA (N:=NC w.heap.size (w.heap.size+1) #[.string ⟨sn.toArray⟩,.string ⟨sd.toArray⟩] #[.string ⟨sm.toArray⟩,.string ⟨sc.toArray⟩]) (dD w w.heap.size (w.heap.size+1) #[.string ⟨sd.toArray⟩,.string ⟨sr.toArray⟩] #[.string ⟨sc.toArray⟩,.string ⟨ss.toArray⟩]) [RN.ak (.pointer (some ⟨w.heap.size,1,none⟩)),RN.ak (.string ⟨sd.toArray⟩),RN.ak (.string ⟨sr.toArray⟩),RN.ak (.agg #[.string ⟨sd.toArray⟩,.string ⟨sr.toArray⟩]),RN.ak (.pointer (some ⟨(w.heap.size+1),1,none⟩)),RN.ak (.string ⟨sc.toArray⟩),RN.ak (.string ⟨ss.toArray⟩),RN.ak (.agg #[.string ⟨sc.toArray⟩,.string ⟨ss.toArray⟩]),RN.ak (.int .i64 1),RN.ak (.int .i64 (-1)),RX w.heap.size #[.string ⟨sd.toArray⟩,.string ⟨sr.toArray⟩],RX (w.heap.size+1) #[.string ⟨sc.toArray⟩,.string ⟨ss.toArray⟩]] 12 74 (by kernel_rfl) rfl rfl (by kernel_rfl) ?_ ?_ ?_ ?_
           · simp only[RN.bV]
             and_intros <;> first|exact RN.aF _|exact fun _ _ _ h k=>k.2.1 h|exact fun _ _ _ h k=>k.2.2 h|trivial
           · exact fun j=>⟨fun _=>BA,fun _=>BB⟩
           · simp only[RN.Users,List.take,List.length];refine ⟨?_,?_,?_,?_,?_,?_,?_,?_,?_,?_,?_,?_,trivial⟩;all_goals (intro vs w2 hb2 hd hn;simp only[RN.aQ,Act.put,List.nil_append,List.cons_append,List.setIfInBounds_toArray,List.set_cons_succ,List.set_cons_zero,Nat.reduceAdd])
             · clear hd hn;go_wp2;exact⟨⟨(dD w w.heap.size (w.heap.size+1) #[.string ⟨sd.toArray⟩,.string ⟨sr.toArray⟩] #[.string ⟨sc.toArray⟩,.string ⟨ss.toArray⟩]).refl _,fun _ _ h=>h⟩,rfl⟩
             · have e0:vs 0=_:=hd 0 rfl;have a1':=((hn 10 (by decide) (by kernel_rfl)).1 rfl).cell 1 rfl;clear hd hn;rw[e0];go_wp2;exact⟨⟨(dD w w.heap.size (w.heap.size+1) #[.string ⟨sd.toArray⟩,.string ⟨sr.toArray⟩] #[.string ⟨sc.toArray⟩,.string ⟨ss.toArray⟩]).refl _,fun _ _ h=>h⟩,rfl⟩
             · clear hd hn;go_wp2;exact⟨⟨(dD w w.heap.size (w.heap.size+1) #[.string ⟨sd.toArray⟩,.string ⟨sr.toArray⟩] #[.string ⟨sc.toArray⟩,.string ⟨ss.toArray⟩]).refl _,fun _ _ h=>h⟩,rfl⟩
             · have e0:vs 1=_:=hd 1 rfl;have e1:vs 2=_:=hd 2 rfl;clear hd hn;rw[e0,e1];go_wp2;exact⟨⟨(dD w w.heap.size (w.heap.size+1) #[.string ⟨sd.toArray⟩,.string ⟨sr.toArray⟩] #[.string ⟨sc.toArray⟩,.string ⟨ss.toArray⟩]).refl _,fun _ _ h=>h⟩,rfl⟩
             · clear hd hn;go_wp2;exact⟨⟨(dD w w.heap.size (w.heap.size+1) #[.string ⟨sd.toArray⟩,.string ⟨sr.toArray⟩] #[.string ⟨sc.toArray⟩,.string ⟨ss.toArray⟩]).refl _,fun _ _ h=>h⟩,rfl⟩
             · have e0:vs 4=_:=hd 4 rfl;have b1':=((hn 11 (by decide) (by kernel_rfl)).2 rfl).cell 1 rfl;clear hd hn;rw[e0];go_wp2;exact⟨⟨(dD w w.heap.size (w.heap.size+1) #[.string ⟨sd.toArray⟩,.string ⟨sr.toArray⟩] #[.string ⟨sc.toArray⟩,.string ⟨ss.toArray⟩]).refl _,fun _ _ h=>h⟩,rfl⟩
             · clear hd hn;go_wp2;exact⟨⟨(dD w w.heap.size (w.heap.size+1) #[.string ⟨sd.toArray⟩,.string ⟨sr.toArray⟩] #[.string ⟨sc.toArray⟩,.string ⟨ss.toArray⟩]).refl _,fun _ _ h=>h⟩,rfl⟩
             · have e0:vs 5=_:=hd 5 rfl;have e1:vs 6=_:=hd 6 rfl;clear hd hn;rw[e0,e1];go_wp2;exact⟨⟨(dD w w.heap.size (w.heap.size+1) #[.string ⟨sd.toArray⟩,.string ⟨sr.toArray⟩] #[.string ⟨sc.toArray⟩,.string ⟨ss.toArray⟩]).refl _,fun _ _ h=>h⟩,rfl⟩
             · clear hd hn;go_wp2;exact⟨⟨(dD w w.heap.size (w.heap.size+1) #[.string ⟨sd.toArray⟩,.string ⟨sr.toArray⟩] #[.string ⟨sc.toArray⟩,.string ⟨ss.toArray⟩]).refl _,fun _ _ h=>h⟩,rfl⟩
             · have e0:vs 8=_:=hd 8 rfl;clear hd hn;rw[e0];go_wp2;exact⟨⟨(dD w w.heap.size (w.heap.size+1) #[.string ⟨sd.toArray⟩,.string ⟨sr.toArray⟩] #[.string ⟨sc.toArray⟩,.string ⟨ss.toArray⟩]).refl _,fun _ _ h=>h⟩,rfl⟩
             · have e0:vs 3=_:=hd 3 rfl;have hX:=(hn 10 (by decide) (by kernel_rfl)).1 rfl;have x0:=hX.cell 0 rfl;have x1:=hX.cell 1 rfl;have f0:=hX.frozen 0;have f1:=hX.frozen 1
               have hY:Bx ((w2.setCell ⟨w.heap.size,0,none⟩ (.string ⟨sd.toArray⟩)).setCell ⟨w.heap.size,1,none⟩ (.string ⟨sr.toArray⟩)) w.heap.size 51 #[.string ⟨sd.toArray⟩,.string ⟨sr.toArray⟩]:=by
                have:=(hX.set 0 (.string ⟨sd.toArray⟩)).set 1 (.string ⟨sr.toArray⟩);simpa using this
               have hF:∀ {cs:Array Value},Bx w2 (w.heap.size+1) 51 cs->Bx ((w2.setCell ⟨w.heap.size,0,none⟩ (.string ⟨sd.toArray⟩)).setCell ⟨w.heap.size,1,none⟩ (.string ⟨sr.toArray⟩)) (w.heap.size+1) 51 cs:=fun h=>(h.far (p:=⟨w.heap.size,0,none⟩) (fun e=>hAB.out e.symm) _).far (p:=⟨w.heap.size,1,none⟩) (fun e=>hAB.out e.symm) _
               have hW:Below w.heap.size w w2->Below w.heap.size w ((w2.setCell ⟨w.heap.size,0,none⟩ (.string ⟨sd.toArray⟩)).setCell ⟨w.heap.size,1,none⟩ (.string ⟨sr.toArray⟩)):=fun h=>(h.setCell (p:=⟨w.heap.size,0,none⟩) NK.out _).setCell (p:=⟨w.heap.size,1,none⟩) NK.out _
               rw[e0];clear hd hn e0 hX;go_wp2;exact ⟨⟨⟨hW,fun _=>hY,hF⟩,fun j hj hN=>⟨fun e=>absurd e hj,fun e=>hF (hN.2 e)⟩⟩,hY⟩
             · have e0:vs 7=_:=hd 7 rfl;have hX:=(hn 11 (by decide) (by kernel_rfl)).2 rfl;have x0:=hX.cell 0 rfl;have x1:=hX.cell 1 rfl;have f0:=hX.frozen 0;have f1:=hX.frozen 1
               have hY:Bx ((w2.setCell ⟨(w.heap.size+1),0,none⟩ (.string ⟨sc.toArray⟩)).setCell ⟨(w.heap.size+1),1,none⟩ (.string ⟨ss.toArray⟩)) (w.heap.size+1) 51 #[.string ⟨sc.toArray⟩,.string ⟨ss.toArray⟩]:=by
                have:=(hX.set 0 (.string ⟨sc.toArray⟩)).set 1 (.string ⟨ss.toArray⟩);simpa using this
               have hF:∀ {cs:Array Value},Bx w2 w.heap.size 51 cs->Bx ((w2.setCell ⟨(w.heap.size+1),0,none⟩ (.string ⟨sc.toArray⟩)).setCell ⟨(w.heap.size+1),1,none⟩ (.string ⟨ss.toArray⟩)) w.heap.size 51 cs:=fun h=>(h.far (p:=⟨(w.heap.size+1),0,none⟩) (hAB.out) _).far (p:=⟨(w.heap.size+1),1,none⟩) (hAB.out) _
               have hW:Below w.heap.size w w2->Below w.heap.size w ((w2.setCell ⟨(w.heap.size+1),0,none⟩ (.string ⟨sc.toArray⟩)).setCell ⟨(w.heap.size+1),1,none⟩ (.string ⟨ss.toArray⟩)):=fun h=>(h.setCell (p:=⟨(w.heap.size+1),0,none⟩) NJ.out _).setCell (p:=⟨(w.heap.size+1),1,none⟩) NJ.out _
               rw[e0];clear hd hn e0 hX;go_wp2;exact ⟨⟨⟨hW,hF,fun _=>hY⟩,fun j hj hN=>⟨fun e=>hF (hN.1 e),fun e=>absurd e hj⟩⟩,hY⟩
           · intro vs wa hba hR2;simp only[RN.cZ,RN.ak]at hR2;obtain ⟨e0,e1,e2,e3,e4,e5,e6,e7,e8,e9,e10,e11,-⟩:=hR2;simp only[List.drop,List.take,List.map,RN.aQ,Act.put,List.setIfInBounds_toArray,List.set_cons_succ,List.set_cons_zero,Nat.reduceAdd];rw [e0,e1,e2,e3,e4,e5,e6,e7,e8,e9];have Ze:Bx wa w.heap.size 51 #[.string ⟨sd.toArray⟩,.string ⟨sr.toArray⟩]:=e10;have BB2:Bx wa (w.heap.size+1) 51 #[.string ⟨sc.toArray⟩,.string ⟨ss.toArray⟩]:=e11;have hb2:=hba.1 hb;clear hb BA BB a1 b1;go_wp2
             go_step3
             refine⟨rfl,⟨d,r,c,s,(-1),sd,sr,sc,ss,rfl,rfl,rfl,rfl,rfl,rfl,.inr rfl,hdr.1,hcs.1,⟨⟨hst.out.2.1,JV.out,hst.out.2.2.2,ess.out⟩⟩,hnew,⟨?_⟩,?_,?_,hb2⟩,?_⟩
             · have h1:=hs.out;rw [hval.out]at h1;rw [←h1];omega
             · exact Ze
             · exact BB2
             · rw[vP (d:=r) hdr.1 JV.out (Ze.cell 1 rfl),vP (d:=d) hd0 hst.out.2.1 hA1.out];exact hdr.2
         · skip
           go_wp2_with fail;refine RN.aA (N:=NC w.heap.size (w.heap.size+1) #[.string ⟨sn.toArray⟩,.string ⟨sd.toArray⟩] #[.string ⟨sm.toArray⟩,.string ⟨sc.toArray⟩]) (dD w w.heap.size (w.heap.size+1) #[.string ⟨sd.toArray⟩,.string ⟨sr.toArray⟩] #[.string ⟨sc.toArray⟩,.string ⟨ss.toArray⟩]) [RN.ak (.pointer (some ⟨w.heap.size,1,none⟩)),RN.ak (.string ⟨sd.toArray⟩),RN.ak (.string ⟨sr.toArray⟩),RN.ak (.agg #[.string ⟨sd.toArray⟩,.string ⟨sr.toArray⟩]),RN.ak (.pointer (some ⟨(w.heap.size+1),1,none⟩)),RN.ak (.string ⟨sc.toArray⟩),RN.ak (.string ⟨ss.toArray⟩),RN.ak (.agg #[.string ⟨sc.toArray⟩,.string ⟨ss.toArray⟩]),RN.ak (.int .i64 (-1)),RN.ak (.int .i64 1),RX w.heap.size #[.string ⟨sd.toArray⟩,.string ⟨sr.toArray⟩],RX (w.heap.size+1) #[.string ⟨sc.toArray⟩,.string ⟨ss.toArray⟩]] 12 74 (by kernel_rfl) rfl rfl (by kernel_rfl) ?_ ?_ ?_ ?_
           · simp only[RN.bV]
             and_intros <;> first|exact RN.aF _|exact fun _ _ _ h k=>k.2.1 h|exact fun _ _ _ h k=>k.2.2 h|trivial
           · exact fun j=>⟨fun _=>BA,fun _=>BB⟩
           · simp only[RN.Users,List.take,List.length];refine ⟨?_,?_,?_,?_,?_,?_,?_,?_,?_,?_,?_,?_,trivial⟩;all_goals (intro vs w2 hb2 hd hn;simp only[RN.aQ,Act.put,List.nil_append,List.cons_append,List.setIfInBounds_toArray,List.set_cons_succ,List.set_cons_zero,Nat.reduceAdd])
             · clear hd hn;go_wp2;exact⟨⟨(dD w w.heap.size (w.heap.size+1) #[.string ⟨sd.toArray⟩,.string ⟨sr.toArray⟩] #[.string ⟨sc.toArray⟩,.string ⟨ss.toArray⟩]).refl _,fun _ _ h=>h⟩,rfl⟩
             · have e0:vs 0=_:=hd 0 rfl;have a1':=((hn 10 (by decide) (by kernel_rfl)).1 rfl).cell 1 rfl;clear hd hn;rw[e0];go_wp2;exact⟨⟨(dD w w.heap.size (w.heap.size+1) #[.string ⟨sd.toArray⟩,.string ⟨sr.toArray⟩] #[.string ⟨sc.toArray⟩,.string ⟨ss.toArray⟩]).refl _,fun _ _ h=>h⟩,rfl⟩
             · clear hd hn;go_wp2;exact⟨⟨(dD w w.heap.size (w.heap.size+1) #[.string ⟨sd.toArray⟩,.string ⟨sr.toArray⟩] #[.string ⟨sc.toArray⟩,.string ⟨ss.toArray⟩]).refl _,fun _ _ h=>h⟩,rfl⟩
             · have e0:vs 1=_:=hd 1 rfl;have e1:vs 2=_:=hd 2 rfl;clear hd hn;rw[e0,e1];go_wp2;exact⟨⟨(dD w w.heap.size (w.heap.size+1) #[.string ⟨sd.toArray⟩,.string ⟨sr.toArray⟩] #[.string ⟨sc.toArray⟩,.string ⟨ss.toArray⟩]).refl _,fun _ _ h=>h⟩,rfl⟩
             · clear hd hn;go_wp2;exact⟨⟨(dD w w.heap.size (w.heap.size+1) #[.string ⟨sd.toArray⟩,.string ⟨sr.toArray⟩] #[.string ⟨sc.toArray⟩,.string ⟨ss.toArray⟩]).refl _,fun _ _ h=>h⟩,rfl⟩
             · have e0:vs 4=_:=hd 4 rfl;have b1':=((hn 11 (by decide) (by kernel_rfl)).2 rfl).cell 1 rfl;clear hd hn;rw[e0];go_wp2;exact⟨⟨(dD w w.heap.size (w.heap.size+1) #[.string ⟨sd.toArray⟩,.string ⟨sr.toArray⟩] #[.string ⟨sc.toArray⟩,.string ⟨ss.toArray⟩]).refl _,fun _ _ h=>h⟩,rfl⟩
             · clear hd hn;go_wp2;exact⟨⟨(dD w w.heap.size (w.heap.size+1) #[.string ⟨sd.toArray⟩,.string ⟨sr.toArray⟩] #[.string ⟨sc.toArray⟩,.string ⟨ss.toArray⟩]).refl _,fun _ _ h=>h⟩,rfl⟩
             · have e0:vs 5=_:=hd 5 rfl;have e1:vs 6=_:=hd 6 rfl;clear hd hn;rw[e0,e1];go_wp2;exact⟨⟨(dD w w.heap.size (w.heap.size+1) #[.string ⟨sd.toArray⟩,.string ⟨sr.toArray⟩] #[.string ⟨sc.toArray⟩,.string ⟨ss.toArray⟩]).refl _,fun _ _ h=>h⟩,rfl⟩
             · clear hd hn;go_wp2;exact⟨⟨(dD w w.heap.size (w.heap.size+1) #[.string ⟨sd.toArray⟩,.string ⟨sr.toArray⟩] #[.string ⟨sc.toArray⟩,.string ⟨ss.toArray⟩]).refl _,fun _ _ h=>h⟩,rfl⟩
             · have e0:vs 8=_:=hd 8 rfl;clear hd hn;rw[e0];go_wp2;exact⟨⟨(dD w w.heap.size (w.heap.size+1) #[.string ⟨sd.toArray⟩,.string ⟨sr.toArray⟩] #[.string ⟨sc.toArray⟩,.string ⟨ss.toArray⟩]).refl _,fun _ _ h=>h⟩,rfl⟩
             · have e0:vs 3=_:=hd 3 rfl;have hX:=(hn 10 (by decide) (by kernel_rfl)).1 rfl;have x0:=hX.cell 0 rfl;have x1:=hX.cell 1 rfl;have f0:=hX.frozen 0;have f1:=hX.frozen 1
               have hY:Bx ((w2.setCell ⟨w.heap.size,0,none⟩ (.string ⟨sd.toArray⟩)).setCell ⟨w.heap.size,1,none⟩ (.string ⟨sr.toArray⟩)) w.heap.size 51 #[.string ⟨sd.toArray⟩,.string ⟨sr.toArray⟩]:=by
                have:=(hX.set 0 (.string ⟨sd.toArray⟩)).set 1 (.string ⟨sr.toArray⟩);simpa using this
               have hF:∀ {cs:Array Value},Bx w2 (w.heap.size+1) 51 cs->Bx ((w2.setCell ⟨w.heap.size,0,none⟩ (.string ⟨sd.toArray⟩)).setCell ⟨w.heap.size,1,none⟩ (.string ⟨sr.toArray⟩)) (w.heap.size+1) 51 cs:=fun h=>(h.far (p:=⟨w.heap.size,0,none⟩) (fun e=>hAB.out e.symm) _).far (p:=⟨w.heap.size,1,none⟩) (fun e=>hAB.out e.symm) _
               have hW:Below w.heap.size w w2->Below w.heap.size w ((w2.setCell ⟨w.heap.size,0,none⟩ (.string ⟨sd.toArray⟩)).setCell ⟨w.heap.size,1,none⟩ (.string ⟨sr.toArray⟩)):=fun h=>(h.setCell (p:=⟨w.heap.size,0,none⟩) NK.out _).setCell (p:=⟨w.heap.size,1,none⟩) NK.out _
               rw[e0];clear hd hn e0 hX;go_wp2;exact ⟨⟨⟨hW,fun _=>hY,hF⟩,fun j hj hN=>⟨fun e=>absurd e hj,fun e=>hF (hN.2 e)⟩⟩,hY⟩
             · have e0:vs 7=_:=hd 7 rfl;have hX:=(hn 11 (by decide) (by kernel_rfl)).2 rfl;have x0:=hX.cell 0 rfl;have x1:=hX.cell 1 rfl;have f0:=hX.frozen 0;have f1:=hX.frozen 1
               have hY:Bx ((w2.setCell ⟨(w.heap.size+1),0,none⟩ (.string ⟨sc.toArray⟩)).setCell ⟨(w.heap.size+1),1,none⟩ (.string ⟨ss.toArray⟩)) (w.heap.size+1) 51 #[.string ⟨sc.toArray⟩,.string ⟨ss.toArray⟩]:=by
                have:=(hX.set 0 (.string ⟨sc.toArray⟩)).set 1 (.string ⟨ss.toArray⟩);simpa using this
               have hF:∀ {cs:Array Value},Bx w2 w.heap.size 51 cs->Bx ((w2.setCell ⟨(w.heap.size+1),0,none⟩ (.string ⟨sc.toArray⟩)).setCell ⟨(w.heap.size+1),1,none⟩ (.string ⟨ss.toArray⟩)) w.heap.size 51 cs:=fun h=>(h.far (p:=⟨(w.heap.size+1),0,none⟩) (hAB.out) _).far (p:=⟨(w.heap.size+1),1,none⟩) (hAB.out) _
               have hW:Below w.heap.size w w2->Below w.heap.size w ((w2.setCell ⟨(w.heap.size+1),0,none⟩ (.string ⟨sc.toArray⟩)).setCell ⟨(w.heap.size+1),1,none⟩ (.string ⟨ss.toArray⟩)):=fun h=>(h.setCell (p:=⟨(w.heap.size+1),0,none⟩) NJ.out _).setCell (p:=⟨(w.heap.size+1),1,none⟩) NJ.out _
               rw[e0];clear hd hn e0 hX;go_wp2;exact ⟨⟨⟨hW,hF,fun _=>hY⟩,fun j hj hN=>⟨fun e=>hF (hN.1 e),fun e=>absurd e hj⟩⟩,hY⟩
           · intro vs wa hba hR2;simp only[RN.cZ,RN.ak]at hR2;obtain ⟨e0,e1,e2,e3,e4,e5,e6,e7,e8,e9,e10,e11,-⟩:=hR2;simp only[List.drop,List.take,List.map,RN.aQ,Act.put,List.setIfInBounds_toArray,List.set_cons_succ,List.set_cons_zero,Nat.reduceAdd];rw [e0,e1,e2,e3,e4,e5,e6,e7,e8,e9];have Ze:Bx wa w.heap.size 51 #[.string ⟨sd.toArray⟩,.string ⟨sr.toArray⟩]:=e10;have BB2:Bx wa (w.heap.size+1) 51 #[.string ⟨sc.toArray⟩,.string ⟨ss.toArray⟩]:=e11;have hb2:=hba.1 hb;clear hb BA BB a1 b1;go_wp2
             go_step3
             refine⟨rfl,⟨d,r,c,s,1,sd,sr,sc,ss,rfl,rfl,rfl,rfl,rfl,rfl,.inl rfl,hdr.1,hcs.1,⟨⟨hst.out.2.1,JV.out,hst.out.2.2.2,ess.out⟩⟩,hnew,⟨?_⟩,?_,?_,hb2⟩,?_⟩
             · have h1:=hs.out;rw [hval.out]at h1;rw [←h1];omega
             · exact Ze
             · exact BB2
             · rw[vP (d:=r) hdr.1 JV.out (Ze.cell 1 rfl),vP (d:=d) hd0 hst.out.2.1 hA1.out];exact hdr.2
   · rw[ng hpq]at yB;have hval:=Kp.mk (hgt hpq);clear hlt hgt h00 zQ hr0 htn hsd hsc tr ts hpq hv;go_wp2_with fail;refine (yB _).mono ?_;rintro _ w3 ⟨rfl,hb1⟩;replace hb:=aj hb hb1;replace BA:=BA.call hb1;replace BB:=BB.call hb1;clear hb1 yB
     rcases hsg with rfl|rfl
     all_goals
      go_wp2;simp only[Exit.jump];go_ret;exact ⟨cu (by have:=hs.out;rw[hval.out]at this;omega),hb⟩
def Wq (z:Int):Rat:=Rat.divInt z 1
theorem Aq (z:Int):Wq z=(z:Rat):=by
 have h:=Rat.num_divInt_den (z:Rat)
 unfold Wq
 simpa using h
theorem TI:Wq 0=0:=by unfold Wq;exact Rat.zero_divInt 1
theorem Oj:Wq 1=1:=by unfold Wq;exact Rat.divInt_self' (by decide)
theorem nT {z:Int} (h:I64 z):Rq.Fq (Wq z):=by
 rw[Aq];exact ⟨by rw[Rat.num_intCast];exact jV h,by rw[Rat.den_intCast];exact xu⟩
theorem jM {x y:Rat} {xa xb ya yb:List UInt8} (w:World) (lx:LQ x xa xb) (ly:LQ y ya yb) (hx:Rq.Fq x) (hy:Rq.Fq y) (hE:Env w) {c:Int} (hc:Kp (Rq.kY x y=c)) :
 aW 35 #[.agg #[.string ⟨xa.toArray⟩,.string ⟨xb.toArray⟩],.agg #[.string ⟨ya.toArray⟩,.string ⟨yb.toArray⟩]] w (.int .i64 c):=by
 have h:=E_ x y w hE hx hy;rw [lx.eq,ly.eq]at h;rw [←hc.out];exact h
theorem oL {z:Int} {za zb:List UInt8} (w:World) (hz:I64 z) (lz:LQ (Wq z) za zb) (hE:Env w) :
 aW 86 #[.int .i64 z] w (.agg #[.string ⟨za.toArray⟩,.string ⟨zb.toArray⟩]):=by
 have hb:=au w (.cells #[.string ⟨#[]⟩,.string ⟨#[]⟩] 51);have BR:=Bx.mk w 51 #[.string ⟨#[]⟩,.string ⟨#[]⟩];have hM:=Xk z 1 _ hz ⟨by decide,by decide⟩ (by decide) (hE.below hb);rw [show QV (Rat.divInt z 1)=_ from lz.eq]at hM;clear hE lz
 go_enter Tryz.func86,Tryz.ntmps86
 go_wp2_with fail;refine hM.mono ?_;rintro _ w1 ⟨rfl,hb1⟩;clear hM;have B2:=(BR.call hb1).new (.cells #[.string ⟨za.toArray⟩,.string ⟨zb.toArray⟩] 51);have B3:=Bx.mk w1 51 #[.string ⟨za.toArray⟩,.string ⟨zb.toArray⟩];have hb2:=bNew (aj hb hb1) (.cells #[.string ⟨za.toArray⟩,.string ⟨zb.toArray⟩] 51);have c0:=B2.cell 0 rfl;have c1:=B2.cell 1 rfl;have f0:=B2.frozen 0;have f1:=B2.frozen 1;have d0:=B3.cell 0 rfl;have d1:=B3.cell 1 rfl;have B4:=(B2.set 0 (.string ⟨za.toArray⟩)).set 1 (.string ⟨zb.toArray⟩);have hb4:=aJ (aJ hb2 (p:=⟨w.heap.size,0,none⟩) (Nat.le_refl _) (.string ⟨za.toArray⟩)) (p:=⟨w.heap.size,1,none⟩) (Nat.le_refl _) (.string ⟨zb.toArray⟩);clear BR hb hb1;go_wp2;exact bodyPost_ret (eG rfl _ _ rfl B4) rfl ⟨rfl,hb4⟩
def uo (q:Rat):Rat:=if 1<q then 1 else q
theorem Ld {q:Rat} {qa qb ra rb:List UInt8} (w:World) (hq:Rq.Fq q) (lq:LQ q qa qb) (lr:LQ (uo q) ra rb) (hE:Env w) :
 aW 91 #[.agg #[.string ⟨qa.toArray⟩,.string ⟨qb.toArray⟩]] w (.agg #[.string ⟨ra.toArray⟩,.string ⟨rb.toArray⟩]):=by
 obtain⟨oa,ob,lo⟩:=LQ.ex (Wq 1);have hI:I64 1:=⟨by decide,by decide⟩
 have B0:=(Bx.mk w 51 #[.string ⟨qa.toArray⟩,.string ⟨qb.toArray⟩]).new (.cells #[.string ⟨#[]⟩,.string ⟨#[]⟩] 51);have B1:=Bx.mk (w.alloc (.cells #[.string ⟨qa.toArray⟩,.string ⟨qb.toArray⟩] 51)) 51 #[.string ⟨#[]⟩,.string ⟨#[]⟩];rw [ah]at B1;have hb:=bNew (au w (.cells #[.string ⟨qa.toArray⟩,.string ⟨qb.toArray⟩] 51)) (.cells #[.string ⟨#[]⟩,.string ⟨#[]⟩] 51);generalize hW:(w.alloc (.cells #[.string ⟨qa.toArray⟩,.string ⟨qb.toArray⟩] 51)).alloc (.cells #[.string ⟨#[]⟩,.string ⟨#[]⟩] 51)=W0 at *;have hE0:=hE.below hb;have g0:=fun x os=>(B0.again x os).cell 0 rfl
 have g1:=fun x os=>(B0.again x os).cell 1 rfl
 have kw:=fun x os=>oL (Sort.grow (redrawn W0 x) os) hI lo (hE0.below (below_regrown W0 x os))
 obtain⟨c,hc⟩:=jH (Rq.kY q (Wq 1));have kc:=fun x os=>jM (Sort.grow (redrawn W0 x) os) lq lo hq (nT hI) (hE0.below (below_regrown W0 x os)) hc
 by_cases hlt:1<q
 · have hc1:c=1:=by rw[←hc.out,Oj];exact Rq.SB.2 hlt
   subst hc1;have e1:Kp (uo q=Wq 1):=⟨by unfold uo;rw[if_pos hlt,Oj]⟩
   rw[e1.out]at lr;have hwh:=fun W (hb1:Below W0.heap.size W0 W)=>oL W hI lr (hE0.below hb1)
   clear hlt hc hE hE0 lr lo lq hq
   go_enter Tryz.func91,Tryz.ntmps91
   go_wp2
   try rw[hW]
   clear hW;refine wp_region_quiet_below (by kernel_rfl) (by kernel_rfl) ?_
   repeat (go_big_quiet_step (first
    | (go_at_call 86;with_reducible exact Calls.regrown_of (kw _ _))
    | (go_at_call 35;with_reducible exact Calls.regrown_of (kc _ _))))
   refine wpQuiet_nil ?_;rintro _ ⟨z,rfl⟩;have hbz:=below_regrown W0 z.d z.os;clear kw kc g0 g1;generalize Sort.grow (redrawn W0 z.d) z.os=W2 at *;have hw2:=hwh W2 hbz;clear hwh;go_wp2_with fail;refine hw2.mono ?_;rintro _ w1 ⟨rfl,hb1⟩;clear hw2;replace B1:=(B1.call hbz).call hb1;replace hb:=aj (aj hb hbz) hb1;have c0:=B1.cell 0 rfl;have c1:=B1.cell 1 rfl;have f0:=B1.frozen 0;have f1:=B1.frozen 1;have B4:=(B1.set 0 (.string ⟨ra.toArray⟩)).set 1 (.string ⟨rb.toArray⟩);have hb4:=aJ (aJ hb (p:=⟨w.heap.size+1,0,none⟩) (Nat.le_succ _) (.string ⟨ra.toArray⟩)) (p:=⟨w.heap.size+1,1,none⟩) (Nat.le_succ _) (.string ⟨rb.toArray⟩);go_wp2;exact bodyPost_ret (eG rfl _ _ rfl B4) rfl ⟨rfl,hb4⟩
 · have hc1:c<=0:=by
    rw[←hc.out,Oj]
    rcases Rq.iU q 1 with ⟨e,_⟩|⟨e,_⟩|⟨e,h⟩
    · omega
    · omega
    · exact absurd h hlt
   have t0:decide (c > 0)=false:=by simp;omega
   have e1:Kp (uo q=q):=⟨by unfold uo;rw[if_neg hlt]⟩
   rw[e1.out]at lr;have e2:qa=ra:=lq.out.1.symm.trans lr.out.1;have e3:qb=rb:=lq.out.2.symm.trans lr.out.2;subst e2 e3;clear hlt hc hE hE0 lr lo lq hq hc1
   go_enter Tryz.func91,Tryz.ntmps91
   go_wp2
   try rw[hW]
   clear hW;refine wp_region_quiet_below (by kernel_rfl) (by kernel_rfl) ?_
   repeat (go_big_quiet_step (first
    | (go_at_call 86;with_reducible exact Calls.regrown_of (kw _ _))
    | (go_at_call 35;with_reducible exact Calls.regrown_of (kc _ _))))
   refine wpQuiet_nil ?_;rintro _ ⟨z,rfl⟩;have hbz:=below_regrown W0 z.d z.os;clear kw kc g0 g1;generalize Sort.grow (redrawn W0 z.d) z.os=W2 at *;replace B0:=B0.call hbz;replace B1:=B1.call hbz;replace hb:=aj hb hbz;have d0:=B0.cell 0 rfl;have d1:=B0.cell 1 rfl;have c0:=B1.cell 0 rfl;have c1:=B1.cell 1 rfl;have f0:=B1.frozen 0;have f1:=B1.frozen 1;have B4:=(B1.set 0 (.string ⟨qa.toArray⟩)).set 1 (.string ⟨qb.toArray⟩);have hb4:=aJ (aJ hb (p:=⟨w.heap.size+1,0,none⟩) (Nat.le_succ _) (.string ⟨qa.toArray⟩)) (p:=⟨w.heap.size+1,1,none⟩) (Nat.le_succ _) (.string ⟨qb.toArray⟩);go_wp2;exact bodyPost_ret (eG rfl _ _ rfl B4) rfl ⟨rfl,hb4⟩
theorem Xj {n k:Nat} {c e:Int} (hn:n<=50) (h0:0<=c) (h1:c<=e) (h2:e<=1000) (h3:1<=e):Rq.Fq (Tb.Pq n k c (e-c)) :=
 (Tb.TP h0 (by omega) (by omega) (by omega) k).fq (by omega) (by omega)
def iy (q:Rat):List UInt8 × List UInt8:=(Lib.itoa q.num,Lib.itoa (q.den:Int))
def nD (p:List UInt8 × List UInt8):List Value:=[.string ⟨p.1.toArray⟩,.string ⟨p.2.toArray⟩]
def Un (q:Rat):Prop:=Rq.Fq q/\0<=q/\q<=1
def UnS (p:List UInt8 × List UInt8):Prop:=∃q,Un q/\p=iy q
noncomputable def FD (p:List UInt8 × List UInt8):Bool:=@decide (UnS p) (Classical.propDecidable _)
theorem Kz {p:List UInt8 × List UInt8} (h:UnS p):FD p=true:=@decide_eq_true _ (Classical.propDecidable _) h
theorem V5 {p:List UInt8 × List UInt8} (h:¬UnS p):FD p=false:=@decide_eq_false _ (Classical.propDecidable _) h
theorem Xd (q:Rat) (p1 p2:List UInt8) (w:World) (hp:LQ q p1 p2) (hq:Rq.Fq q) (hE:Env w) :
 aW 85 #[.agg #[.string ⟨p1.toArray⟩,.string ⟨p2.toArray⟩]] w (.bool (!FD (p1,p2))):=by
 have B:=Bx.mk w 51 #[.string ⟨p1.toArray⟩,.string ⟨p2.toArray⟩];have hb:=au w (.cells #[.string ⟨p1.toArray⟩,.string ⟨p2.toArray⟩] 51);obtain ⟨za,zb,lz⟩:=LQ.ex (Wq 0);obtain ⟨oa,ob,lo⟩:=LQ.ex (Wq 1);obtain ⟨cz,hcz⟩:=jH (Rq.kY q (Wq 0));obtain ⟨co,hco⟩:=jH (Rq.kY q (Wq 1));have hI:I64 0:=⟨by decide,by decide⟩
 have hI1:I64 1:=⟨by decide,by decide⟩
 have hok:Rq.okB p1 p2=true:=by rw[←hp.out.1,←hp.out.2];exact Rq.oq hq
 have hln:p1.length<=1000000:=by rw[←hp.out.1];exact aV hq.num
 have hld:p2.length<=1000000:=by rw[←hp.out.2];exact aV hq.den
 generalize hW:w.alloc (.cells #[.string ⟨p1.toArray⟩,.string ⟨p2.toArray⟩] 51)=W0 at *;have hE0:=hE.below hb;have kv:=fun x os=>qc p1 p2 (Sort.grow (redrawn W0 x) os) hln hld (hE0.below (below_regrown W0 x os))
 rw[hok]at kv;have kz:=fun x os=>oL (Sort.grow (redrawn W0 x) os) hI lz (hE0.below (below_regrown W0 x os))
 have ko:=fun x os=>oL (Sort.grow (redrawn W0 x) os) hI1 lo (hE0.below (below_regrown W0 x os))
 have kcz:=fun x os=>jM (Sort.grow (redrawn W0 x) os) hp lz hq (nT hI) (hE0.below (below_regrown W0 x os)) hcz
 have kco:=fun x os=>jM (Sort.grow (redrawn W0 x) os) hp lo hq (nT hI1) (hE0.below (below_regrown W0 x os)) hco
 have g0:=fun x os=>(B.again x os).cell 0 rfl
 have g1:=fun x os=>(B.again x os).cell 1 rfl
 have pair:(p1,p2)=iy q:=by unfold iy;rw[hp.out.1,hp.out.2]
 have jA:(decide (cz<0)=true/\Kp (FD (p1,p2)=false))∨(decide (cz<0)=false/\decide (co > 0)=true/\Kp (FD (p1,p2)=false))∨(decide (cz<0)=false/\decide (co > 0)=false/\Kp (FD (p1,p2)=true)):=by
  have hun:UnS (p1,p2)->0<=q/\q<=1:=fun ⟨r,⟨_,h1,h2⟩,h3⟩=>by
   have e:r=q:=by
    rw[pair]at h3
    unfold iy at h3
    obtain⟨e1,e2⟩:=Prod.mk.inj h3;exact Rat.ext (Ig.dH e1).symm (by have:=Ig.dH e2;omega)
   rw[←e];exact⟨h1,h2⟩
  rcases Rq.iU q 0 with ⟨x,h⟩|⟨x,h⟩|⟨x,h⟩
  · left
    exact⟨by rw[←hcz.out,TI,x];rfl,⟨V5 fun hu=>absurd (hun hu).1 (Rat.not_le.2 h)⟩⟩
  all_goals
   right
   have h0:decide (cz<0)=false:=by rw[←hcz.out,TI,x];rfl
   have hge:0<=q:=by first|exact Rat.le_of_lt h|(rw [h];exact Rat.le_refl)
   rcases Rq.iU q 1 with ⟨y,k⟩|⟨y,k⟩|⟨y,k⟩
   · right;exact⟨h0,by rw[←hco.out,Oj,y];rfl,⟨Kz ⟨q,⟨hq,hge,Rat.le_of_lt k⟩,pair⟩⟩⟩
   · right;exact⟨h0,by rw[←hco.out,Oj,y];rfl,⟨Kz ⟨q,⟨hq,hge,by rw[k];exact Rat.le_refl⟩,pair⟩⟩⟩
   · left;exact⟨h0,by rw[←hco.out,Oj,y];rfl,⟨V5 fun hu=>absurd (hun hu).2 (Rat.not_le.2 k)⟩⟩
 clear hE hE0 hok hln hld hcz hco lz lo hp hq pair hI hI1;generalize FD (p1,p2)=u at *
 rcases jA with ⟨t1,hu⟩|⟨t1,t2,hu⟩|⟨t1,t2,hu⟩
 all_goals
  go_enter Tryz.func85,Tryz.ntmps85
  go_wp2
  try rw[hW]
  clear hW;refine wp_region_quiet_below (by kernel_rfl) (by kernel_rfl) ?_
  repeat (go_big_quiet_step (first
   | (go_at_call 65;with_reducible exact Calls.regrown_of (kv _ _))
   | (go_at_call 86;with_reducible exact Calls.regrown_of (kz _ _))
   | (go_at_call 86;with_reducible exact Calls.regrown_of (ko _ _))
   | (go_at_call 35;with_reducible exact Calls.regrown_of (kcz _ _))
   | (go_at_call 35;with_reducible exact Calls.regrown_of (kco _ _))))
  refine wpQuiet_nil ?_;rintro _ ⟨z,rfl⟩;have hbz:=gu hb z.d z.os;clear kv kz ko kcz kco g0 g1;generalize Sort.grow (redrawn W0 z.d) z.os=W2 at *;go_wp2;go_ret;exact ⟨aH (by rw[hu.out] <;> rfl),hbz⟩
abbrev Pr:=List UInt8 × List UInt8
theorem ZW (l:List Pr) (A:Option Addr) (cap:Nat) (w:World) (hA:At 2 nD w w.heap.size A l) (hn:l.length<=cap) (hl:l.length<=9223372036854775807)
 (hp:∀p∈l,∀W,Below w.heap.size w W->aW 85 #[.agg #[.string ⟨p.1.toArray⟩,.string ⟨p.2.toArray⟩]] W (.bool (!FD p))) :
 aW 129 #[.slice A l.length cap,.func (.func 85) #[] #[]] w (.int .i64 (qw (fun p=> !FD p) l)):=by
 obtain⟨f,hf⟩:∃f:Pr->Bool,f=fun p=> !FD p:=⟨_,rfl⟩
 have hp':∀p∈l,∀W,Below w.heap.size w W->aW 85 #[.agg #[.string ⟨p.1.toArray⟩,.string ⟨p.2.toArray⟩]] W (.bool (f p)):=by rw[hf];exact hp
 rw[←hf];clear hp hf
 go_enter Tryz.func129,Tryz.ntmps129
 go_wp2
 go_loopw [8] (fun s8 wr=>∃k:Nat,k<=l.length/\s8=.int .i64 k/\Kp (∀(j:Nat) (hj:j<l.length),j<k->f l[j]=false)/\Below w.heap.size w wr) (fun s8 _=>l.length-(intOf s8).toNat)
 case atStart=>exact⟨0,Nat.zero_le _,rfl,⟨fun j hj h=>by omega⟩,gq _⟩
 case round =>
  obtain⟨k,hk,rfl,hno,hb⟩:=hrel;by_cases hlt:k<l.length
  · obtain⟨b,off,rfl,hbB,hcell⟩:=hA (by omega);have hck:l[k]? = some l[k]:=List.getElem?_eq_getElem hlt;have hP:=hp' l[k] (List.getElem_mem hlt) wr hb;have hh:=fun (h:f l[k]=true)=>Eu hlt h (fun j hj=>hno.out j (by omega) hj)
    have hnx:Kp (f l[k]=false->∀(j:Nat) (hj:j<l.length),j<k+1->f l[j]=false):=⟨fun h j hj hjk=>by
     rcases Nat.lt_or_ge j k with h1|h1
     · exact hno.out j hj h1
     · obtain rfl:j=k:=by omega
       exact h⟩
    have c0:wr.cell? ⟨b,off+k*2,none⟩=some (.string ⟨l[k].1.toArray⟩):=(hb.cell (p:=⟨b,_,none⟩) hbB).trans (hcell k _ hck 0 _ rfl);have c1:wr.cell? ⟨b,off+k*2+1,none⟩=some (.string ⟨l[k].2.toArray⟩):=(hb.cell (p:=⟨b,_,none⟩) hbB).trans (hcell k _ hck 1 _ rfl);have hfin:Kp (f l[k]=true->qw f l=k):=⟨hh⟩
    generalize f l[k]=t at *;generalize l[k].1=x0 at *;generalize l[k].2=x1 at *;clear hcell hA hck hno hh hp';cases t
    · go_wp2_with (refine hP.mono ?_;rintro _ w1 ⟨rfl,hb1⟩;clear hP)
      exact⟨⟨k+1,by omega,by go_num,⟨by first|exact hnx.out rfl|exact hnx.out trivial⟩,aj hb hb1⟩,by simp[intOf];omega⟩
    · go_wp2_with (refine hP.mono ?_;rintro _ w1 ⟨rfl,hb1⟩;clear hP)
      go_ret;exact ⟨cu (by first|exact (hfin.out rfl).symm|exact (hfin.out trivial).symm),aj hb hb1⟩
  · have hfin:Kp (qw f l= -1):=⟨zH fun j hj=>hno.out j hj (by omega)⟩
    clear hno hp';go_wp2;go_ret;exact ⟨cu hfin.out.symm,hb⟩
theorem Xa (l:List Pr) (A:Option Addr) (cap:Nat) (w:World) (hA:At 2 nD w w.heap.size A l) (hn:l.length<=cap) (hl:l.length<=9223372036854775807)
 (hp:∀p∈l,∀W,Below w.heap.size w W->aW 85 #[.agg #[.string ⟨p.1.toArray⟩,.string ⟨p.2.toArray⟩]] W (.bool (!FD p))) :
 aW 87 #[.slice A l.length cap,.func (.func 85) #[] #[]] w (.bool (l.any (fun p=> !FD p))):=by
 have hI:=ZW l A cap w hA hn hl hp;have hd:=Ew (fun p:Pr=> !FD p) l;generalize qw (fun p:Pr=> !FD p) l=i at *;generalize l.any (fun p=> !FD p)=r at *;clear hA hp;by_cases h:0<=i
 all_goals
  have t0:decide (0<=i)=r:=hd;first|rw[decide_eq_true h]at t0|rw[decide_eq_false h]at t0
  subst t0;clear hd
  go_enter Tryz.func87,Tryz.ntmps87
  go_wp2_with (go_at_call 129;refine hI.mono ?_;rintro _ w1 ⟨rfl,hb1⟩;clear hI)
  go_ret;exact ⟨aH (by simp <;> omega),hb1⟩
structure Ot (g:Nat) (W W':World):Prop where
 os:W'.os=W.os
 tape:W'.tape=W.tape
 output:W'.output=W.output
 size:W.heap.size<=W'.heap.size
 block:∀k,k<W.heap.size->k≠g->W'.heap[k]? = W.heap[k]?
theorem Ot.below {g:Nat} {W W':World} (h:Below W.heap.size W W'):Ot g W W':=⟨h.os,h.tape,h.output,h.size,fun k hk _=>h.block k hk⟩
theorem Ot.trans {g:Nat} {A B C:World} (h:Ot g A B) (k:Ot g B C):Ot g A C:=⟨k.os.trans h.os,k.tape.trans h.tape,k.output.trans h.output,Nat.le_trans h.size k.size,fun i hi hne=>(k.block i (Nat.lt_of_lt_of_le hi h.size) hne).trans (h.block i hi hne)⟩
theorem Ot.to {g B:Nat} {W W':World} (h:Ot g W W') (hB:B<=g) (hW:B<=W.heap.size):Below B W W':=⟨h.os,h.tape,h.output,h.size,fun k hk=>h.block k (by omega) (by omega)⟩
theorem Ot.bx {g b:Nat} {t:TypeId} {cs:Array Value} {W W':World} (h:Ot g W W') (hB:Bx W b t cs) (hne:b≠g):Bx W' b t cs:=(h.block b hB.lt hne).trans hB
theorem Ot.set {g:Nat} {W:World} (u:Value) (i:Nat) (o:Nat) (h:o=g∨W.heap.size<=o):Ot g W (W.setCell ⟨o,i,none⟩ u) :=
 ⟨((Below.refl 0 W).setCell (p:=⟨o,i,none⟩) (Nat.zero_le _) u).os,((Below.refl 0 W).setCell (p:=⟨o,i,none⟩) (Nat.zero_le _) u).tape,((Below.refl 0 W).setCell (p:=⟨o,i,none⟩) (Nat.zero_le _) u).output,((Below.refl 0 W).setCell (p:=⟨o,i,none⟩) (Nat.zero_le _) u).size,fun k hk hne=>Below.heap_setCell W ⟨o,i,none⟩ u k (by show k≠o;omega)⟩
theorem Ot.qJ {g:Nat} {W W':World} (h:Ot g W W') (u:Value) (i:Nat) (o:Nat) (ho:o=g∨W.heap.size<=o):Ot g W (W'.setCell ⟨o,i,none⟩ u) :=
 have hb:=(Below.refl 0 W').setCell (p:=⟨o,i,none⟩) (Nat.zero_le _) u
 ⟨hb.os.trans h.os,hb.tape.trans h.tape,hb.output.trans h.output,Nat.le_trans h.size hb.size,fun k hk hne=>(Below.heap_setCell W' ⟨o,i,none⟩ u k (by show k≠o;omega)).trans (h.block k hk hne)⟩
theorem Pn (o o2:Option Rat) (q:Rat) (ge:Nat) (sa sb qa qb ra rb:List UInt8) (c c2:Int) (w:World) (ho:OA o) (hq:Rq.Fq q) (h2:Kp (um o (some q)=o2)) (es:Kp (sn o=sa/\sd o=sb/\eO o=c)) (lq:LQ q qa qb) (er:Kp (sn o2=ra/\sd o2=rb/\eO o2=c2)) (hB:Bx w ge 54 #[.int .i64 c]) (hE:Env w) :
 Calls Tryz.prog 89 #[.agg #[.string ⟨sa.toArray⟩,.string ⟨sb.toArray⟩],.agg #[.string ⟨qa.toArray⟩,.string ⟨qb.toArray⟩],.pointer (some ⟨ge,0,none⟩)] w fun e w'=>e=.returned (.agg #[.string ⟨ra.toArray⟩,.string ⟨rb.toArray⟩])/\Bx w' ge 54 #[.int .i64 c2]/\Ot ge w w':=by
 have hgl:=hB.lt;have B0:=((Bx.mk w 51 #[.string ⟨sa.toArray⟩,.string ⟨sb.toArray⟩]).new (.cells #[.string ⟨qa.toArray⟩,.string ⟨qb.toArray⟩] 51)).new (.cells #[.string ⟨#[]⟩,.string ⟨#[]⟩] 51);have B1:=(Bx.mk (w.alloc (.cells #[.string ⟨sa.toArray⟩,.string ⟨sb.toArray⟩] 51)) 51 #[.string ⟨qa.toArray⟩,.string ⟨qb.toArray⟩]).new (.cells #[.string ⟨#[]⟩,.string ⟨#[]⟩] 51);rw [ah]at B1;have B2:=Bx.mk ((w.alloc (.cells #[.string ⟨sa.toArray⟩,.string ⟨sb.toArray⟩] 51)).alloc (.cells #[.string ⟨qa.toArray⟩,.string ⟨qb.toArray⟩] 51)) 51 #[.string ⟨#[]⟩,.string ⟨#[]⟩];rw [ah,ah]at B2;have hb:=bNew (bNew (au w (.cells #[.string ⟨sa.toArray⟩,.string ⟨sb.toArray⟩] 51)) (.cells #[.string ⟨qa.toArray⟩,.string ⟨qb.toArray⟩] 51)) (.cells #[.string ⟨#[]⟩,.string ⟨#[]⟩] 51);have BE:=hB.call hb;have c0:=BE.cell 0 rfl;have a0:=B0.cell 0 rfl;have a1:=B0.cell 1 rfl;have b0:=B1.cell 0 rfl;have b1:=B1.cell 1 rfl;generalize hW:((w.alloc (.cells #[.string ⟨sa.toArray⟩,.string ⟨sb.toArray⟩] 51)).alloc (.cells #[.string ⟨qa.toArray⟩,.string ⟨qb.toArray⟩] 51)).alloc (.cells #[.string ⟨#[]⟩,.string ⟨#[]⟩] 51)=W0 at *;have hE0:=hE.below hb
 rcases o with _|x
 · have e2:o2=none:=h2.out.symm;subst e2;have e3:sa=ra:=es.out.1.symm.trans er.out.1;have e4:sb=rb:=es.out.2.1.symm.trans er.out.2.1;have e5:c=40:=es.out.2.2.symm;have e6:c2=40:=er.out.2.2.symm;subst e3 e4 e5 e6;have d0:=B2.cell 0 rfl;have d1:=B2.cell 1 rfl;have f0:=B2.frozen 0;have f1:=B2.frozen 1;have B4:=(B2.set 0 (.string ⟨sa.toArray⟩)).set 1 (.string ⟨sb.toArray⟩);have O4:=(Ot.below (g:=ge) hb).qJ (.string ⟨sa.toArray⟩) 0 (w.heap.size+1+1) (.inr (by omega));replace O4:=O4.qJ (.string ⟨sb.toArray⟩) 1 (w.heap.size+1+1) (.inr (by omega));have E4:=(BE.far (p:=⟨w.heap.size+1+1,0,none⟩) (by show ge≠w.heap.size+1+1;omega) (.string ⟨sa.toArray⟩)).far (p:=⟨w.heap.size+1+1,1,none⟩) (by show ge≠w.heap.size+1+1;omega) (.string ⟨sb.toArray⟩);clear es er h2 ho hE hE0 hq lq
   go_enter Tryz.func89,Tryz.ntmps89
   go_wp2;exact bodyPost_ret (eG rfl _ _ rfl B4) rfl ⟨rfl,E4,O4⟩
 · obtain⟨hF2,hAdd⟩:=IC (some x) (some q) ho (fun r hr=>by cases hr;exact hq);have hA:=hAdd W0 hE0;rw [h2.out]at hA;have v1:VO (some x)=.agg #[.string ⟨sa.toArray⟩,.string ⟨sb.toArray⟩]:=by unfold VO;rw[es.out.1,es.out.2.1]
   have v2:VO (some q)=.agg #[.string ⟨qa.toArray⟩,.string ⟨qb.toArray⟩]:=by rw[←lq.eq];rfl
   have v3:VO o2=.agg #[.string ⟨ra.toArray⟩,.string ⟨rb.toArray⟩]:=by unfold VO;rw[er.out.1,er.out.2.1]
   rw[v1,v2,v3,er.out.2.2]at hA;have e5:c=0:=es.out.2.2.symm;subst e5;clear es er h2 ho hE hE0 hq lq v1 v2 v3 hAdd hF2
   go_enter Tryz.func89,Tryz.ntmps89
   go_wp2_with fail;refine hA.mono ?_;rintro _ w1 ⟨rfl,hb1⟩;clear hA a0 a1 b0 b1 c0;replace B0:=B0.call hb1;replace B2:=B2.call hb1;replace BE:=BE.call hb1;replace hb:=aj hb hb1;have a0:=B0.cell 0 rfl;have a1:=B0.cell 1 rfl;have f0:=B0.frozen 0;have f1:=B0.frozen 1;have c0:=BE.cell 0 rfl;have fe:=BE.frozen 0;have P0:Bx ((w1.setCell ⟨w.heap.size,0,none⟩ (.string ⟨ra.toArray⟩)).setCell ⟨w.heap.size,1,none⟩ (.string ⟨rb.toArray⟩)) w.heap.size 51 #[.string ⟨ra.toArray⟩,.string ⟨rb.toArray⟩]:=by simpa using (B0.set 0 (.string ⟨ra.toArray⟩)).set 1 (.string ⟨rb.toArray⟩)
   have BE1:Bx ((w1.setCell ⟨w.heap.size,0,none⟩ (.string ⟨ra.toArray⟩)).setCell ⟨w.heap.size,1,none⟩ (.string ⟨rb.toArray⟩)) ge 54 #[.int .i64 0]:=(BE.far (p:=⟨w.heap.size,0,none⟩) (by show ge≠w.heap.size;omega) (.string ⟨ra.toArray⟩)).far (p:=⟨w.heap.size,1,none⟩) (by show ge≠w.heap.size;omega) (.string ⟨rb.toArray⟩);have B21:Bx ((w1.setCell ⟨w.heap.size,0,none⟩ (.string ⟨ra.toArray⟩)).setCell ⟨w.heap.size,1,none⟩ (.string ⟨rb.toArray⟩)) (w.heap.size+1+1) 51 #[.string ⟨#[]⟩,.string ⟨#[]⟩]:=(B2.far (p:=⟨w.heap.size,0,none⟩) (by show _≠w.heap.size;omega) (.string ⟨ra.toArray⟩)).far (p:=⟨w.heap.size,1,none⟩) (by show _≠w.heap.size;omega) (.string ⟨rb.toArray⟩);have P02:Bx (((w1.setCell ⟨w.heap.size,0,none⟩ (.string ⟨ra.toArray⟩)).setCell ⟨w.heap.size,1,none⟩ (.string ⟨rb.toArray⟩)).setCell ⟨ge,0,none⟩ (.int .i64 c2)) w.heap.size 51 #[.string ⟨ra.toArray⟩,.string ⟨rb.toArray⟩]:=P0.far (p:=⟨ge,0,none⟩) (by show _≠ge;omega) (.int .i64 c2);have BE2:Bx (((w1.setCell ⟨w.heap.size,0,none⟩ (.string ⟨ra.toArray⟩)).setCell ⟨w.heap.size,1,none⟩ (.string ⟨rb.toArray⟩)).setCell ⟨ge,0,none⟩ (.int .i64 c2)) ge 54 #[.int .i64 c2]:=by simpa using BE1.set 0 (.int .i64 c2)
   have Zt:Bx (((w1.setCell ⟨w.heap.size,0,none⟩ (.string ⟨ra.toArray⟩)).setCell ⟨w.heap.size,1,none⟩ (.string ⟨rb.toArray⟩)).setCell ⟨ge,0,none⟩ (.int .i64 c2)) (w.heap.size+1+1) 51 #[.string ⟨#[]⟩,.string ⟨#[]⟩]:=B21.far (p:=⟨ge,0,none⟩) (by show _≠ge;omega) (.int .i64 c2);have ce2:=BE1.cell 0 rfl;have fe2:=BE1.frozen 0;have p0:=P02.cell 0 rfl;have p1:=P02.cell 1 rfl;have r0:=Zt.cell 0 rfl;have r1:=Zt.cell 1 rfl;have rf0:=Zt.frozen 0;have rf1:=Zt.frozen 1;have B4:=(Zt.set 0 (.string ⟨ra.toArray⟩)).set 1 (.string ⟨rb.toArray⟩);have E4:=(BE2.far (p:=⟨w.heap.size+1+1,0,none⟩) (by show ge≠w.heap.size+1+1;omega) (.string ⟨ra.toArray⟩)).far (p:=⟨w.heap.size+1+1,1,none⟩) (by show ge≠w.heap.size+1+1;omega) (.string ⟨rb.toArray⟩);have O4:=(((((Ot.below (g:=ge) hb).qJ (.string ⟨ra.toArray⟩) 0 w.heap.size (.inr (Nat.le_refl _))).qJ (.string ⟨rb.toArray⟩) 1 w.heap.size (.inr (Nat.le_refl _))).qJ (.int .i64 c2) 0 ge (.inl rfl)).qJ (.string ⟨ra.toArray⟩) 0 (w.heap.size+1+1) (.inr (by omega))).qJ (.string ⟨rb.toArray⟩) 1 (w.heap.size+1+1) (.inr (by omega));clear B0 B2 BE P0 BE1 B21 P02 BE2 Zt hb hb1 B1 hB hW;go_wp2;exact bodyPost_ret (eG rfl _ _ rfl B4) rfl ⟨rfl,E4,O4⟩
noncomputable def comb (l:List Rat):Option Rat:=l.foldl (fun o q=>um o (some q)) (some 0)
theorem sD (l:List Rat) (q:Rat):comb (l++[q])=um (comb l) (some q):=by unfold comb;rw[List.foldl_append];rfl
theorem LH:∀(l:List Rat) (o:Option Rat),OA o->(∀q∈l,Rq.Fq q)->OA (l.foldl (fun o q=>um o (some q)) o)
 | [],o,ho,_=>ho
 | q :: l,o,ho,h=>LH l _ (IC o (some q) ho (fun r hr=>by cases hr;exact h q (by simp))).1 fun r hr=>h r (List.mem_cons_of_mem _ hr)
theorem EP {l:List Rat} (h:∀q∈l,Rq.Fq q):OA (comb l):=LH l (some 0) (fun q h=>by cases h;exact⟨ji,xu⟩) h
theorem Hr (qs:List Rat) (A:Option Addr) (cap ge:Nat) (za zb:List UInt8) (w:World) (n₀:Nat) (lz:LQ (Wq 0) za zb) (hA:At 2 nD w n₀ A (qs.map iy)) (hn:qs.length<=cap) (hl:qs.length<=20) (hq:∀q∈qs,Rq.Fq q) (hB:Bx w ge 54 #[.int .i64 0]) (hge:n₀<=ge) (oK:∀W,Below n₀ w W->Env W) :
 Calls Tryz.prog 88 #[.agg #[.string ⟨za.toArray⟩,.string ⟨zb.toArray⟩],.slice A qs.length cap,.func (.func 89) #[] #[.pointer (some ⟨ge,0,none⟩)]] w fun e w'=>e=.returned (VO (comb qs))/\Bx w' ge 54 #[.int .i64 (eO (comb qs))]/\Ot ge w w':=by
 have hgl:=hB.lt;have B0:=(Bx.mk w 51 #[.string ⟨za.toArray⟩,.string ⟨zb.toArray⟩]).new (.cells #[.string ⟨#[]⟩,.string ⟨#[]⟩] 51);have B1:=Bx.mk (w.alloc (.cells #[.string ⟨za.toArray⟩,.string ⟨zb.toArray⟩] 51)) 51 #[.string ⟨#[]⟩,.string ⟨#[]⟩];rw [ah]at B1;have hb:=bNew (au w (.cells #[.string ⟨za.toArray⟩,.string ⟨zb.toArray⟩] 51)) (.cells #[.string ⟨#[]⟩,.string ⟨#[]⟩] 51);have BE:=hB.call hb
 have hz0:sn (comb [])=za/\sd (comb [])=zb/\eO (comb [])=0:=by
  have h1:=lz.out;rw [TI]at h1;exact ⟨h1.1,h1.2,rfl⟩
 have hfin:Kp (comb (qs.take qs.length)=comb qs):=⟨by rw[List.take_length]⟩
 go_enter Tryz.func88,Tryz.ntmps88
 go_wp2_with fail
 go_loopw [11] (fun s11 wr=>∃(k:Nat) (sa sb:List UInt8) (c:Int),s11=.int .i64 k/\k<=qs.length/\Kp (sn (comb (qs.take k))=sa/\sd (comb (qs.take k))=sb/\eO (comb (qs.take k))=c)/\Bx wr w.heap.size 51 #[.string ⟨sa.toArray⟩,.string ⟨sb.toArray⟩]/\Bx wr (w.heap.size+1) 51 #[.string ⟨#[]⟩,.string ⟨#[]⟩]/\Bx wr ge 54 #[.int .i64 c]/\Ot ge w wr) (fun s11 _=>qs.length-(intOf s11).toNat)
 case atStart=>exact⟨0,za,zb,0,rfl,Nat.zero_le _,⟨hz0⟩,B0,B1,BE,Ot.below hb⟩
 case round =>
  clear B0 B1 BE hb hB hz0;obtain ⟨k,sa,sb,c,rfl,hk,hs,B0,B1,BE,hO⟩:=hrel;by_cases hlt:k<qs.length
  · have t0:decide ((k:Int)<(qs.length:Int))=true:=by simp;omega
    have hkl:k<qs.length:=by omega
    have hgw:n₀<=w.heap.size:=by omega
    obtain⟨b,off,rfl,hbB,hcell⟩:=(hA.below (hO.to hge hgw)) (by rw[List.length_map];omega)
    obtain⟨qa,qb,lq⟩:=LQ.ex qs[k];have hck:(qs.map iy)[k]? = some (iy qs[k]):=by rw[List.getElem?_map,List.getElem?_eq_getElem hkl];rfl
    have c0:wr.cell? ⟨b,off+k*2,none⟩=some (.string ⟨qa.toArray⟩):=by rw[←lq.out.1];exact hcell k _ hck 0 _ rfl
    have c1:wr.cell? ⟨b,off+k*2+1,none⟩=some (.string ⟨qb.toArray⟩):=by rw[←lq.out.2];exact hcell k _ hck 1 _ rfl
    obtain⟨o,ho⟩:∃o,comb (qs.take k)=o:=⟨_,rfl⟩
    obtain⟨o2,ho2⟩:∃o2,comb (qs.take (k+1))=o2:=⟨_,rfl⟩
    have hstep:Kp (um o (some qs[k])=o2):=⟨by rw[←ho,←ho2,List.take_succ_eq_append_getElem hkl,sD]⟩
    have hFo:OA o:=by rw[←ho];exact EP fun q hq'=>hq q (List.mem_of_mem_take hq')
    have hFq:=hq qs[k] (List.getElem_mem hkl);rw [ho]at hs;obtain ⟨ra,rb,c2,hr⟩:∃ra rb c2,sn o2=ra/\sd o2=rb/\eO o2=c2:=⟨_,_,_,rfl,rfl,rfl⟩
    have hr':Kp (sn (comb (qs.take (k+1)))=ra/\sd (comb (qs.take (k+1)))=rb/\eO (comb (qs.take (k+1)))=c2):=⟨by rw[ho2];exact hr⟩
    have l0:=B0.lt;have l1:=B1.lt;have lE:=BE.lt;have hbX:=au wr (.cells #[.string ⟨qa.toArray⟩,.string ⟨qb.toArray⟩] 51);have hC:=Pn o o2 qs[k] ge sa sb qa qb ra rb c c2 (wr.alloc (.cells #[.string ⟨qa.toArray⟩,.string ⟨qb.toArray⟩] 51)) hFo hFq hstep hs lq ⟨hr⟩ (BE.call hbX) (oK _ ((hO.to hge hgw).trans (hbX.mono (Nat.le_trans hgw hO.size))));have X0:=B0.call hbX;have X1:=B1.call hbX;have X8:=Bx.mk wr 51 #[.string ⟨qa.toArray⟩,.string ⟨qb.toArray⟩];have a0:=X0.cell 0 rfl;have a1:=X0.cell 1 rfl;have x0:=X8.cell 0 rfl;have x1:=X8.cell 1 rfl;replace hO:=hO.trans (Ot.below hbX);clear hcell hck ho ho2 hstep hFo hFq hs hr B0 B1 BE hq lq oK;go_wp2_with fail;refine hC.mono ?_;rintro _ w1 ⟨rfl,hBE,Yw⟩;clear hC a0 a1 x0 x1;have Y0:=Yw.bx X0 (by omega);have Y1:=Yw.bx X1 (by omega);have a0:=Y0.cell 0 rfl;have a1:=Y0.cell 1 rfl;have f0:=Y0.frozen 0;have f1:=Y0.frozen 1;have Z0:Bx ((w1.setCell ⟨w.heap.size,0,none⟩ (.string ⟨ra.toArray⟩)).setCell ⟨w.heap.size,1,none⟩ (.string ⟨rb.toArray⟩)) w.heap.size 51 #[.string ⟨ra.toArray⟩,.string ⟨rb.toArray⟩]:=by simpa using (Y0.set 0 (.string ⟨ra.toArray⟩)).set 1 (.string ⟨rb.toArray⟩)
    have Z1:=(Y1.far (p:=⟨w.heap.size,0,none⟩) (by show _≠w.heap.size;omega) (.string ⟨ra.toArray⟩)).far (p:=⟨w.heap.size,1,none⟩) (by show _≠w.heap.size;omega) (.string ⟨rb.toArray⟩);have ZE:=(hBE.far (p:=⟨w.heap.size,0,none⟩) (by show ge≠w.heap.size;omega) (.string ⟨ra.toArray⟩)).far (p:=⟨w.heap.size,1,none⟩) (by show ge≠w.heap.size;omega) (.string ⟨rb.toArray⟩);have ZO:=((hO.trans Yw).qJ (.string ⟨ra.toArray⟩) 0 w.heap.size (.inr (Nat.le_refl _))).qJ (.string ⟨rb.toArray⟩) 1 w.heap.size (.inr (Nat.le_refl _));clear X0 X1 X8 hO Yw hBE Y0 Y1 hbX;go_wp2;exact ⟨⟨k+1,ra,rb,c2,by go_num,by omega,hr',Z0,Z1,ZE,ZO⟩,by simp[intOf] <;> omega⟩
  · have hkN:k=qs.length:=by omega
    rw[hkN,hfin.out]at hs;have t0:decide ((k:Int)<(qs.length:Int))=false:=by simp;omega
    clear hkN;have ev:VO (comb qs)=.agg #[.string ⟨sa.toArray⟩,.string ⟨sb.toArray⟩]:=by unfold VO;rw[hs.out.1,hs.out.2.1]
    have ee:Kp (eO (comb qs)=c):=⟨hs.out.2.2⟩
    have ev:=Kp.mk ev;have a0:=B0.cell 0 rfl;have a1:=B0.cell 1 rfl;have r0:=B1.cell 0 rfl;have r1:=B1.cell 1 rfl;have f0:=B1.frozen 0;have f1:=B1.frozen 1;have lE:=BE.lt;have B4:=(B1.set 0 (.string ⟨sa.toArray⟩)).set 1 (.string ⟨sb.toArray⟩);have ZE:=(BE.far (p:=⟨w.heap.size+1,0,none⟩) (by show ge≠w.heap.size+1;omega) (.string ⟨sa.toArray⟩)).far (p:=⟨w.heap.size+1,1,none⟩) (by show ge≠w.heap.size+1;omega) (.string ⟨sb.toArray⟩);have ZO:=(hO.qJ (.string ⟨sa.toArray⟩) 0 (w.heap.size+1) (.inr (by omega))).qJ (.string ⟨sb.toArray⟩) 1 (w.heap.size+1) (.inr (by omega));clear hs hfin hA oK hq B0 B1 BE hO lz;go_wp2;exact bodyPost_ret (eG rfl _ _ rfl B4) rfl ⟨by rw[ev.out],by rw[ee.out];exact ZE,ZO⟩
end Go.Proofs.YtelljijajgiabaaGreatDoor

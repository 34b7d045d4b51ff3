import Derived.Test.YtohgjenaclfegaaGreatDoorQR01
import Derived.Test.YtohgjenaclfegaaGreatDoorQK04
import Derived.WalkMore
import Derived.ScopeJumps
set_option linter.unusedVariables false
set_option linter.unusedSimpArgs false
set_option maxRecDepth 100000
set_option maxHeartbeats 8000000
namespace Go.Proofs.YtohgjenaclfegaaGreatDoor
open Go.RowKit Go.Shelf
def KC (w:World) (gA gB:Nat) (nA nB:Array Value) (W W':World):Prop:=(Below w.heap.size w W->Below w.heap.size w W')/\(Bx W gA 77 nA->Bx W' gA 77 nA)/\(Bx W gB 77 nB->Bx W' gB 77 nB)
theorem bU (w:World) (gA gB:Nat) (nA nB:Array Value):RN.Cls (KC w gA gB nA nB) :=
 ⟨fun _=>⟨fun h=>h,fun h=>h,fun h=>h⟩,fun h h'=>⟨fun k=>h'.1 (h.1 k),fun k=>h'.2.1 (h.2.1 k),fun k=>h'.2.2 (h.2.2 k)⟩,fun _ n=>⟨fun h=>⟨h.os,h.tape,h.output,h.size,h.block⟩,fun h=>h,fun h=>h⟩⟩
def NC (gA gB:Nat) (oA oB:Array Value) (j:Nat) (W:World):Prop:=(j=10->Bx W gA 77 oA)/\(j=11->Bx W gB 77 oB)
def RX (g:Nat) (n:Array Value):Value->World->Prop:=fun _ w=>Bx w g 77 n
theorem Wy (n:Nat) (a:Array Value) (h:a.size=n):a=((List.range n).map fun k=>a.getD k undef).toArray:=by
 apply Array.ext
 · simp[h]
 · intro i h1 h2;simp [Array.getD,h1]
theorem act74 (a:Act) (h:a.tmps.size=74) (hd:a.defers=[]):∃us:Nat->Value,a={ tmps:=#[us 0,us 1,us 2,us 3,us 4,us 5,us 6,us 7,us 8,us 9,us 10,us 11,us 12,us 13,us 14,us 15,us 16,us 17,us 18,us 19,us 20,us 21,us 22,us 23,us 24,us 25,us 26,us 27,us 28,us 29,us 30,us 31,us 32,us 33,us 34,us 35,us 36,us 37,us 38,us 39,us 40,us 41,us 42,us 43,us 44,us 45,us 46,us 47,us 48,us 49,us 50,us 51,us 52,us 53,us 54,us 55,us 56,us 57,us 58,us 59,us 60,us 61,us 62,us 63,us 64,us 65,us 66,us 67,us 68,us 69,us 70,us 71,us 72,us 73],defers:=[] }:=by
 refine⟨fun k=>a.tmps.getD k undef,?_⟩;obtain ⟨t,d⟩:=a;obtain rfl:d=[]:=hd;exact congrArg (fun x=>Act.mk x []) (Wy 74 t h)
theorem tV {W:World} {g:Nat} {d:Int} {sd:List UInt8} (hd:0<d) (e0:Lib.itoa d=sd) (h:W.cell? ⟨g,1,none⟩=some (.string ⟨sd.toArray⟩)):Classical.epsilon (fun k:Nat=>W.cell? ⟨g,1,none⟩=some (.string ⟨(Lib.itoa (k:Int)).toArray⟩))=d.toNat:=by
 have e:((d.toNat:Nat):Int)=d:=by omega
 have h1:W.cell? ⟨g,1,none⟩=some (.string ⟨(Lib.itoa ((d.toNat:Nat):Int)).toArray⟩):=by rw[e,e0];exact h
 have h2:=Classical.epsilon_spec (p:=fun k:Nat=>W.cell? ⟨g,1,none⟩=some (.string ⟨(Lib.itoa (k:Int)).toArray⟩)) ⟨_,h1⟩;have h3:=h1.symm.trans h2;simp only[Option.some.injEq,Value.string.injEq,ByteArray.mk.injEq]at h3;have h4:=Ig.dX (List.toArray_inj h3);omega
theorem DF (x y:Rat) (w:World) (hE:Env w) (hx:Rq.Fq x) (hy:Rq.Fq y) :
 aT 103 #[QV x,QV y] w (.int .i64 (dJ (x.num*y.den) (y.num*x.den))):=by
 unfold QV
 have hV1:=fun w0 hE0=>nG (Lib.itoa x.num) (Lib.itoa (x.den:Int)) w0 (bJ hx.num) (bJ hx.den) hE0
 have hV2:=fun w0 hE0=>nG (Lib.itoa y.num) (Lib.itoa (y.den:Int)) w0 (bJ hy.num) (bJ hy.den) hE0
 rw[Rq.vC hx]at hV1;rw [Rq.vC hy]at hV2;have hfit:Kp (Ig.fits x.num/\Ig.fits (x.den:Int)/\Ig.fits y.num/\Ig.fits (y.den:Int)):=⟨⟨hx.num,hx.den,hy.num,hy.den⟩⟩
 have hd0:=Rq.sV x;have hc0:=Rq.sV y;clear hx hy;obtain ⟨ans,hans⟩:=AZ (dJ (x.num*y.den) (y.num*x.den));have hs:Kp ((1:Int)*dJ (x.num*y.den) (y.num*x.den)=ans):=⟨by rw[Int.one_mul];exact hans.out⟩
 rw[hans.out];generalize x.num=n at *;generalize (x.den:Int)=d at *;generalize y.num=m at *;generalize (y.den:Int)=c at *;clear hans;obtain ⟨sn,XI⟩:=AZ (Lib.itoa n);obtain ⟨sd,esd⟩:=AZ (Lib.itoa d);obtain ⟨sm,esm⟩:=AZ (Lib.itoa m);obtain ⟨sc,esc⟩:=AZ (Lib.itoa c);have hst:Kp (Lib.itoa n=sn/\Lib.itoa d=sd/\Lib.itoa m=sm/\Lib.itoa c=sc):=⟨⟨XI.out,esd.out,esm.out,esc.out⟩⟩
 rw[XI.out,esd.out]at hV1;rw [esm.out,esc.out]at hV2;rw [XI.out,esd.out,esm.out,esc.out];clear XI esd esm esc;have hb:=bNew (aA w (.cells #[.string ⟨sn.toArray⟩,.string ⟨sd.toArray⟩] 77)) (.cells #[.string ⟨sm.toArray⟩,.string ⟨sc.toArray⟩] 77);have BA:=(Bx.mk w 77 #[.string ⟨sn.toArray⟩,.string ⟨sd.toArray⟩]).new (.cells #[.string ⟨sm.toArray⟩,.string ⟨sc.toArray⟩] 77);have BB:=Bx.mk (w.alloc (.cells #[.string ⟨sn.toArray⟩,.string ⟨sd.toArray⟩] 77)) 77 #[.string ⟨sm.toArray⟩,.string ⟨sc.toArray⟩];rw [aj]at BB;have Um:=BA.cell 0 rfl;have Ul:=BA.cell 1 rfl
 go_enter Tryz.func103,Tryz.ntmps103
 go_wp2;have hAB:Kp (w.heap.size≠w.heap.size+1):=⟨by omega⟩
 have ML:Kp (w.heap.size<=w.heap.size):=⟨by omega⟩
 have MK:Kp (w.heap.size<=w.heap.size+1):=⟨by omega⟩
 refine wp_scope_jumps 0 (fun a' w'=>∃(n d m c sg:Int) (sn sd sm sc:List UInt8),a'.tmps.size=74/\a'.defers=[]/\a'.tmps.getD 2 undef=.pointer (some ⟨w.heap.size,0,none⟩)/\a'.tmps.getD 3 undef=.pointer (some ⟨(w.heap.size+1),0,none⟩)/\a'.tmps.getD 4 undef=.int .i64 0/\a'.tmps.getD 5 undef=.int .i64 sg/\(sg=1∨sg= -1)/\0<d/\0<c/\Kp (Lib.itoa n=sn/\Lib.itoa d=sd/\Lib.itoa m=sm/\Lib.itoa c=sc)/\Kp (Ig.fits n/\Ig.fits d/\Ig.fits m/\Ig.fits c)/\Kp (sg*dJ (n*c) (m*d)=ans)/\Bx w' w.heap.size 77 #[.string ⟨sn.toArray⟩,.string ⟨sd.toArray⟩]/\Bx w' (w.heap.size+1) 77 #[.string ⟨sm.toArray⟩,.string ⟨sc.toArray⟩]/\Below w.heap.size w w') (fun a' w'=>Classical.epsilon (fun k:Nat=>w'.cell? ⟨w.heap.size,1,none⟩=some (.string ⟨(Lib.itoa (k:Int)).toArray⟩))) rfl ?_ ?_
 · go_wp2_with fail;refine (hV1 _ (hE.below hb)).mono ?_;rintro _ y1 ⟨rfl,hb1⟩;replace hb:=ah hb hb1;replace BA:=BA.call hb1;replace BB:=BB.call hb1;have b0:=BB.cell 0 rfl;have b1:=BB.cell 1 rfl;clear hb1 hV1 Um Ul;go_wp2_with fail;refine (hV2 _ (hE.below hb)).mono ?_;rintro _ y2 ⟨rfl,hb1⟩;replace hb:=ah hb hb1;replace BA:=BA.call hb1;replace BB:=BB.call hb1;clear hb1 hV2 b0 b1;go_wp2
   go_step3
   obtain⟨hn,hd,hm,hc⟩:=hfit.out;have hD1:=fun w0 hE0=>uo n d w0 hn hd (by omega) hE0
   have hD2:=fun w0 hE0=>uo m c w0 hm hc (by omega) hE0
   have zM:=fun w0=>jh (n / d) (m / c) w0 (jT d hn) (jT c hm)
   have fr:=oI n (show d≠0 by omega) hd;have fs:=oI m (show c≠0 by omega) hc;have tr:=lI (n % d);have ts:=lI (m % c);have hlt:=fun h=>XW (n:=n) (m:=m) hd0 hc0 h
   have hgt:=fun h=>XY (n:=n) (m:=m) hd0 hc0 h
   have h00:=fun h h1 h2=>X3 (n:=n) (d:=d) (m:=m) (c:=c) h h1 h2
   have Ij:=fun h h1 h2=>XZ (n:=n) (m:=m) hd0 hc0 h h1 h2
   have hr0:=fun h h1 h2=>XV (n:=n) (m:=m) hd0 hc0 h h1 h2
   have htn:=fun h=>Kv (n:=n) (d:=d) (m:=m) (c:=c) h
   have hsd:=fun h=>mY (n:=n) hd0 h
   have hsc:=fun h=>mY (n:=m) hc0 h
   obtain⟨sp,ZY⟩:=AZ (Lib.itoa (n / d));obtain ⟨sr,Uj⟩:=AZ (Lib.itoa (n % d));obtain ⟨sq,ZX⟩:=AZ (Lib.itoa (m / c));obtain ⟨ss,ess⟩:=AZ (Lib.itoa (m % c));rw [hst.out.1,hst.out.2.1,ZY.out,Uj.out]at hD1;rw [hst.out.2.2.1,hst.out.2.2.2,ZX.out,ess.out]at hD2;rw [ZY.out,ZX.out]at zM;rw [Uj.out]at tr;rw [ess.out]at ts;replace ZY:=trivial;replace ZX:=trivial;generalize hv:dJ (n*c) (m*d)=val at *;generalize n / d=p at *;generalize m / c=q at *;generalize n % d=r at *;generalize m % c=s at *;replace hv:=Kp.mk hv;have a0:=BA.cell 0 rfl;have a1:=BA.cell 1 rfl;have b0:=BB.cell 0 rfl;have b1:=BB.cell 1 rfl;go_wp2_with fail;refine (hD1 _ (hE.below hb)).mono ?_;rintro _ w1 ⟨rfl,hb1⟩;replace hb:=ah hb hb1;replace BA:=BA.call hb1;replace BB:=BB.call hb1;clear hb1 hD1 a0 a1 b0 b1;have b0:=BB.cell 0 rfl;have b1:=BB.cell 1 rfl;go_wp2_with fail;refine (hD2 _ (hE.below hb)).mono ?_;rintro _ w2 ⟨rfl,hb1⟩;replace hb:=ah hb hb1;replace BA:=BA.call hb1;replace BB:=BB.call hb1;clear hb1 hD2 b0 b1
   rcases Int.lt_trichotomy p q with hpq|hpq|hpq
   · rw[tq hpq]at zM;have hval:=Kp.mk (hlt hpq);clear hlt hgt h00 Ij hr0 htn hsd hsc tr ts hpq hv;go_wp2_with fail;refine (zM _).mono ?_;rintro _ w3 ⟨rfl,hb1⟩;replace hb:=ah hb hb1;replace BA:=BA.call hb1;replace BB:=BB.call hb1;clear hb1 zM;go_wp2;simp only[Exit.jump];go_ret;exact ⟨bQ (by have:=hs.out;rw[hval.out]at this;omega),hb⟩
   · have oz:=Kp.mk hpq;subst hpq;rw [uQ]at zM;go_wp2_with fail;refine (zM _).mono ?_;rintro _ w3 ⟨rfl,hb1⟩;replace hb:=ah hb hb1;replace BA:=BA.call hb1;replace BB:=BB.call hb1;clear hb1 zM;by_cases hr:r=0
     · rw[decide_eq_true hr]at tr;by_cases hs0:s=0
       · rw[decide_eq_true hs0]at ts;have hval:=Kp.mk (h00 oz.out hr hs0);clear hlt hgt h00 Ij hr0 htn hsd hsc hr hs0 oz hv fr fs;go_wp2;simp only[Exit.jump];go_ret;exact ⟨bQ (by have:=hs.out;rw[hval.out,Int.mul_zero]at this;exact this),hb⟩
       · rw[decide_eq_false hs0]at ts;have hval:=Kp.mk (Ij oz.out hr hs0);clear hlt hgt h00 Ij hr0 htn hsd hsc hr hs0 oz hv fr fs;go_wp2;simp only[Exit.jump];go_ret;exact ⟨bQ (by have:=hs.out;rw[hval.out]at this;omega),hb⟩
     · rw[decide_eq_false hr]at tr;by_cases hs0:s=0
       · rw[decide_eq_true hs0]at ts;have hval:=Kp.mk (hr0 oz.out hr hs0);clear hlt hgt h00 Ij hr0 htn hsd hsc hr hs0 oz hv fr fs;go_wp2;simp only[Exit.jump];go_ret;exact ⟨bQ (by have:=hs.out;rw[hval.out]at this;omega),hb⟩
       · rw[decide_eq_false hs0]at ts;have hval:=Kp.mk (htn oz.out);have hdr:=hsd hr;have hcs:=hsc hs0;clear hlt hgt h00 Ij hr0 htn hsd hsc hr hs0 oz;have hnew:Kp (Ig.fits d/\Ig.fits r/\Ig.fits c/\Ig.fits s):=⟨⟨hd,fr,hc,fs⟩⟩
         clear fr fs hn hd hm hc hfit;have a1:=BA.cell 1 rfl;have b1:=BB.cell 1 rfl
         · skip
           go_wp2_with fail;refine RN.au (N:=NC w.heap.size (w.heap.size+1) #[.string ⟨sn.toArray⟩,.string ⟨sd.toArray⟩] #[.string ⟨sm.toArray⟩,.string ⟨sc.toArray⟩]) (bU w w.heap.size (w.heap.size+1) #[.string ⟨sd.toArray⟩,.string ⟨sr.toArray⟩] #[.string ⟨sc.toArray⟩,.string ⟨ss.toArray⟩]) [RN.ak (.pointer (some ⟨w.heap.size,1,none⟩)),RN.ak (.string ⟨sd.toArray⟩),RN.ak (.string ⟨sr.toArray⟩),RN.ak (.agg #[.string ⟨sd.toArray⟩,.string ⟨sr.toArray⟩]),RN.ak (.pointer (some ⟨(w.heap.size+1),1,none⟩)),RN.ak (.string ⟨sc.toArray⟩),RN.ak (.string ⟨ss.toArray⟩),RN.ak (.agg #[.string ⟨sc.toArray⟩,.string ⟨ss.toArray⟩]),RN.ak (.int .i64 1),RN.ak (.int .i64 (-1)),RX w.heap.size #[.string ⟨sd.toArray⟩,.string ⟨sr.toArray⟩],RX (w.heap.size+1) #[.string ⟨sc.toArray⟩,.string ⟨ss.toArray⟩]] 12 74 (by kernel_rfl) rfl rfl (by kernel_rfl) ?_ ?_ ?_ ?_
           · simp only[RN.aY]
             and_intros <;> first|exact RN.aB _|exact fun _ _ _ h k=>k.2.1 h|exact fun _ _ _ h k=>k.2.2 h|trivial
           · exact fun j=>⟨fun _=>BA,fun _=>BB⟩
           · simp only[RN.Users,List.take,List.length];refine ⟨?_,?_,?_,?_,?_,?_,?_,?_,?_,?_,?_,?_,trivial⟩;all_goals (intro vs w2 hb2 hd hn;simp only[RN.aJ,Act.put,List.nil_append,List.cons_append,List.setIfInBounds_toArray,List.set_cons_succ,List.set_cons_zero,Nat.reduceAdd])
             · clear hd hn;go_wp2;exact⟨⟨(bU w w.heap.size (w.heap.size+1) #[.string ⟨sd.toArray⟩,.string ⟨sr.toArray⟩] #[.string ⟨sc.toArray⟩,.string ⟨ss.toArray⟩]).refl _,fun _ _ h=>h⟩,rfl⟩
             · have e0:vs 0=_:=hd 0 rfl;have a1':=((hn 10 (by decide) (by kernel_rfl)).1 rfl).cell 1 rfl;clear hd hn;rw[e0];go_wp2;exact⟨⟨(bU w w.heap.size (w.heap.size+1) #[.string ⟨sd.toArray⟩,.string ⟨sr.toArray⟩] #[.string ⟨sc.toArray⟩,.string ⟨ss.toArray⟩]).refl _,fun _ _ h=>h⟩,rfl⟩
             · clear hd hn;go_wp2;exact⟨⟨(bU w w.heap.size (w.heap.size+1) #[.string ⟨sd.toArray⟩,.string ⟨sr.toArray⟩] #[.string ⟨sc.toArray⟩,.string ⟨ss.toArray⟩]).refl _,fun _ _ h=>h⟩,rfl⟩
             · have e0:vs 1=_:=hd 1 rfl;have e1:vs 2=_:=hd 2 rfl;clear hd hn;rw[e0,e1];go_wp2;exact⟨⟨(bU w w.heap.size (w.heap.size+1) #[.string ⟨sd.toArray⟩,.string ⟨sr.toArray⟩] #[.string ⟨sc.toArray⟩,.string ⟨ss.toArray⟩]).refl _,fun _ _ h=>h⟩,rfl⟩
             · clear hd hn;go_wp2;exact⟨⟨(bU w w.heap.size (w.heap.size+1) #[.string ⟨sd.toArray⟩,.string ⟨sr.toArray⟩] #[.string ⟨sc.toArray⟩,.string ⟨ss.toArray⟩]).refl _,fun _ _ h=>h⟩,rfl⟩
             · have e0:vs 4=_:=hd 4 rfl;have b1':=((hn 11 (by decide) (by kernel_rfl)).2 rfl).cell 1 rfl;clear hd hn;rw[e0];go_wp2;exact⟨⟨(bU w w.heap.size (w.heap.size+1) #[.string ⟨sd.toArray⟩,.string ⟨sr.toArray⟩] #[.string ⟨sc.toArray⟩,.string ⟨ss.toArray⟩]).refl _,fun _ _ h=>h⟩,rfl⟩
             · clear hd hn;go_wp2;exact⟨⟨(bU w w.heap.size (w.heap.size+1) #[.string ⟨sd.toArray⟩,.string ⟨sr.toArray⟩] #[.string ⟨sc.toArray⟩,.string ⟨ss.toArray⟩]).refl _,fun _ _ h=>h⟩,rfl⟩
             · have e0:vs 5=_:=hd 5 rfl;have e1:vs 6=_:=hd 6 rfl;clear hd hn;rw[e0,e1];go_wp2;exact⟨⟨(bU w w.heap.size (w.heap.size+1) #[.string ⟨sd.toArray⟩,.string ⟨sr.toArray⟩] #[.string ⟨sc.toArray⟩,.string ⟨ss.toArray⟩]).refl _,fun _ _ h=>h⟩,rfl⟩
             · clear hd hn;go_wp2;exact⟨⟨(bU w w.heap.size (w.heap.size+1) #[.string ⟨sd.toArray⟩,.string ⟨sr.toArray⟩] #[.string ⟨sc.toArray⟩,.string ⟨ss.toArray⟩]).refl _,fun _ _ h=>h⟩,rfl⟩
             · have e0:vs 8=_:=hd 8 rfl;clear hd hn;rw[e0];go_wp2;exact⟨⟨(bU w w.heap.size (w.heap.size+1) #[.string ⟨sd.toArray⟩,.string ⟨sr.toArray⟩] #[.string ⟨sc.toArray⟩,.string ⟨ss.toArray⟩]).refl _,fun _ _ h=>h⟩,rfl⟩
             · have e0:vs 3=_:=hd 3 rfl;have hX:=(hn 10 (by decide) (by kernel_rfl)).1 rfl;have x0:=hX.cell 0 rfl;have x1:=hX.cell 1 rfl;have f0:=hX.frozen 0;have f1:=hX.frozen 1
               have hY:Bx ((w2.setCell ⟨w.heap.size,0,none⟩ (.string ⟨sd.toArray⟩)).setCell ⟨w.heap.size,1,none⟩ (.string ⟨sr.toArray⟩)) w.heap.size 77 #[.string ⟨sd.toArray⟩,.string ⟨sr.toArray⟩]:=by
                have:=(hX.set 0 (.string ⟨sd.toArray⟩)).set 1 (.string ⟨sr.toArray⟩);simpa using this
               have hF:∀ {cs:Array Value},Bx w2 (w.heap.size+1) 77 cs->Bx ((w2.setCell ⟨w.heap.size,0,none⟩ (.string ⟨sd.toArray⟩)).setCell ⟨w.heap.size,1,none⟩ (.string ⟨sr.toArray⟩)) (w.heap.size+1) 77 cs:=fun h=>(h.far (p:=⟨w.heap.size,0,none⟩) (fun e=>hAB.out e.symm) _).far (p:=⟨w.heap.size,1,none⟩) (fun e=>hAB.out e.symm) _
               have hW:Below w.heap.size w w2->Below w.heap.size w ((w2.setCell ⟨w.heap.size,0,none⟩ (.string ⟨sd.toArray⟩)).setCell ⟨w.heap.size,1,none⟩ (.string ⟨sr.toArray⟩)):=fun h=>(h.setCell (p:=⟨w.heap.size,0,none⟩) ML.out _).setCell (p:=⟨w.heap.size,1,none⟩) ML.out _
               rw[e0];clear hd hn e0 hX;go_wp2;exact ⟨⟨⟨hW,fun _=>hY,hF⟩,fun j hj hN=>⟨fun e=>absurd e hj,fun e=>hF (hN.2 e)⟩⟩,hY⟩
             · have e0:vs 7=_:=hd 7 rfl;have hX:=(hn 11 (by decide) (by kernel_rfl)).2 rfl;have x0:=hX.cell 0 rfl;have x1:=hX.cell 1 rfl;have f0:=hX.frozen 0;have f1:=hX.frozen 1
               have hY:Bx ((w2.setCell ⟨(w.heap.size+1),0,none⟩ (.string ⟨sc.toArray⟩)).setCell ⟨(w.heap.size+1),1,none⟩ (.string ⟨ss.toArray⟩)) (w.heap.size+1) 77 #[.string ⟨sc.toArray⟩,.string ⟨ss.toArray⟩]:=by
                have:=(hX.set 0 (.string ⟨sc.toArray⟩)).set 1 (.string ⟨ss.toArray⟩);simpa using this
               have hF:∀ {cs:Array Value},Bx w2 w.heap.size 77 cs->Bx ((w2.setCell ⟨(w.heap.size+1),0,none⟩ (.string ⟨sc.toArray⟩)).setCell ⟨(w.heap.size+1),1,none⟩ (.string ⟨ss.toArray⟩)) w.heap.size 77 cs:=fun h=>(h.far (p:=⟨(w.heap.size+1),0,none⟩) (hAB.out) _).far (p:=⟨(w.heap.size+1),1,none⟩) (hAB.out) _
               have hW:Below w.heap.size w w2->Below w.heap.size w ((w2.setCell ⟨(w.heap.size+1),0,none⟩ (.string ⟨sc.toArray⟩)).setCell ⟨(w.heap.size+1),1,none⟩ (.string ⟨ss.toArray⟩)):=fun h=>(h.setCell (p:=⟨(w.heap.size+1),0,none⟩) MK.out _).setCell (p:=⟨(w.heap.size+1),1,none⟩) MK.out _
               rw[e0];clear hd hn e0 hX;go_wp2;exact ⟨⟨⟨hW,hF,fun _=>hY⟩,fun j hj hN=>⟨fun e=>hF (hN.1 e),fun e=>absurd e hj⟩⟩,hY⟩
           · intro vs wa hba hR2;simp only[RN.bP,RN.ak]at hR2;obtain ⟨e0,e1,e2,e3,e4,e5,e6,e7,e8,e9,e10,e11,-⟩:=hR2;simp only[List.drop,List.take,List.map,RN.aJ,Act.put,List.setIfInBounds_toArray,List.set_cons_succ,List.set_cons_zero,Nat.reduceAdd];rw [e0,e1,e2,e3,e4,e5,e6,e7,e8,e9];have Gq:Bx wa w.heap.size 77 #[.string ⟨sd.toArray⟩,.string ⟨sr.toArray⟩]:=e10;have BB2:Bx wa (w.heap.size+1) 77 #[.string ⟨sc.toArray⟩,.string ⟨ss.toArray⟩]:=e11;have hb2:=hba.1 hb;clear hb BA BB a1 b1;go_wp2
             go_step3
             refine⟨rfl,d,r,c,s,(-1),sd,sr,sc,ss,rfl,rfl,rfl,rfl,rfl,rfl,.inr rfl,hdr.1,hcs.1,⟨⟨hst.out.2.1,Uj.out,hst.out.2.2.2,ess.out⟩⟩,hnew,⟨?_⟩,?_,?_,hb2⟩
             · have h1:=hs.out;rw [hval.out]at h1;rw [←h1];omega
             · exact Gq
             · exact BB2
   · rw[tu hpq]at zM;have hval:=Kp.mk (hgt hpq);clear hlt hgt h00 Ij hr0 htn hsd hsc tr ts hpq hv;go_wp2_with fail;refine (zM _).mono ?_;rintro _ w3 ⟨rfl,hb1⟩;replace hb:=ah hb hb1;replace BA:=BA.call hb1;replace BB:=BB.call hb1;clear hb1 zM;go_wp2;simp only[Exit.jump];go_ret;exact ⟨bQ (by have:=hs.out;rw[hval.out]at this;omega),hb⟩
 · clear hV1 hV2 Um Ul BA BB hb hs hfit hd0 hc0 hst;rintro a' w' ⟨n,d,m,c,sg,sn,sd,sm,sc,z0,z1,z2,z3,z4,z5,hsg,hd0,hc0,hst,hfit,hs,BA,BB,hb⟩;have hA1:=Kp.mk (BA.cell 1 rfl);obtain ⟨us,rfl⟩:=act74 a' z0 z1;have e2:us 2=.pointer (some ⟨w.heap.size,0,none⟩):=z2;have e3:us 3=.pointer (some ⟨(w.heap.size+1),0,none⟩):=z3;have e4:us 4=.int .i64 0:=z4;have e5:us 5=.int .i64 sg:=z5;clear z0 z1 z2 z3 z4 z5;rw [e2,e3,e4,e5];clear e2 e3 e4 e5;obtain ⟨hn,hd,hm,hc⟩:=hfit.out;have hD1:=fun w0 hE0=>uo n d w0 hn hd (by omega) hE0
   have hD2:=fun w0 hE0=>uo m c w0 hm hc (by omega) hE0
   have zM:=fun w0=>jh (n / d) (m / c) w0 (jT d hn) (jT c hm)
   have fr:=oI n (show d≠0 by omega) hd;have fs:=oI m (show c≠0 by omega) hc;have tr:=lI (n % d);have ts:=lI (m % c);have hlt:=fun h=>XW (n:=n) (m:=m) hd0 hc0 h
   have hgt:=fun h=>XY (n:=n) (m:=m) hd0 hc0 h
   have h00:=fun h h1 h2=>X3 (n:=n) (d:=d) (m:=m) (c:=c) h h1 h2
   have Ij:=fun h h1 h2=>XZ (n:=n) (m:=m) hd0 hc0 h h1 h2
   have hr0:=fun h h1 h2=>XV (n:=n) (m:=m) hd0 hc0 h h1 h2
   have htn:=fun h=>Kv (n:=n) (d:=d) (m:=m) (c:=c) h
   have hsd:=fun h=>mY (n:=n) hd0 h
   have hsc:=fun h=>mY (n:=m) hc0 h
   obtain⟨sp,ZY⟩:=AZ (Lib.itoa (n / d));obtain ⟨sr,Uj⟩:=AZ (Lib.itoa (n % d));obtain ⟨sq,ZX⟩:=AZ (Lib.itoa (m / c));obtain ⟨ss,ess⟩:=AZ (Lib.itoa (m % c));rw [hst.out.1,hst.out.2.1,ZY.out,Uj.out]at hD1;rw [hst.out.2.2.1,hst.out.2.2.2,ZX.out,ess.out]at hD2;rw [ZY.out,ZX.out]at zM;rw [Uj.out]at tr;rw [ess.out]at ts;replace ZY:=trivial;replace ZX:=trivial;generalize hv:dJ (n*c) (m*d)=val at *;generalize n / d=p at *;generalize m / c=q at *;generalize n % d=r at *;generalize m % c=s at *;replace hv:=Kp.mk hv;have a0:=BA.cell 0 rfl;have a1:=BA.cell 1 rfl;have b0:=BB.cell 0 rfl;have b1:=BB.cell 1 rfl;go_wp2_with fail;refine (hD1 _ (hE.below hb)).mono ?_;rintro _ w1 ⟨rfl,hb1⟩;replace hb:=ah hb hb1;replace BA:=BA.call hb1;replace BB:=BB.call hb1;clear hb1 hD1 a0 a1 b0 b1;have b0:=BB.cell 0 rfl;have b1:=BB.cell 1 rfl;go_wp2_with fail;refine (hD2 _ (hE.below hb)).mono ?_;rintro _ w2 ⟨rfl,hb1⟩;replace hb:=ah hb hb1;replace BA:=BA.call hb1;replace BB:=BB.call hb1;clear hb1 hD2 b0 b1
   rcases Int.lt_trichotomy p q with hpq|hpq|hpq
   · rw[tq hpq]at zM;have hval:=Kp.mk (hlt hpq);clear hlt hgt h00 Ij hr0 htn hsd hsc tr ts hpq hv;go_wp2_with fail;refine (zM _).mono ?_;rintro _ w3 ⟨rfl,hb1⟩;replace hb:=ah hb hb1;replace BA:=BA.call hb1;replace BB:=BB.call hb1;clear hb1 zM
     rcases hsg with rfl|rfl
     all_goals
      go_wp2;simp only[Exit.jump];go_ret;exact ⟨bQ (by have:=hs.out;rw[hval.out]at this;omega),hb⟩
   · have oz:=Kp.mk hpq;subst hpq;rw [uQ]at zM;go_wp2_with fail;refine (zM _).mono ?_;rintro _ w3 ⟨rfl,hb1⟩;replace hb:=ah hb hb1;replace BA:=BA.call hb1;replace BB:=BB.call hb1;clear hb1 zM;by_cases hr:r=0
     · rw[decide_eq_true hr]at tr;by_cases hs0:s=0
       · rw[decide_eq_true hs0]at ts;have hval:=Kp.mk (h00 oz.out hr hs0);clear hlt hgt h00 Ij hr0 htn hsd hsc hr hs0 oz hv fr fs;go_wp2;simp only[Exit.jump];go_ret;exact ⟨bQ (by have:=hs.out;rw[hval.out,Int.mul_zero]at this;exact this),hb⟩
       · rw[decide_eq_false hs0]at ts;have hval:=Kp.mk (Ij oz.out hr hs0);clear hlt hgt h00 Ij hr0 htn hsd hsc hr hs0 oz hv fr fs
         rcases hsg with rfl|rfl
         all_goals
          go_wp2;simp only[Exit.jump];go_ret;exact ⟨bQ (by have:=hs.out;rw[hval.out]at this;omega),hb⟩
     · rw[decide_eq_false hr]at tr;by_cases hs0:s=0
       · rw[decide_eq_true hs0]at ts;have hval:=Kp.mk (hr0 oz.out hr hs0);clear hlt hgt h00 Ij hr0 htn hsd hsc hr hs0 oz hv fr fs
         rcases hsg with rfl|rfl
         all_goals
          go_wp2;simp only[Exit.jump];go_ret;exact ⟨bQ (by have:=hs.out;rw[hval.out]at this;omega),hb⟩
       · rw[decide_eq_false hs0]at ts;have hval:=Kp.mk (htn oz.out);have hdr:=hsd hr;have hcs:=hsc hs0;clear hlt hgt h00 Ij hr0 htn hsd hsc hr hs0 oz;have hnew:Kp (Ig.fits d/\Ig.fits r/\Ig.fits c/\Ig.fits s):=⟨⟨hd,fr,hc,fs⟩⟩
         clear fr fs hn hd hm hc hfit;have a1:=BA.cell 1 rfl;have b1:=BB.cell 1 rfl
         rcases hsg with rfl|rfl
         · skip
           go_wp2_with fail;refine RN.au (N:=NC w.heap.size (w.heap.size+1) #[.string ⟨sn.toArray⟩,.string ⟨sd.toArray⟩] #[.string ⟨sm.toArray⟩,.string ⟨sc.toArray⟩]) (bU w w.heap.size (w.heap.size+1) #[.string ⟨sd.toArray⟩,.string ⟨sr.toArray⟩] #[.string ⟨sc.toArray⟩,.string ⟨ss.toArray⟩]) [RN.ak (.pointer (some ⟨w.heap.size,1,none⟩)),RN.ak (.string ⟨sd.toArray⟩),RN.ak (.string ⟨sr.toArray⟩),RN.ak (.agg #[.string ⟨sd.toArray⟩,.string ⟨sr.toArray⟩]),RN.ak (.pointer (some ⟨(w.heap.size+1),1,none⟩)),RN.ak (.string ⟨sc.toArray⟩),RN.ak (.string ⟨ss.toArray⟩),RN.ak (.agg #[.string ⟨sc.toArray⟩,.string ⟨ss.toArray⟩]),RN.ak (.int .i64 1),RN.ak (.int .i64 (-1)),RX w.heap.size #[.string ⟨sd.toArray⟩,.string ⟨sr.toArray⟩],RX (w.heap.size+1) #[.string ⟨sc.toArray⟩,.string ⟨ss.toArray⟩]] 12 74 (by kernel_rfl) rfl rfl (by kernel_rfl) ?_ ?_ ?_ ?_
           · simp only[RN.aY]
             and_intros <;> first|exact RN.aB _|exact fun _ _ _ h k=>k.2.1 h|exact fun _ _ _ h k=>k.2.2 h|trivial
           · exact fun j=>⟨fun _=>BA,fun _=>BB⟩
           · simp only[RN.Users,List.take,List.length];refine ⟨?_,?_,?_,?_,?_,?_,?_,?_,?_,?_,?_,?_,trivial⟩;all_goals (intro vs w2 hb2 hd hn;simp only[RN.aJ,Act.put,List.nil_append,List.cons_append,List.setIfInBounds_toArray,List.set_cons_succ,List.set_cons_zero,Nat.reduceAdd])
             · clear hd hn;go_wp2;exact⟨⟨(bU w w.heap.size (w.heap.size+1) #[.string ⟨sd.toArray⟩,.string ⟨sr.toArray⟩] #[.string ⟨sc.toArray⟩,.string ⟨ss.toArray⟩]).refl _,fun _ _ h=>h⟩,rfl⟩
             · have e0:vs 0=_:=hd 0 rfl;have a1':=((hn 10 (by decide) (by kernel_rfl)).1 rfl).cell 1 rfl;clear hd hn;rw[e0];go_wp2;exact⟨⟨(bU w w.heap.size (w.heap.size+1) #[.string ⟨sd.toArray⟩,.string ⟨sr.toArray⟩] #[.string ⟨sc.toArray⟩,.string ⟨ss.toArray⟩]).refl _,fun _ _ h=>h⟩,rfl⟩
             · clear hd hn;go_wp2;exact⟨⟨(bU w w.heap.size (w.heap.size+1) #[.string ⟨sd.toArray⟩,.string ⟨sr.toArray⟩] #[.string ⟨sc.toArray⟩,.string ⟨ss.toArray⟩]).refl _,fun _ _ h=>h⟩,rfl⟩
             · have e0:vs 1=_:=hd 1 rfl;have e1:vs 2=_:=hd 2 rfl;clear hd hn;rw[e0,e1];go_wp2;exact⟨⟨(bU w w.heap.size (w.heap.size+1) #[.string ⟨sd.toArray⟩,.string ⟨sr.toArray⟩] #[.string ⟨sc.toArray⟩,.string ⟨ss.toArray⟩]).refl _,fun _ _ h=>h⟩,rfl⟩
             · clear hd hn;go_wp2;exact⟨⟨(bU w w.heap.size (w.heap.size+1) #[.string ⟨sd.toArray⟩,.string ⟨sr.toArray⟩] #[.string ⟨sc.toArray⟩,.string ⟨ss.toArray⟩]).refl _,fun _ _ h=>h⟩,rfl⟩
             · have e0:vs 4=_:=hd 4 rfl;have b1':=((hn 11 (by decide) (by kernel_rfl)).2 rfl).cell 1 rfl;clear hd hn;rw[e0];go_wp2;exact⟨⟨(bU w w.heap.size (w.heap.size+1) #[.string ⟨sd.toArray⟩,.string ⟨sr.toArray⟩] #[.string ⟨sc.toArray⟩,.string ⟨ss.toArray⟩]).refl _,fun _ _ h=>h⟩,rfl⟩
             · clear hd hn;go_wp2;exact⟨⟨(bU w w.heap.size (w.heap.size+1) #[.string ⟨sd.toArray⟩,.string ⟨sr.toArray⟩] #[.string ⟨sc.toArray⟩,.string ⟨ss.toArray⟩]).refl _,fun _ _ h=>h⟩,rfl⟩
             · have e0:vs 5=_:=hd 5 rfl;have e1:vs 6=_:=hd 6 rfl;clear hd hn;rw[e0,e1];go_wp2;exact⟨⟨(bU w w.heap.size (w.heap.size+1) #[.string ⟨sd.toArray⟩,.string ⟨sr.toArray⟩] #[.string ⟨sc.toArray⟩,.string ⟨ss.toArray⟩]).refl _,fun _ _ h=>h⟩,rfl⟩
             · clear hd hn;go_wp2;exact⟨⟨(bU w w.heap.size (w.heap.size+1) #[.string ⟨sd.toArray⟩,.string ⟨sr.toArray⟩] #[.string ⟨sc.toArray⟩,.string ⟨ss.toArray⟩]).refl _,fun _ _ h=>h⟩,rfl⟩
             · have e0:vs 8=_:=hd 8 rfl;clear hd hn;rw[e0];go_wp2;exact⟨⟨(bU w w.heap.size (w.heap.size+1) #[.string ⟨sd.toArray⟩,.string ⟨sr.toArray⟩] #[.string ⟨sc.toArray⟩,.string ⟨ss.toArray⟩]).refl _,fun _ _ h=>h⟩,rfl⟩
             · have e0:vs 3=_:=hd 3 rfl;have hX:=(hn 10 (by decide) (by kernel_rfl)).1 rfl;have x0:=hX.cell 0 rfl;have x1:=hX.cell 1 rfl;have f0:=hX.frozen 0;have f1:=hX.frozen 1
               have hY:Bx ((w2.setCell ⟨w.heap.size,0,none⟩ (.string ⟨sd.toArray⟩)).setCell ⟨w.heap.size,1,none⟩ (.string ⟨sr.toArray⟩)) w.heap.size 77 #[.string ⟨sd.toArray⟩,.string ⟨sr.toArray⟩]:=by
                have:=(hX.set 0 (.string ⟨sd.toArray⟩)).set 1 (.string ⟨sr.toArray⟩);simpa using this
               have hF:∀ {cs:Array Value},Bx w2 (w.heap.size+1) 77 cs->Bx ((w2.setCell ⟨w.heap.size,0,none⟩ (.string ⟨sd.toArray⟩)).setCell ⟨w.heap.size,1,none⟩ (.string ⟨sr.toArray⟩)) (w.heap.size+1) 77 cs:=fun h=>(h.far (p:=⟨w.heap.size,0,none⟩) (fun e=>hAB.out e.symm) _).far (p:=⟨w.heap.size,1,none⟩) (fun e=>hAB.out e.symm) _
               have hW:Below w.heap.size w w2->Below w.heap.size w ((w2.setCell ⟨w.heap.size,0,none⟩ (.string ⟨sd.toArray⟩)).setCell ⟨w.heap.size,1,none⟩ (.string ⟨sr.toArray⟩)):=fun h=>(h.setCell (p:=⟨w.heap.size,0,none⟩) ML.out _).setCell (p:=⟨w.heap.size,1,none⟩) ML.out _
               rw[e0];clear hd hn e0 hX;go_wp2;exact ⟨⟨⟨hW,fun _=>hY,hF⟩,fun j hj hN=>⟨fun e=>absurd e hj,fun e=>hF (hN.2 e)⟩⟩,hY⟩
             · have e0:vs 7=_:=hd 7 rfl;have hX:=(hn 11 (by decide) (by kernel_rfl)).2 rfl;have x0:=hX.cell 0 rfl;have x1:=hX.cell 1 rfl;have f0:=hX.frozen 0;have f1:=hX.frozen 1
               have hY:Bx ((w2.setCell ⟨(w.heap.size+1),0,none⟩ (.string ⟨sc.toArray⟩)).setCell ⟨(w.heap.size+1),1,none⟩ (.string ⟨ss.toArray⟩)) (w.heap.size+1) 77 #[.string ⟨sc.toArray⟩,.string ⟨ss.toArray⟩]:=by
                have:=(hX.set 0 (.string ⟨sc.toArray⟩)).set 1 (.string ⟨ss.toArray⟩);simpa using this
               have hF:∀ {cs:Array Value},Bx w2 w.heap.size 77 cs->Bx ((w2.setCell ⟨(w.heap.size+1),0,none⟩ (.string ⟨sc.toArray⟩)).setCell ⟨(w.heap.size+1),1,none⟩ (.string ⟨ss.toArray⟩)) w.heap.size 77 cs:=fun h=>(h.far (p:=⟨(w.heap.size+1),0,none⟩) (hAB.out) _).far (p:=⟨(w.heap.size+1),1,none⟩) (hAB.out) _
               have hW:Below w.heap.size w w2->Below w.heap.size w ((w2.setCell ⟨(w.heap.size+1),0,none⟩ (.string ⟨sc.toArray⟩)).setCell ⟨(w.heap.size+1),1,none⟩ (.string ⟨ss.toArray⟩)):=fun h=>(h.setCell (p:=⟨(w.heap.size+1),0,none⟩) MK.out _).setCell (p:=⟨(w.heap.size+1),1,none⟩) MK.out _
               rw[e0];clear hd hn e0 hX;go_wp2;exact ⟨⟨⟨hW,hF,fun _=>hY⟩,fun j hj hN=>⟨fun e=>hF (hN.1 e),fun e=>absurd e hj⟩⟩,hY⟩
           · intro vs wa hba hR2;simp only[RN.bP,RN.ak]at hR2;obtain ⟨e0,e1,e2,e3,e4,e5,e6,e7,e8,e9,e10,e11,-⟩:=hR2;simp only[List.drop,List.take,List.map,RN.aJ,Act.put,List.setIfInBounds_toArray,List.set_cons_succ,List.set_cons_zero,Nat.reduceAdd];rw [e0,e1,e2,e3,e4,e5,e6,e7,e8,e9];have Gq:Bx wa w.heap.size 77 #[.string ⟨sd.toArray⟩,.string ⟨sr.toArray⟩]:=e10;have BB2:Bx wa (w.heap.size+1) 77 #[.string ⟨sc.toArray⟩,.string ⟨ss.toArray⟩]:=e11;have hb2:=hba.1 hb;clear hb BA BB a1 b1;go_wp2
             go_step3
             refine⟨rfl,⟨d,r,c,s,(-1),sd,sr,sc,ss,rfl,rfl,rfl,rfl,rfl,rfl,.inr rfl,hdr.1,hcs.1,⟨⟨hst.out.2.1,Uj.out,hst.out.2.2.2,ess.out⟩⟩,hnew,⟨?_⟩,?_,?_,hb2⟩,?_⟩
             · have h1:=hs.out;rw [hval.out]at h1;rw [←h1];omega
             · exact Gq
             · exact BB2
             · rw[tV (d:=r) hdr.1 Uj.out (Gq.cell 1 rfl),tV (d:=d) hd0 hst.out.2.1 hA1.out];exact hdr.2
         · skip
           go_wp2_with fail;refine RN.au (N:=NC w.heap.size (w.heap.size+1) #[.string ⟨sn.toArray⟩,.string ⟨sd.toArray⟩] #[.string ⟨sm.toArray⟩,.string ⟨sc.toArray⟩]) (bU w w.heap.size (w.heap.size+1) #[.string ⟨sd.toArray⟩,.string ⟨sr.toArray⟩] #[.string ⟨sc.toArray⟩,.string ⟨ss.toArray⟩]) [RN.ak (.pointer (some ⟨w.heap.size,1,none⟩)),RN.ak (.string ⟨sd.toArray⟩),RN.ak (.string ⟨sr.toArray⟩),RN.ak (.agg #[.string ⟨sd.toArray⟩,.string ⟨sr.toArray⟩]),RN.ak (.pointer (some ⟨(w.heap.size+1),1,none⟩)),RN.ak (.string ⟨sc.toArray⟩),RN.ak (.string ⟨ss.toArray⟩),RN.ak (.agg #[.string ⟨sc.toArray⟩,.string ⟨ss.toArray⟩]),RN.ak (.int .i64 (-1)),RN.ak (.int .i64 1),RX w.heap.size #[.string ⟨sd.toArray⟩,.string ⟨sr.toArray⟩],RX (w.heap.size+1) #[.string ⟨sc.toArray⟩,.string ⟨ss.toArray⟩]] 12 74 (by kernel_rfl) rfl rfl (by kernel_rfl) ?_ ?_ ?_ ?_
           · simp only[RN.aY]
             and_intros <;> first|exact RN.aB _|exact fun _ _ _ h k=>k.2.1 h|exact fun _ _ _ h k=>k.2.2 h|trivial
           · exact fun j=>⟨fun _=>BA,fun _=>BB⟩
           · simp only[RN.Users,List.take,List.length];refine ⟨?_,?_,?_,?_,?_,?_,?_,?_,?_,?_,?_,?_,trivial⟩;all_goals (intro vs w2 hb2 hd hn;simp only[RN.aJ,Act.put,List.nil_append,List.cons_append,List.setIfInBounds_toArray,List.set_cons_succ,List.set_cons_zero,Nat.reduceAdd])
             · clear hd hn;go_wp2;exact⟨⟨(bU w w.heap.size (w.heap.size+1) #[.string ⟨sd.toArray⟩,.string ⟨sr.toArray⟩] #[.string ⟨sc.toArray⟩,.string ⟨ss.toArray⟩]).refl _,fun _ _ h=>h⟩,rfl⟩
             · have e0:vs 0=_:=hd 0 rfl;have a1':=((hn 10 (by decide) (by kernel_rfl)).1 rfl).cell 1 rfl;clear hd hn;rw[e0];go_wp2;exact⟨⟨(bU w w.heap.size (w.heap.size+1) #[.string ⟨sd.toArray⟩,.string ⟨sr.toArray⟩] #[.string ⟨sc.toArray⟩,.string ⟨ss.toArray⟩]).refl _,fun _ _ h=>h⟩,rfl⟩
             · clear hd hn;go_wp2;exact⟨⟨(bU w w.heap.size (w.heap.size+1) #[.string ⟨sd.toArray⟩,.string ⟨sr.toArray⟩] #[.string ⟨sc.toArray⟩,.string ⟨ss.toArray⟩]).refl _,fun _ _ h=>h⟩,rfl⟩
             · have e0:vs 1=_:=hd 1 rfl;have e1:vs 2=_:=hd 2 rfl;clear hd hn;rw[e0,e1];go_wp2;exact⟨⟨(bU w w.heap.size (w.heap.size+1) #[.string ⟨sd.toArray⟩,.string ⟨sr.toArray⟩] #[.string ⟨sc.toArray⟩,.string ⟨ss.toArray⟩]).refl _,fun _ _ h=>h⟩,rfl⟩
             · clear hd hn;go_wp2;exact⟨⟨(bU w w.heap.size (w.heap.size+1) #[.string ⟨sd.toArray⟩,.string ⟨sr.toArray⟩] #[.string ⟨sc.toArray⟩,.string ⟨ss.toArray⟩]).refl _,fun _ _ h=>h⟩,rfl⟩
             · have e0:vs 4=_:=hd 4 rfl;have b1':=((hn 11 (by decide) (by kernel_rfl)).2 rfl).cell 1 rfl;clear hd hn;rw[e0];go_wp2;exact⟨⟨(bU w w.heap.size (w.heap.size+1) #[.string ⟨sd.toArray⟩,.string ⟨sr.toArray⟩] #[.string ⟨sc.toArray⟩,.string ⟨ss.toArray⟩]).refl _,fun _ _ h=>h⟩,rfl⟩
             · clear hd hn;go_wp2;exact⟨⟨(bU w w.heap.size (w.heap.size+1) #[.string ⟨sd.toArray⟩,.string ⟨sr.toArray⟩] #[.string ⟨sc.toArray⟩,.string ⟨ss.toArray⟩]).refl _,fun _ _ h=>h⟩,rfl⟩
             · have e0:vs 5=_:=hd 5 rfl;have e1:vs 6=_:=hd 6 rfl;clear hd hn;rw[e0,e1];go_wp2;exact⟨⟨(bU w w.heap.size (w.heap.size+1) #[.string ⟨sd.toArray⟩,.string ⟨sr.toArray⟩] #[.string ⟨sc.toArray⟩,.string ⟨ss.toArray⟩]).refl _,fun _ _ h=>h⟩,rfl⟩
             · clear hd hn;go_wp2;exact⟨⟨(bU w w.heap.size (w.heap.size+1) #[.string ⟨sd.toArray⟩,.string ⟨sr.toArray⟩] #[.string ⟨sc.toArray⟩,.string ⟨ss.toArray⟩]).refl _,fun _ _ h=>h⟩,rfl⟩
             · have e0:vs 8=_:=hd 8 rfl;clear hd hn;rw[e0];go_wp2;exact⟨⟨(bU w w.heap.size (w.heap.size+1) #[.string ⟨sd.toArray⟩,.string ⟨sr.toArray⟩] #[.string ⟨sc.toArray⟩,.string ⟨ss.toArray⟩]).refl _,fun _ _ h=>h⟩,rfl⟩
             · have e0:vs 3=_:=hd 3 rfl;have hX:=(hn 10 (by decide) (by kernel_rfl)).1 rfl;have x0:=hX.cell 0 rfl;have x1:=hX.cell 1 rfl;have f0:=hX.frozen 0;have f1:=hX.frozen 1
               have hY:Bx ((w2.setCell ⟨w.heap.size,0,none⟩ (.string ⟨sd.toArray⟩)).setCell ⟨w.heap.size,1,none⟩ (.string ⟨sr.toArray⟩)) w.heap.size 77 #[.string ⟨sd.toArray⟩,.string ⟨sr.toArray⟩]:=by
                have:=(hX.set 0 (.string ⟨sd.toArray⟩)).set 1 (.string ⟨sr.toArray⟩);simpa using this
               have hF:∀ {cs:Array Value},Bx w2 (w.heap.size+1) 77 cs->Bx ((w2.setCell ⟨w.heap.size,0,none⟩ (.string ⟨sd.toArray⟩)).setCell ⟨w.heap.size,1,none⟩ (.string ⟨sr.toArray⟩)) (w.heap.size+1) 77 cs:=fun h=>(h.far (p:=⟨w.heap.size,0,none⟩) (fun e=>hAB.out e.symm) _).far (p:=⟨w.heap.size,1,none⟩) (fun e=>hAB.out e.symm) _
               have hW:Below w.heap.size w w2->Below w.heap.size w ((w2.setCell ⟨w.heap.size,0,none⟩ (.string ⟨sd.toArray⟩)).setCell ⟨w.heap.size,1,none⟩ (.string ⟨sr.toArray⟩)):=fun h=>(h.setCell (p:=⟨w.heap.size,0,none⟩) ML.out _).setCell (p:=⟨w.heap.size,1,none⟩) ML.out _
               rw[e0];clear hd hn e0 hX;go_wp2;exact ⟨⟨⟨hW,fun _=>hY,hF⟩,fun j hj hN=>⟨fun e=>absurd e hj,fun e=>hF (hN.2 e)⟩⟩,hY⟩
             · have e0:vs 7=_:=hd 7 rfl;have hX:=(hn 11 (by decide) (by kernel_rfl)).2 rfl;have x0:=hX.cell 0 rfl;have x1:=hX.cell 1 rfl;have f0:=hX.frozen 0;have f1:=hX.frozen 1
               have hY:Bx ((w2.setCell ⟨(w.heap.size+1),0,none⟩ (.string ⟨sc.toArray⟩)).setCell ⟨(w.heap.size+1),1,none⟩ (.string ⟨ss.toArray⟩)) (w.heap.size+1) 77 #[.string ⟨sc.toArray⟩,.string ⟨ss.toArray⟩]:=by
                have:=(hX.set 0 (.string ⟨sc.toArray⟩)).set 1 (.string ⟨ss.toArray⟩);simpa using this
               have hF:∀ {cs:Array Value},Bx w2 w.heap.size 77 cs->Bx ((w2.setCell ⟨(w.heap.size+1),0,none⟩ (.string ⟨sc.toArray⟩)).setCell ⟨(w.heap.size+1),1,none⟩ (.string ⟨ss.toArray⟩)) w.heap.size 77 cs:=fun h=>(h.far (p:=⟨(w.heap.size+1),0,none⟩) (hAB.out) _).far (p:=⟨(w.heap.size+1),1,none⟩) (hAB.out) _
               have hW:Below w.heap.size w w2->Below w.heap.size w ((w2.setCell ⟨(w.heap.size+1),0,none⟩ (.string ⟨sc.toArray⟩)).setCell ⟨(w.heap.size+1),1,none⟩ (.string ⟨ss.toArray⟩)):=fun h=>(h.setCell (p:=⟨(w.heap.size+1),0,none⟩) MK.out _).setCell (p:=⟨(w.heap.size+1),1,none⟩) MK.out _
               rw[e0];clear hd hn e0 hX;go_wp2;exact ⟨⟨⟨hW,hF,fun _=>hY⟩,fun j hj hN=>⟨fun e=>hF (hN.1 e),fun e=>absurd e hj⟩⟩,hY⟩
           · intro vs wa hba hR2;simp only[RN.bP,RN.ak]at hR2;obtain ⟨e0,e1,e2,e3,e4,e5,e6,e7,e8,e9,e10,e11,-⟩:=hR2;simp only[List.drop,List.take,List.map,RN.aJ,Act.put,List.setIfInBounds_toArray,List.set_cons_succ,List.set_cons_zero,Nat.reduceAdd];rw [e0,e1,e2,e3,e4,e5,e6,e7,e8,e9];have Gq:Bx wa w.heap.size 77 #[.string ⟨sd.toArray⟩,.string ⟨sr.toArray⟩]:=e10;have BB2:Bx wa (w.heap.size+1) 77 #[.string ⟨sc.toArray⟩,.string ⟨ss.toArray⟩]:=e11;have hb2:=hba.1 hb;clear hb BA BB a1 b1;go_wp2
             go_step3
             refine⟨rfl,⟨d,r,c,s,1,sd,sr,sc,ss,rfl,rfl,rfl,rfl,rfl,rfl,.inl rfl,hdr.1,hcs.1,⟨⟨hst.out.2.1,Uj.out,hst.out.2.2.2,ess.out⟩⟩,hnew,⟨?_⟩,?_,?_,hb2⟩,?_⟩
             · have h1:=hs.out;rw [hval.out]at h1;rw [←h1];omega
             · exact Gq
             · exact BB2
             · rw[tV (d:=r) hdr.1 Uj.out (Gq.cell 1 rfl),tV (d:=d) hd0 hst.out.2.1 hA1.out];exact hdr.2
   · rw[tu hpq]at zM;have hval:=Kp.mk (hgt hpq);clear hlt hgt h00 Ij hr0 htn hsd hsc tr ts hpq hv;go_wp2_with fail;refine (zM _).mono ?_;rintro _ w3 ⟨rfl,hb1⟩;replace hb:=ah hb hb1;replace BA:=BA.call hb1;replace BB:=BB.call hb1;clear hb1 zM
     rcases hsg with rfl|rfl
     all_goals
      go_wp2;simp only[Exit.jump];go_ret;exact ⟨bQ (by have:=hs.out;rw[hval.out]at this;omega),hb⟩
end Go.Proofs.YtohgjenaclfegaaGreatDoor

import Derived.Test.YtelljijajgiabaaGreatDoorQ27
import Derived.Test.YtelljijajgiabaaGreatDoorW02
set_option linter.unusedVariables false
set_option linter.unusedSimpArgs false
set_option maxRecDepth 100000
set_option maxHeartbeats 8000000
namespace Go.Proofs.YtelljijajgiabaaGreatDoor
open Go.RowKit Go.Shelf
theorem fraudBounded_any (x0 x1 x2 x3 x4:Int) (y:List Tf.X4) (A:Option Addr) (cap:Nat) (number first:Int) (w:World) (h0:I64 x0) (h1:I64 x1) (h2:I64 x2) (h3:I64 x3) (h4:I64 x4) (hA:At 4 x4C w w.heap.size A y) (hn:y.length<=cap) (hlen:y.length<=maxLen) (hy:∀q∈y,I64 q.a/\I64 q.b/\I64 q.c/\I64 q.d) (hnum:I64 number) (hfirst:I64 first) (hE:Env w) :
 Calls Tryz.prog 5 #[.agg #[.int .i64 x0,.int .i64 x1,.int .i64 x2,.int .i64 x3,.int .i64 x4],.slice A y.length cap,.int .i64 number,.int .i64 first] w fun e w'=>e=.returned (.bool true)/\Below w.heap.size w w':=by
 obtain⟨⟨c,e,lo,re,pay⟩,hr⟩:=exK (Tf.madeR (Tb.cN x0 x1) (Tb.cD x0 x1) x2 x3 x4);have hMR:=fun w0=>madeRules_any x0 x1 x2 x3 x4 w0 h0 h1 h2 h3 h4 _ hr
 dsimp only at hMR;have e1:=Tb.cD_in x0 x1;have e2:=Tb.cN_in x0 x1;obtain ⟨hok,l20,r20,c1,p9⟩:=Tf.madeR_ok x2 x3 x4 e1.1 e1.2 e2.1 e2.2;rw [hr.out]at hok l20 r20 c1 p9;dsimp only at l20 r20 c1 p9;have hru:ruB c e lo re pay=true:=ruB_iff.2 hok;have lo1:=hok.l1;have re1:=hok.r1;have pay0:=hok.p0;dsimp only at lo1 re1 pay0;clear e1 e2 hr;obtain ⟨L,hL⟩:=exK (Tf.genH (bnd e) ⟨c,e,lo,re,pay⟩ (y.take 8)).1;have hMd:Kp (Tf.Made (InB c e) ⟨c,e,lo,re,pay⟩ L):=⟨hL.out ▸ holds_made hok l20 r20 y⟩
 have hVR:Kp (VaR ⟨c,e,lo,re,pay⟩ L):=⟨⟨hok,hMd.out.va⟩⟩
 have hva:vaB ⟨c,e,lo,re,pay⟩ L=true:=vaB_t hVR.out;have hHo:=fun w0 (hA0:At 4 x4C w0 w0.heap.size A y)=>holds_ok c e lo re pay y A cap w0 hok l20 r20 hA0 hn hlen hy L hL
 have hL8:=hMd.out.len;have hokK:=Kp.mk hok;clear hok;have hN:=fun w0=>l36_any number 3 (by decide) hnum w0
 have hF:=fun w0=>l36_any first 300 (by decide) hfirst w0
 have n01:=Tp.pick_lt number (show (0:Int)<3 by decide);have f01:=Tp.pick_lt first (show (0:Int)<300 by decide)
 generalize Tp.pick number 3=pn at *;generalize Tp.pick first 300=fr at *
 obtain⟨n0,n1⟩:=n01;obtain ⟨fr0,fr1⟩:=f01;have hBd:Kp ((Tf.cnt (Tf.held ⟨c,e,lo,re,pay⟩ L (5+pn)) fr (lo+re).toNat:Int)<=lo):=⟨Tf.bounded (r:=⟨c,e,lo,re,pay⟩) (5+pn) fr (by dsimp only;omega) (by dsimp only;omega) hMd.out.va.nx hMd.out.sp⟩
 have hEn:=fun (i:Nat) (hi:i<L.length) w0 hE0=>ends_ok hru (made_fm hMd.out (List.getElem_mem hi)) w0 hE0
 have hfb:=Kp.mk fun (i:Nat) (hi:i<L.length)=>And.intro (hMd.out.f0 _ (List.getElem_mem hi)) (hMd.out.sp _ (List.getElem_mem hi))
 clear hnum hfirst hMd;clear h0 h1 h2 h3 h4 hL
 suffices hgen:∀w1:World,SE w w1->Calls Tryz.prog 5 #[.agg #[.int .i64 x0,.int .i64 x1,.int .i64 x2,.int .i64 x3,.int .i64 x4],.slice A y.length cap,.int .i64 number,.int .i64 first] w1 fun e w'=>e=.returned (.bool true)/\Below w.heap.size w w' from hgen w ⟨bStart w,hE⟩
 intro w1 st
 go_enter Tryz.func5,Tryz.ntmps5
 go_upto_region 1 with fail;have oX:=st.bl.size;have BX:=Bx.mk w1 22 #[.int .i64 x0,.int .i64 x1,.int .i64 x2,.int .i64 x3,.int .i64 x4];replace st:=st.call (bNewW w1 (.cells #[.int .i64 x0,.int .i64 x1,.int .i64 x2,.int .i64 x3,.int .i64 x4] 22));have lX:=BX.lt;generalize w1.alloc (.cells #[.int .i64 x0,.int .i64 x1,.int .i64 x2,.int .i64 x3,.int .i64 x4] 22)=w2 at *;generalize w1.heap.size=gX at *;go_wp2_with fail;refine (fsane_any _ st.env).mono ?_;rintro _ w3 ⟨rfl,hb1⟩;replace st:=st.call hb1;replace BX:=BX.call hb1;clear hb1;obtain ⟨cX0,cX1,cX2,cX3,cX4⟩:=BX.p5;go_wp2_with fail;refine (hMR _).mono ?_;rintro _ w4 ⟨rfl,hb1⟩;replace st:=st.call hb1;replace BX:=BX.call hb1;clear hb1;clear cX0 cX1 cX2 cX3 cX4;go_upto_region 5 with fail;have oR:=st.bl.size;have dXR:=BX.lt;replace BX:=BX.new (.cells #[.int .i64 c,.int .i64 e,.int .i64 lo,.int .i64 re,.int .i64 pay] 31);have BR:=Bx.mk w4 31 #[.int .i64 c,.int .i64 e,.int .i64 lo,.int .i64 re,.int .i64 pay];replace st:=st.call (bNewW w4 (.cells #[.int .i64 c,.int .i64 e,.int .i64 lo,.int .i64 re,.int .i64 pay] 31));have lR:=BR.lt;generalize w4.alloc (.cells #[.int .i64 c,.int .i64 e,.int .i64 lo,.int .i64 re,.int .i64 pay] 31)=w5 at *;generalize w4.heap.size=gR at *;clear hMR;obtain ⟨cR0,cR1,cR2,cR3,cR4⟩:=BR.p5;go_wp2_with fail;refine (hHo _ ((hA.below st.bl).more st.bl.size)).mono ?_;rintro _ w6 ⟨⟨LA,lcap,rfl,hLL,hcm⟩,hb1⟩;replace st:=st.call hb1;replace BX:=BX.call hb1;replace BR:=BR.call hb1;clear hb1;clear cR0 cR1 cR2 cR3 cR4;clear hHo hA hn hlen hy BX lX dXR;go_wp2_with fail
 go_loopw [12] (fun s12 wr=>∃i:Nat,i<=L.length/\s12=.int .i64 i/\SE w wr/\Bx wr gR 31 #[.int .i64 c,.int .i64 e,.int .i64 lo,.int .i64 re,.int .i64 pay]/\HoA wr LA lcap L) (fun s12 _=>L.length-(intOf s12).toNat)
 case atStart=>exact⟨0,Nat.zero_le _,rfl,st,BR,hLL⟩
 case round =>
  clear st BR hLL;obtain ⟨i,hi,rfl,st,BR,hLL⟩:=hrel;by_cases hlt:i<L.length
  case pos =>
   obtain⟨b,off,rfl,hcl⟩:=hLL.cells hlt;have kE:=fun d os=>hEn i hlt (Sort.grow (redrawn wr d) os) (st.env.below (below_regrown wr d os))
   obtain⟨⟨f0,f2⟩,hs1,hs2⟩:=hfb.out i hlt;dsimp only at hs2;clear hN hF hBd;generalize Tf.fin ⟨c,e,lo,re,pay⟩ L[i]=fi at *;generalize L[i]=h at *;have hc0:=fun w2 h2=>hcl w2 h2 0 _ rfl
   have hc1:=fun w2 h2=>hcl w2 h2 1 _ rfl
   have hc2:=fun w2 h2=>hcl w2 h2 2 _ rfl
   have hc3:=fun w2 h2=>hcl w2 h2 3 _ rfl
   have hc4:=fun w2 h2=>hcl w2 h2 4 _ rfl
   have hc5:=fun w2 h2=>hcl w2 h2 5 _ rfl
   simp only[Nat.add_zero]at hc0;clear hcl;generalize h.n=n' at *;generalize h.f=f' at *;generalize h.b.1=b1' at *;generalize h.b.2=b2' at *;generalize h.v=v' at *;generalize h.d=d' at *;have q0:=fun d os=>hc0 _ (below_regrown wr d os)
   have q1:=fun d os=>hc1 _ (below_regrown wr d os)
   have q2:=fun d os=>hc2 _ (below_regrown wr d os)
   have q3:=fun d os=>hc3 _ (below_regrown wr d os)
   have q4:=fun d os=>hc4 _ (below_regrown wr d os)
   have q5:=fun d os=>hc5 _ (below_regrown wr d os)
   have r0:=fun d os=>(BR.again d os).cell 0 rfl
   have r1:=fun d os=>(BR.again d os).cell 1 rfl
   have r2:=fun d os=>(BR.again d os).cell 2 rfl
   have r3:=fun d os=>(BR.again d os).cell 3 rfl
   have r4:=fun d os=>(BR.again d os).cell 4 rfl
   go_wp2_with fail;refine wp_region_quiet_below (by kernel_rfl) (by kernel_rfl) ?_
   repeat (go_big_quiet_step (first
    | (go_at_call 29;with_reducible exact Calls.regrown_of (kE _ _))))
   refine wpQuiet_nil ?_;rintro _ ⟨q,rfl⟩;have hb1:=below_regrown wr q.d q.os;replace st:=st.call hb1;replace BR:=BR.call hb1;replace hLL:=hLL.call hb1;clear kE q0 q1 q2 q3 q4 q5 r0 r1 r2 r3 r4 hc0 hc2 hc3 hc4 hc5;generalize Sort.grow (redrawn wr q.d) q.os=w2 at *;have q1:=fun d os=>hc1 _ (bAgain hb1 d os)
   have r2:=fun d os=>(BR.again d os).cell 2 rfl
   have z1:decide (fi<f')=false:=decide_eq_false (by omega);have z2:decide (f'+lo<fi)=false:=decide_eq_false (by omega);go_wp2_with fail;refine wp_region_quiet_below (by kernel_rfl) (by kernel_rfl) ?_
   repeat (go_big_quiet_step (fail))
   refine wpQuiet_nil ?_;rintro _ ⟨q,rfl⟩;clear hb1 q1 r2 hc1 z1 z2;have hb1:=below_regrown w2 q.d q.os;replace st:=st.call hb1;replace BR:=BR.call hb1;replace hLL:=hLL.call hb1;clear hb1;generalize Sort.grow (redrawn w2 q.d) q.os=w3 at *;go_wp2;exact ⟨⟨i+1,by omega,by go_num,st,BR,hLL⟩,by simp[intOf] <;> omega⟩
  case neg =>
   obtain rfl:i=L.length:=by omega
   obtain⟨wo,rfl⟩:∃wo,wo=wr:=⟨_,rfl⟩
   clear hEn hfb;have hH:=fun tt w0 h0 hE0=>held_ok hVR.out LA lcap (5+pn) tt w0 h0 hE0
   go_wp2_with fail;refine (hF _).mono ?_;rintro _ _ ⟨rfl,rfl⟩;clear hF;go_wp2_with fail
   go_loopw [17,15] (fun s17 s15 wr=>∃(k cn:Nat) (tt:Int),k<=(lo+re).toNat/\Kp (tt=fr+k)/\Kp (Tf.cnt (Tf.held ⟨c,e,lo,re,pay⟩ L (5+pn)) fr k=cn)/\s17=.int .i64 tt/\s15=.int .i64 cn/\SE w wr/\Bx wr gR 31 #[.int .i64 c,.int .i64 e,.int .i64 lo,.int .i64 re,.int .i64 pay]/\HoA wr LA lcap L) (fun s17 _ _=>(lo+re).toNat-(intOf s17-fr).toNat)
   case atStart=>exact⟨0,0,fr,Nat.zero_le _,⟨by simp⟩,⟨rfl⟩,rfl,rfl,st,BR,hLL⟩
   case round =>
    clear st BR hLL;obtain ⟨k,cn,tt,hk,htt,hcn,rfl,rfl,st,BR,hLL⟩:=hrel
    have c40:cn<=40:=by
     have h:=Tf.cnt_le (Tf.held ⟨c,e,lo,re,pay⟩ L (5+pn)) fr k;rw [hcn.out]at h;omega
    have b1:fr<=tt:=by have:=htt.out;omega
    have b2:tt<=fr+40:=by have:=htt.out;omega
    by_cases hlt:k<(lo+re).toNat
    case pos =>
     have t9:decide (tt<fr+lo+re)=true:=decide_eq_true (by have:=htt.out;omega)
     have hnx:Kp (Tf.cnt (Tf.held ⟨c,e,lo,re,pay⟩ L (5+pn)) fr (k+1)=cn+if Tf.held ⟨c,e,lo,re,pay⟩ L (5+pn) tt then 1 else 0):=⟨by
      show Tf.cnt (Tf.held ⟨c,e,lo,re,pay⟩ L (5+pn)) fr k+(if Tf.held ⟨c,e,lo,re,pay⟩ L (5+pn) (fr+k) then 1 else 0)=_
      rw[hcn.out,htt.out]⟩
     have hme:(lo+re).toNat-(tt+1-fr).toNat<(lo+re).toNat-(tt-fr).toNat:=by have:=htt.out;omega
     have htn:Kp (tt+1=fr+((k+1:Nat):Int)):=⟨by have:=htt.out;omega⟩
     have kH:=fun d os=>hH tt (Sort.grow (redrawn wr d) os) (hLL.call (below_regrown wr d os)) (st.env.below (below_regrown wr d os))
     have kN:=fun d os=>calls_below (hN (Sort.grow (redrawn wr d) os))
     clear hBd hH hN hcn htt;generalize Tf.held ⟨c,e,lo,re,pay⟩ L (5+pn) tt=hb at *;have r0:=fun d os=>(BR.again d os).cell 0 rfl
     have r1:=fun d os=>(BR.again d os).cell 1 rfl
     have r2:=fun d os=>(BR.again d os).cell 2 rfl
     have r3:=fun d os=>(BR.again d os).cell 3 rfl
     have r4:=fun d os=>(BR.again d os).cell 4 rfl
     have e2:=BR.cell 2 rfl;have e3:=BR.cell 3 rfl;go_wp2_with fail;refine wp_region_quiet_below (by kernel_rfl) (by kernel_rfl) ?_
     repeat (go_big_quiet_step (first
      | (go_at_call 15;with_reducible exact Calls.regrown_of (kN _ _))
      | (go_at_call 21;with_reducible exact Calls.regrown_of (kH _ _))))
     refine wpQuiet_nil ?_;rintro _ ⟨q,rfl⟩;have hb1:=below_regrown wr q.d q.os;replace st:=st.call hb1;replace BR:=BR.call hb1;replace hLL:=hLL.call hb1;clear hb1 kH kN r0 r1 r2 r3 r4 e2 e3;generalize Sort.grow (redrawn wr q.d) q.os=w4 at *;cases hb
     all_goals
      go_wp2;exact ⟨⟨k+1,_,tt+1,by omega,htn,hnx,by go_num,by first|rfl|go_num,st,BR,hLL⟩,by simpa [intOf] using hme⟩
    case neg =>
     obtain rfl:k=(lo+re).toNat:=by omega
     have t9:decide (tt<fr+lo+re)=false:=decide_eq_false (by have:=htt.out;omega);have hle:decide ((cn:Int)<=lo)=true:=decide_eq_true (by have:=hBd.out;rw[hcn.out]at this;exact this);clear hBd hH hN hcn htt;have c0:=BR.cell 0 rfl;have c1':=BR.cell 1 rfl;have c2:=BR.cell 2 rfl;have c3:=BR.cell 3 rfl;have c4:=BR.cell 4 rfl;go_wp2_with fail;refine (valid_ok hVR.out LA lcap _ hLL st.env).mono ?_;rintro _ w5 ⟨rfl,hb1⟩;replace st:=st.call hb1;replace BR:=BR.call hb1;clear c0 c1' c2 c3 c4;have c2:=BR.cell 2 rfl;go_wp2;go_ret;exact ⟨by first|rfl|simp,st.bl⟩
end Go.Proofs.YtelljijajgiabaaGreatDoor

import Derived.Test.YtelljijajgiabaaGreatDoorQ27
import Derived.Test.YtelljijajgiabaaGreatDoorW02
set_option linter.unusedVariables false
set_option linter.unusedSimpArgs false
set_option maxRecDepth 100000
set_option maxHeartbeats 8000000
namespace Go.Proofs.YtelljijajgiabaaGreatDoor
open Go.RowKit Go.Shelf
theorem fraudFree_any (x0 x1 x2 x3 x4:Int) (y:List Tf.X4) (A:Option Addr) (cap:Nat) (number t what:Int) (w:World) (h0:I64 x0) (h1:I64 x1) (h2:I64 x2) (h3:I64 x3) (h4:I64 x4) (hA:At 4 x4C w w.heap.size A y) (hn:y.length<=cap) (hlen:y.length<=maxLen) (hy:∀q∈y,I64 q.a/\I64 q.b/\I64 q.c/\I64 q.d) (hnum:I64 number) (ht:I64 t) (hwhat:I64 what) (hE:Env w) :
 Calls Tryz.prog 7 #[.agg #[.int .i64 x0,.int .i64 x1,.int .i64 x2,.int .i64 x3,.int .i64 x4],.slice A y.length cap,.int .i64 number,.int .i64 t,.int .i64 what] w fun e w'=>e=.returned (.bool true)/\Below w.heap.size w w':=by
 obtain⟨⟨c,e,lo,re,pay⟩,hr⟩:=exK (Tf.madeR (Tb.cN x0 x1) (Tb.cD x0 x1) x2 x3 x4);have hMR:=fun w0=>madeRules_any x0 x1 x2 x3 x4 w0 h0 h1 h2 h3 h4 _ hr
 dsimp only at hMR;have e1:=Tb.cD_in x0 x1;have e2:=Tb.cN_in x0 x1;obtain ⟨hok,l20,r20,c1,p9⟩:=Tf.madeR_ok x2 x3 x4 e1.1 e1.2 e2.1 e2.2;rw [hr.out]at hok l20 r20 c1 p9;dsimp only at l20 r20 c1 p9;have hru:ruB c e lo re pay=true:=ruB_iff.2 hok;have lo1:=hok.l1;have re1:=hok.r1;have pay0:=hok.p0;dsimp only at lo1 re1 pay0;clear e1 e2 hr;obtain ⟨L,hL⟩:=exK (Tf.genH (bnd e) ⟨c,e,lo,re,pay⟩ (y.take 8)).1;have hMd:Kp (Tf.Made (InB c e) ⟨c,e,lo,re,pay⟩ L):=⟨hL.out ▸ holds_made hok l20 r20 y⟩
 have hVR:Kp (VaR ⟨c,e,lo,re,pay⟩ L):=⟨⟨hok,hMd.out.va⟩⟩
 have hva:vaB ⟨c,e,lo,re,pay⟩ L=true:=vaB_t hVR.out;have hHo:=fun w0 (hA0:At 4 x4C w0 w0.heap.size A y)=>holds_ok c e lo re pay y A cap w0 hok l20 r20 hA0 hn hlen hy L hL
 have hL8:=hMd.out.len;have hokK:=Kp.mk hok;clear hok;have hN:=fun w0=>l36_any number 5 (by decide) hnum w0
 have hT:=fun w0=>l36_any t 300 (by decide) ht w0
 have n01:=Tp.pick_lt number (show (0:Int)<5 by decide);have t01:=Tp.pick_lt t (show (0:Int)<300 by decide);generalize Tp.pick number 5=pn at *;generalize Tp.pick t 300=at_ at *;obtain ⟨n0,n1⟩:=n01;obtain ⟨t0,t1⟩:=t01;have hEn:=fun (i:Nat) (hi:i<L.length) w0 hE0=>ends_ok hru (made_fm hMd.out (List.getElem_mem hi)) w0 hE0
 have hfb:=Kp.mk fun (i:Nat) (hi:i<L.length)=>And.intro (hMd.out.f0 _ (List.getElem_mem hi)) (hMd.out.sp _ (List.getElem_mem hi))
 clear h0 h1 h2 h3 h4 hL
 suffices hgen:∀w1:World,SE w w1->Calls Tryz.prog 7 #[.agg #[.int .i64 x0,.int .i64 x1,.int .i64 x2,.int .i64 x3,.int .i64 x4],.slice A y.length cap,.int .i64 number,.int .i64 t,.int .i64 what] w1 fun e w'=>e=.returned (.bool true)/\Below w.heap.size w w' from hgen w ⟨bStart w,hE⟩
 intro w1 st
 go_enter Tryz.func7,Tryz.ntmps7
 go_upto_region 1 with fail;have oX:=st.bl.size;have BX:=Bx.mk w1 22 #[.int .i64 x0,.int .i64 x1,.int .i64 x2,.int .i64 x3,.int .i64 x4];replace st:=st.call (bNewW w1 (.cells #[.int .i64 x0,.int .i64 x1,.int .i64 x2,.int .i64 x3,.int .i64 x4] 22));have lX:=BX.lt;generalize w1.alloc (.cells #[.int .i64 x0,.int .i64 x1,.int .i64 x2,.int .i64 x3,.int .i64 x4] 22)=w2 at *;generalize w1.heap.size=gX at *;go_wp2_with fail;refine (fsane_any _ st.env).mono ?_;rintro _ w3 ⟨rfl,hb1⟩;replace st:=st.call hb1;replace BX:=BX.call hb1;clear hb1;obtain ⟨cX0,cX1,cX2,cX3,cX4⟩:=BX.p5;go_wp2_with fail;refine (hMR _).mono ?_;rintro _ w4 ⟨rfl,hb1⟩;replace st:=st.call hb1;replace BX:=BX.call hb1;clear hb1;clear cX0 cX1 cX2 cX3 cX4;go_upto_region 5 with fail;have oR:=st.bl.size;have dXR:=BX.lt;replace BX:=BX.new (.cells #[.int .i64 c,.int .i64 e,.int .i64 lo,.int .i64 re,.int .i64 pay] 31);have BR:=Bx.mk w4 31 #[.int .i64 c,.int .i64 e,.int .i64 lo,.int .i64 re,.int .i64 pay];replace st:=st.call (bNewW w4 (.cells #[.int .i64 c,.int .i64 e,.int .i64 lo,.int .i64 re,.int .i64 pay] 31));have lR:=BR.lt;generalize w4.alloc (.cells #[.int .i64 c,.int .i64 e,.int .i64 lo,.int .i64 re,.int .i64 pay] 31)=w5 at *;generalize w4.heap.size=gR at *;clear hMR;obtain ⟨cR0,cR1,cR2,cR3,cR4⟩:=BR.p5;go_wp2_with fail;refine (hHo _ ((hA.below st.bl).more st.bl.size)).mono ?_;rintro _ w6 ⟨⟨LA,lcap,rfl,hLL,hcm⟩,hb1⟩;replace st:=st.call hb1;replace BX:=BX.call hb1;replace BR:=BR.call hb1;clear hb1;clear cR0 cR1 cR2 cR3 cR4;clear hHo hA hn hlen hy BX lX dXR;go_wp2_with fail;refine (hN _).mono ?_;rintro _ _ ⟨rfl,rfl⟩;clear hN;go_wp2_with fail;refine (hT _).mono ?_;rintro _ _ ⟨rfl,rfl⟩;clear hT;go_wp2_with fail
 go_loopw [17,16] (fun s17 s16 wr=>∃i:Nat,i<=L.length/\s17=.int .i64 i/\s16=.bool (Tf.held ⟨c,e,lo,re,pay⟩ (L.take i) (4+pn) at_)/\SE w wr/\Bx wr gR 31 #[.int .i64 c,.int .i64 e,.int .i64 lo,.int .i64 re,.int .i64 pay]/\HoA wr LA lcap L) (fun s17 _ _=>L.length-(intOf s17).toNat)
 case atStart=>exact⟨0,Nat.zero_le _,rfl,rfl,st,BR,hLL⟩
 case round =>
  clear st BR hLL;obtain ⟨i,hi,rfl,rfl,st,BR,hLL⟩:=hrel;by_cases hlt:i<L.length
  case pos =>
   obtain⟨b,off,rfl,hcl⟩:=hLL.cells hlt;have hnew:Kp (Tf.held ⟨c,e,lo,re,pay⟩ (L.take (i+1)) (4+pn) at_=(Tf.held ⟨c,e,lo,re,pay⟩ (L.take i) (4+pn) at_||L[i].n==4+pn&&(decide (L[i].f<=at_)&&decide (at_<Tf.fin ⟨c,e,lo,re,pay⟩ L[i])))):=⟨Tf.held_take hlt _ _⟩
   have kE:=fun d os=>hEn i hlt (Sort.grow (redrawn wr d) os) (st.env.below (below_regrown wr d os))
   obtain⟨⟨f0,f2⟩,hs1,hs2⟩:=hfb.out i hlt;dsimp only at hs2;generalize Tf.held ⟨c,e,lo,re,pay⟩ (L.take i) (4+pn) at_=hb at *;obtain ⟨hb',hbe⟩:=exK (Tf.held ⟨c,e,lo,re,pay⟩ (L.take (i+1)) (4+pn) at_);rw [hbe.out]at hnew;generalize Tf.fin ⟨c,e,lo,re,pay⟩ L[i]=fi at *;generalize L[i]=h at *;have hc0:=fun w2 h2=>hcl w2 h2 0 _ rfl
   have hc1:=fun w2 h2=>hcl w2 h2 1 _ rfl
   have hc2:=fun w2 h2=>hcl w2 h2 2 _ rfl
   have hc3:=fun w2 h2=>hcl w2 h2 3 _ rfl
   have hc4:=fun w2 h2=>hcl w2 h2 4 _ rfl
   have hc5:=fun w2 h2=>hcl w2 h2 5 _ rfl
   simp only[Nat.add_zero]at hc0;clear hcl;generalize h.n=n' at *;generalize h.f=f' at *;generalize h.b.1=b1' at *;generalize h.b.2=b2' at *;generalize h.v=v' at *;generalize h.d=d' at *;have q0:=fun d os=>hc0 _ (below_regrown wr d os)
   have q1:=fun d os=>hc1 _ (below_regrown wr d os)
   have q2:=fun d os=>hc2 _ (below_regrown wr d os)
   have q3:=fun d os=>hc3 _ (below_regrown wr d os)
   have q4:=fun d os=>hc4 _ (below_regrown wr d os)
   have q5:=fun d os=>hc5 _ (below_regrown wr d os)
   have r0:=fun d os=>(BR.again d os).cell 0 rfl
   have r1:=fun d os=>(BR.again d os).cell 1 rfl
   have r2:=fun d os=>(BR.again d os).cell 2 rfl
   have r3:=fun d os=>(BR.again d os).cell 3 rfl
   have r4:=fun d os=>(BR.again d os).cell 4 rfl
   go_wp2_with fail;refine wp_region_quiet_below (by kernel_rfl) (by kernel_rfl) ?_
   repeat (go_big_quiet_step (first
    | (go_at_call 29;with_reducible exact Calls.regrown_of (kE _ _))))
   refine wpQuiet_nil ?_;rintro _ ⟨q,rfl⟩;have hb1:=below_regrown wr q.d q.os;have g0:=hc0 _ hb1;have g1:=hc1 _ hb1;replace st:=st.call hb1;replace BR:=BR.call hb1;replace hLL:=hLL.call hb1;clear hb1 kE q0 q1 q2 q3 q4 q5 r0 r1 r2 r3 r4 hc0 hc1 hc2 hc3 hc4 hc5;generalize Sort.grow (redrawn wr q.d) q.os=w2 at *
   have ways:(hb=true/\Kp (hb'=true))∨(hb=false/\(n'==4+pn)=false/\Kp (hb'=false))∨(hb=false/\(n'==4+pn)=true/\decide (f'<=at_)=false/\Kp (hb'=false))∨(hb=false/\(n'==4+pn)=true/\decide (f'<=at_)=true/\Kp (hb'=decide (at_<fi))):=by
    cases hb with
    | true=>exact .inl ⟨rfl,⟨by rw[hnew.out];rfl⟩⟩
    | false =>
     cases h1:(n'==4+pn) with
     | false=>exact .inr (.inl ⟨rfl,rfl,⟨by rw[hnew.out,h1];rfl⟩⟩)
     | true =>
      cases h2:decide (f'<=at_) with
      | false=>exact .inr (.inr (.inl ⟨rfl,rfl,rfl,⟨by rw[hnew.out,h1,h2];rfl⟩⟩))
      | true=>exact .inr (.inr (.inr ⟨rfl,rfl,rfl,⟨by rw[hnew.out,h1,h2];rfl⟩⟩))
   clear hnew
   rcases ways with ⟨rfl,hr⟩|⟨rfl,z1,hr⟩|⟨rfl,z1,z2,hr⟩|⟨rfl,z1,z2,hr⟩
   all_goals
    obtain rfl:=hr.out;clear hr;go_wp2;exact ⟨⟨i+1,by omega,by go_num,by rw[hbe.out],st,BR,hLL⟩,by simp[intOf] <;> omega⟩
  case neg =>
   obtain rfl:i=L.length:=by omega
   rw[List.take_length];have hH:=fun w0 h0 hE0=>held_ok hVR.out LA lcap (4+pn) at_ w0 h0 hE0
   have hB:=fun what w0 h0 hE0=>blocks_ok hVR.out LA lcap (4+pn) at_ what w0 h0 hE0
   generalize Tf.held ⟨c,e,lo,re,pay⟩ L (4+pn) at_=hd at *;have hB1:=hB 1;have hB2:=hB 2;have hB3:=hB 3;have hB4:=hB 4;have hBw:=hB what;simp only[show decide ((1:Int)=1)=true from rfl,show decide ((2:Int)=1)=false from rfl,show decide ((2:Int)=2)=true from rfl,show decide ((3:Int)=1)=false from rfl,show decide ((3:Int)=2)=false from rfl,show decide ((4:Int)=1)=false from rfl,show decide ((4:Int)=2)=false from rfl,Bool.true_or,Bool.false_or,Bool.true_and,Bool.false_and]at hB1 hB2 hB3 hB4
   have ways:∃ot,((decide (what=1)||decide (what=2))&&hd)=ot/\(ot=false∨(ot=true/\what=1)∨(ot=true/\(what==1)=false/\what=2)):=by
    refine⟨_,rfl,?_⟩
    cases hd with
    | false=>left;simp
    | true =>
     by_cases x1:what=1
     · right;left;exact⟨by simp[x1],x1⟩
     · by_cases x2:what=2
       · right;right;exact⟨by simp[x2],by simpa using x1,x2⟩
       · left;simp[x1,x2]
   obtain⟨ot,ho,ways⟩:=ways;rw [ho]at hBw;clear ho hB hEn hfb;have hne:(hd != hd)=false:=by simp
   have heq:(hd==hd)=true:=by simp
   obtain⟨cR0,cR1,cR2,cR3,cR4⟩:=BR.p5;go_wp2_with fail;refine (hH _ hLL st.env).mono ?_;rintro _ w20 ⟨rfl,hb1⟩;replace st:=st.call hb1;replace BR:=BR.call hb1;replace hLL:=hLL.call hb1;clear hb1 cR0 cR1 cR2 cR3 cR4;obtain ⟨cR0,cR1,cR2,cR3,cR4⟩:=BR.p5;go_wp2_with fail;refine (hB3 _ hLL st.env).mono ?_;rintro _ w21 ⟨rfl,hb1⟩;replace st:=st.call hb1;replace BR:=BR.call hb1;replace hLL:=hLL.call hb1;clear hb1 cR0 cR1 cR2 cR3 cR4;obtain ⟨cR0,cR1,cR2,cR3,cR4⟩:=BR.p5;go_wp2_with fail;refine (hB4 _ hLL st.env).mono ?_;rintro _ w22 ⟨rfl,hb1⟩;replace st:=st.call hb1;replace BR:=BR.call hb1;replace hLL:=hLL.call hb1;clear hb1 cR0 cR1 cR2 cR3 cR4;obtain ⟨cR0,cR1,cR2,cR3,cR4⟩:=BR.p5;go_wp2_with fail;refine (hBw _ hLL st.env).mono ?_;rintro _ w23 ⟨rfl,hb1⟩;replace st:=st.call hb1;replace BR:=BR.call hb1;replace hLL:=hLL.call hb1;clear hb1 cR0 cR1 cR2 cR3 cR4;obtain ⟨cR0,cR1,cR2,cR3,cR4⟩:=BR.p5;go_wp2_with fail;refine (hB1 _ hLL st.env).mono ?_;rintro _ w24 ⟨rfl,hb1⟩;replace st:=st.call hb1;replace BR:=BR.call hb1;replace hLL:=hLL.call hb1;clear hb1 cR0 cR1 cR2 cR3 cR4;cases hd
   case false =>
    obtain⟨cR0,cR1,cR2,cR3,cR4⟩:=BR.p5;go_wp2_with fail;refine (hB2 _ hLL st.env).mono ?_;rintro _ w25 ⟨rfl,hb1⟩;replace st:=st.call hb1;replace BR:=BR.call hb1;replace hLL:=hLL.call hb1;clear hb1 cR0 cR1 cR2 cR3 cR4;clear hB1 hB2 hB3 hB4 hBw hH
    rcases ways with rfl|⟨rfl,rfl⟩|⟨rfl,x1,rfl⟩
    all_goals
     go_wp2;go_ret;exact ⟨by simp,st.bl⟩
   case true =>
    obtain⟨cR0,cR1,cR2,cR3,cR4⟩:=BR.p5;go_wp2_with fail;refine (hB2 _ hLL st.env).mono ?_;rintro _ w25 ⟨rfl,hb1⟩;replace st:=st.call hb1;replace BR:=BR.call hb1;replace hLL:=hLL.call hb1;clear hb1 cR0 cR1 cR2 cR3 cR4;clear hB1 hB2 hB3 hB4 hBw hH
    rcases ways with rfl|⟨rfl,rfl⟩|⟨rfl,x1,rfl⟩
    all_goals
     go_wp2;go_ret;exact ⟨by simp,st.bl⟩
end Go.Proofs.YtelljijajgiabaaGreatDoor

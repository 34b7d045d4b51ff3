import Derived.Test.YtelljijajgiabaaGreatDoorQ27
import Derived.Test.YtelljijajgiabaaGreatDoorW02
set_option linter.unusedVariables false
set_option linter.unusedSimpArgs false
set_option maxRecDepth 100000
set_option maxHeartbeats 8000000
namespace Go.Proofs.YtelljijajgiabaaGreatDoor
open Go.RowKit Go.Shelf
theorem fraudMoves_any (x0 x1 x2 x3 x4:Int) (y:List Tf.X4) (A:Option Addr) (cap:Nat) (number t late:Int) (w:World) (h0:I64 x0) (h1:I64 x1) (h2:I64 x2) (h3:I64 x3) (h4:I64 x4) (hA:At 4 x4C w w.heap.size A y) (hn:y.length<=cap) (hlen:y.length<=maxLen) (hy:∀q∈y,I64 q.a/\I64 q.b/\I64 q.c/\I64 q.d) (hnum:I64 number) (ht:I64 t) (hlate:I64 late) (hE:Env w) :
 Calls Tryz.prog 10 #[.agg #[.int .i64 x0,.int .i64 x1,.int .i64 x2,.int .i64 x3,.int .i64 x4],.slice A y.length cap,.int .i64 number,.int .i64 t,.int .i64 late] w fun e w'=>e=.returned (.bool true)/\Below w.heap.size w w':=by
 obtain⟨⟨c,e,lo,re,pay⟩,hr⟩:=exK (Tf.madeR (Tb.cN x0 x1) (Tb.cD x0 x1) x2 x3 x4);have hMR:=fun w0=>madeRules_any x0 x1 x2 x3 x4 w0 h0 h1 h2 h3 h4 _ hr
 dsimp only at hMR;have e1:=Tb.cD_in x0 x1;have e2:=Tb.cN_in x0 x1;obtain ⟨hok,l20,r20,c1,p9⟩:=Tf.madeR_ok x2 x3 x4 e1.1 e1.2 e2.1 e2.2;rw [hr.out]at hok l20 r20 c1 p9;dsimp only at l20 r20 c1 p9;have hru:ruB c e lo re pay=true:=ruB_iff.2 hok;have lo1:=hok.l1;have re1:=hok.r1;have pay0:=hok.p0;dsimp only at lo1 re1 pay0;clear e1 e2 hr;obtain ⟨L,hL⟩:=exK (Tf.genH (bnd e) ⟨c,e,lo,re,pay⟩ (y.take 8)).1;have hMd:Kp (Tf.Made (InB c e) ⟨c,e,lo,re,pay⟩ L):=⟨hL.out ▸ holds_made hok l20 r20 y⟩
 have hVR:Kp (VaR ⟨c,e,lo,re,pay⟩ L):=⟨⟨hok,hMd.out.va⟩⟩
 have hva:vaB ⟨c,e,lo,re,pay⟩ L=true:=vaB_t hVR.out;have hHo:=fun w0 (hA0:At 4 x4C w0 w0.heap.size A y)=>holds_ok c e lo re pay y A cap w0 hok l20 r20 hA0 hn hlen hy L hL
 have hL8:=hMd.out.len;have hokK:=Kp.mk hok;clear hok;have hN:=fun w0=>l36_any number 3 (by decide) hnum w0
 have hT:=fun w0=>l36_any t 300 (by decide) ht w0
 have hB:=fun w0=>l36_any late 100000 (by decide) hlate w0
 have n01:=Tp.pick_lt number (show (0:Int)<3 by decide);have t01:=Tp.pick_lt t (show (0:Int)<300 by decide);have b01:=Tp.pick_lt late (show (0:Int)<100000 by decide);generalize Tp.pick number 3=pn at *;generalize Tp.pick t 300=at_ at *;generalize Tp.pick late 100000=bb at *;obtain ⟨n0,n1⟩:=n01;obtain ⟨t0,t1⟩:=t01;obtain ⟨bb0,bb1⟩:=b01;have hmv:Tf.Va (InB c e) ⟨c,e,lo,re,pay⟩ (L.map (Tf.later bb)):=hMd.out.moved bb0 bb1;have hvm:Kp (VaR ⟨c,e,lo,re,pay⟩ (L.map (Tf.later bb))):=⟨⟨hokK.out,hmv⟩⟩
 have hOw:=fun (i:Nat) (hi:i<L.length) w0 hE0=>owed_ok hru (made_fm hMd.out (List.getElem_mem hi)) w0 hE0
 have hOm:∀(i:Nat) (hi:i<L.length) w0,Env w0->_:=fun i hi w0 hE0=>owed_ok (g:=Tf.later bb L[i]) hru ⟨fmB_t (hmv.fm _ (List.mem_map.2 ⟨_,List.getElem_mem hi,rfl⟩)),inB_len (hmv.fm _ (List.mem_map.2 ⟨_,List.getElem_mem hi,rfl⟩)).b⟩ w0 hE0
 simp only[Tf.owed_later]at hOm;have hfb:=Kp.mk fun (i:Nat) (hi:i<L.length)=>And.intro (hMd.out.f0 _ (List.getElem_mem hi)) (hMd.out.d0 _ (List.getElem_mem hi))
 have hh1:=fun nn tt=>Tf.held_later ⟨c,e,lo,re,pay⟩ L bb nn tt
 have hh2:=fun nn=>Tf.later_first (r:=⟨c,e,lo,re,pay⟩) (l:=L) (s:=bb) (n:=nn) (fun g hg=>(hMd.out.f0 g hg).1)
 clear hnum ht hlate hMd hmv;clear h0 h1 h2 h3 h4 hL
 suffices hgen:∀w1:World,SE w w1->Calls Tryz.prog 10 #[.agg #[.int .i64 x0,.int .i64 x1,.int .i64 x2,.int .i64 x3,.int .i64 x4],.slice A y.length cap,.int .i64 number,.int .i64 t,.int .i64 late] w1 fun e w'=>e=.returned (.bool true)/\Below w.heap.size w w' from hgen w ⟨bStart w,hE⟩
 intro w1 st
 go_enter Tryz.func10,Tryz.ntmps10
 go_upto_region 1 with fail;have oX:=st.bl.size;have BX:=Bx.mk w1 22 #[.int .i64 x0,.int .i64 x1,.int .i64 x2,.int .i64 x3,.int .i64 x4];replace st:=st.call (bNewW w1 (.cells #[.int .i64 x0,.int .i64 x1,.int .i64 x2,.int .i64 x3,.int .i64 x4] 22));have lX:=BX.lt;generalize w1.alloc (.cells #[.int .i64 x0,.int .i64 x1,.int .i64 x2,.int .i64 x3,.int .i64 x4] 22)=w2 at *;generalize w1.heap.size=gX at *;go_wp2_with fail;refine (fsane_any _ st.env).mono ?_;rintro _ w3 ⟨rfl,hb1⟩;replace st:=st.call hb1;replace BX:=BX.call hb1;clear hb1;obtain ⟨cX0,cX1,cX2,cX3,cX4⟩:=BX.p5;go_wp2_with fail;refine (hMR _).mono ?_;rintro _ w4 ⟨rfl,hb1⟩;replace st:=st.call hb1;replace BX:=BX.call hb1;clear hb1;clear cX0 cX1 cX2 cX3 cX4;go_upto_region 5 with fail;have oR:=st.bl.size;have dXR:=BX.lt;replace BX:=BX.new (.cells #[.int .i64 c,.int .i64 e,.int .i64 lo,.int .i64 re,.int .i64 pay] 31);have BR:=Bx.mk w4 31 #[.int .i64 c,.int .i64 e,.int .i64 lo,.int .i64 re,.int .i64 pay];replace st:=st.call (bNewW w4 (.cells #[.int .i64 c,.int .i64 e,.int .i64 lo,.int .i64 re,.int .i64 pay] 31));have lR:=BR.lt;generalize w4.alloc (.cells #[.int .i64 c,.int .i64 e,.int .i64 lo,.int .i64 re,.int .i64 pay] 31)=w5 at *;generalize w4.heap.size=gR at *;clear hMR;obtain ⟨cR0,cR1,cR2,cR3,cR4⟩:=BR.p5;go_wp2_with fail;refine (hHo _ ((hA.below st.bl).more st.bl.size)).mono ?_;rintro _ w6 ⟨⟨LA,lcap,rfl,hLL,hcm⟩,hb1⟩;replace st:=st.call hb1;replace BX:=BX.call hb1;replace BR:=BR.call hb1;clear hb1;clear cR0 cR1 cR2 cR3 cR4;clear hHo hA hn hlen hy BX lX dXR;go_wp2_with fail;refine (hB _).mono ?_;rintro _ _ ⟨rfl,rfl⟩;clear hB;go_wp2_with fail
 go_loopw [16,15] (fun s16 s15 wr=>∃(M:List Tf.Ho),M.length<=L.length/\Kp (M=(L.take M.length).map (Tf.later bb))/\s16=.int .i64 M.length/\RowZ 53 6 w6.heap.size M.length (M.flatMap hoC) s15 wr/\Below w6.heap.size w6 wr) (fun s16 _ _=>L.length-(intOf s16).toNat)
 case atStart=>exact⟨[],Nat.zero_le _,⟨rfl⟩,rfl,.inl ⟨rfl,rfl,rfl⟩,bStart _⟩
 case round =>
  obtain⟨M,hM1,hM,rfl,hrow,hbW⟩:=hrel;obtain ⟨MA,mcap,rfl,hMA,hmc,hmm⟩:=RowZ.at (f:=hoC) (fun _=>rfl) hrow;by_cases hlt:M.length<L.length
  case pos =>
   obtain⟨b,off,rfl,hcl⟩:=hLL.cells hlt;have hl8:M.length<=8:=by omega
   have hE1:=hOw M.length hlt;have hE2:=hOm M.length hlt;obtain ⟨⟨f0,f2⟩,d0,d2⟩:=hfb.out M.length hlt
   have hMn:Kp (M++[Tf.later bb L[M.length]]=(L.take (M.length+1)).map (Tf.later bb)):=⟨by
    rw[List.take_add_one,List.getElem?_eq_getElem hlt,Option.toList_some,List.map_append,←hM.out];rfl⟩
   clear hN hT hOw hOm hfb hh1 hh2 hvm hM hMA hVR;have hMn':Kp (M++[⟨L[M.length].n,L[M.length].f+bb,(L[M.length].b.1,L[M.length].b.2),L[M.length].v,if L[M.length].v=0 then L[M.length].d else L[M.length].d+bb⟩]=(L.take (M.length+1)).map (Tf.later bb)):=hMn;clear hMn;have hE2':∀w0,Env w0->Calls Tryz.prog 31 #[.agg #[.int .i64 c,.int .i64 e,.int .i64 lo,.int .i64 re,.int .i64 pay],.agg #[.int .i64 L[M.length].n,.int .i64 (L[M.length].f+bb),.string ⟨L[M.length].b.1.toArray⟩,.string ⟨L[M.length].b.2.toArray⟩,.int .i64 L[M.length].v,.int .i64 (if L[M.length].v=0 then L[M.length].d else L[M.length].d+bb)]] w0 fun e' w'=>e'=.returned (.tuple #[.int .i64 (Tf.owed ⟨c,e,lo,re,pay⟩ L[M.length]),.int .i64 0])/\Below w0.heap.size w0 w':=hE2
   clear hE2;generalize Tf.owed ⟨c,e,lo,re,pay⟩ L[M.length]=ow at *;have hlX:(L.take (M.length+1)).length=M.length+1:=by rw[List.length_take];omega
   have hMe0:∀N:List Tf.Ho,N=(L.take (M.length+1)).map (Tf.later bb)->N.length=M.length+1->Kp (N=(L.take N.length).map (Tf.later bb)):=fun N h1 h2=>⟨by rw[h2];exact h1⟩
   generalize (L.take (M.length+1)).map (Tf.later bb)=LX at hMn' hMe0;generalize L[M.length]=h at *;have hc0:=fun w2 h2=>hcl w2 h2 0 _ rfl
   have hc1:=fun w2 h2=>hcl w2 h2 1 _ rfl
   have hc2:=fun w2 h2=>hcl w2 h2 2 _ rfl
   have hc3:=fun w2 h2=>hcl w2 h2 3 _ rfl
   have hc4:=fun w2 h2=>hcl w2 h2 4 _ rfl
   have hc5:=fun w2 h2=>hcl w2 h2 5 _ rfl
   simp only[Nat.add_zero]at hc0;clear hcl hlX;generalize h.n=n' at *;generalize h.f=f' at *;generalize h.b.1=b1' at *;generalize h.b.2=b2' at *;generalize h.v=v' at *;generalize h.d=d' at *;have q0:=hc0 _ hbW;have q1:=hc1 _ hbW;have q2:=hc2 _ hbW;have q3:=hc3 _ hbW;have q4:=hc4 _ hbW;have q5:=hc5 _ hbW;go_upto_region 12 with fail;clear q0 q1 q2 q3 q4 q5;have BH:=Bx.mk wr 53 #[.int .i64 n',.int .i64 f',.string ⟨b1'.toArray⟩,.string ⟨b2'.toArray⟩,.int .i64 v',.int .i64 d'];have hbR:=bNewW wr (.cells #[.int .i64 n',.int .i64 f',.string ⟨b1'.toArray⟩,.string ⟨b2'.toArray⟩,.int .i64 v',.int .i64 d'] 53);generalize wr.alloc (.cells #[.int .i64 n',.int .i64 f',.string ⟨b1'.toArray⟩,.string ⟨b2'.toArray⟩,.int .i64 v',.int .i64 d'] 53)=w1 at *;have m1:=BH.cell 1 rfl;have k1:=BH.frozen 1;go_upto_region 13 with fail;clear m1 k1;replace BH:=BH.set 1 (.int .i64 (f'+bb));replace hbR:=bSet hbR (p:=⟨wr.heap.size,1,none⟩) (Nat.le_refl _) (.int .i64 (f'+bb));generalize w1.setCell ⟨wr.heap.size,1,none⟩ (.int .i64 (f'+bb))=w2 at *;replace BH:Bx w2 wr.heap.size 53 #[.int .i64 n',.int .i64 (f'+bb),.string ⟨b1'.toArray⟩,.string ⟨b2'.toArray⟩,.int .i64 v',.int .i64 d']:=BH;have m4:=BH.cell 4 rfl;by_cases hv:v'=0
   case pos =>
    subst hv;simp only[if_true]at hMn' hE2';go_upto_region 15 with fail;clear m4;obtain ⟨ti,tz,hi,hzz,hs1,hz1,hby⟩:=holdI;have hflat:M.flatMap hoC++hoC (⟨n',f'+bb,(b1',b2'),0,d'⟩:Tf.Ho)=(M++[(⟨n',f'+bb,(b1',b2'),0,d'⟩:Tf.Ho)]).flatMap hoC:=by rw[List.flatMap_append,List.flatMap_singleton]
    have hle1:(M++[(⟨n',f'+bb,(b1',b2'),0,d'⟩:Tf.Ho)]).length=M.length+1:=by simp
    have hrow2:=stab_rowZ _ _ _ _ _ _ _ _ hrow (bNew hbR (.cells #[.int .i64 n',.int .i64 (f'+bb),.string ⟨b1'.toArray⟩,.string ⟨b2'.toArray⟩,.int .i64 0,.int .i64 d'] 53));have hsrc:=RowC.src (P:=Tryz.prog) (B:=w2.heap.size) (cap:=1) (e:=53) (size:=6) (t:=33) (hoC_one (⟨n',f'+bb,(b1',b2'),0,d'⟩:Tf.Ho)) Tryz.underlying33 (show RowC 53 6 w2.heap.size 1 1 (hoC (⟨n',f'+bb,(b1',b2'),0,d'⟩:Tf.Ho)) (.slice (some ⟨w2.heap.size,0,none⟩) 1 1) (w2.alloc (.cells #[.int .i64 n',.int .i64 (f'+bb),.string ⟨b1'.toArray⟩,.string ⟨b2'.toArray⟩,.int .i64 0,.int .i64 d'] 53)) from ⟨w2.heap.size,_,rfl,Nat.le_refl _,Nat.le_refl _,Bx.mk _ _ _,rfl,rfl⟩);have hBHn:=BH.new (.cells #[.int .i64 n',.int .i64 (f'+bb),.string ⟨b1'.toArray⟩,.string ⟨b2'.toArray⟩,.int .i64 0,.int .i64 d'] 53);have hbWn:=hbW.trans ((bNew hbR (.cells #[.int .i64 n',.int .i64 (f'+bb),.string ⟨b1'.toArray⟩,.string ⟨b2'.toArray⟩,.int .i64 0,.int .i64 d'] 53)).mono hbW.size);have hsz:w6.heap.size<=(w2.alloc (.cells #[.int .i64 n',.int .i64 (f'+bb),.string ⟨b1'.toArray⟩,.string ⟨b2'.toArray⟩,.int .i64 0,.int .i64 d'] 53)).heap.size:=hbWn.size
    have hne:∀n c,(Value.slice MA M.length mcap)≠.slice (some ⟨wr.heap.size,0,none⟩) n c:=fun n c he=>by
     rcases hrow with ⟨h1,-,-⟩|⟨cp,⟨g9,cs9,h1,-,-,hB9,-⟩,-⟩
     · rw[h1]at he;cases he
     · rw[h1]at he;have hg9:=hB9.lt
       have e9:g9=wr.heap.size:=by
        injection he with a1
        injection a1 with a2
        injection a2
       omega
    have fin:∀v9 w',Below w6.heap.size (w2.alloc (.cells #[.int .i64 n',.int .i64 (f'+bb),.string ⟨b1'.toArray⟩,.string ⟨b2'.toArray⟩,.int .i64 0,.int .i64 d'] 53)) w'->KpV (.slice MA M.length mcap) v9 (w2.alloc (.cells #[.int .i64 n',.int .i64 (f'+bb),.string ⟨b1'.toArray⟩,.string ⟨b2'.toArray⟩,.int .i64 0,.int .i64 d'] 53)) w'->RowZ 53 6 w6.heap.size (M.length+1) (M.flatMap hoC++hoC (⟨n',f'+bb,(b1',b2'),0,d'⟩:Tf.Ho)) v9 w'->RowZ 53 6 w6.heap.size (M++[(⟨n',f'+bb,(b1',b2'),0,d'⟩:Tf.Ho)]).length ((M++[(⟨n',f'+bb,(b1',b2'),0,d'⟩:Tf.Ho)]).flatMap hoC) v9 w'/\Bx w' wr.heap.size 53 #[.int .i64 n',.int .i64 (f'+bb),.string ⟨b1'.toArray⟩,.string ⟨b2'.toArray⟩,.int .i64 0,.int .i64 d']/\Below w6.heap.size w6 w':=fun v9 w' h1 h2 h3=>by
     rw[hflat,←hle1]at h3;exact ⟨h3,h2.bx hBHn hne,hbWn.trans h1⟩
    have hld:=ld_hold BH;have hbs:=bs_hold w2 n' (f'+bb) 0 d' ⟨b1'.toArray⟩ ⟨b2'.toArray⟩;clear hBHn hne hbWn hrow hbR hbW BH hflat hmc hmm;refine wp_region_lit ?_;refine wpList_mv (v:=.slice MA M.length mcap) rfl rfl ?_;refine wpList_v rfl rfl hld ?_;refine wpList_bs1 33 (.tmp 58) rfl rfl rfl hbs ?_;refine wpList_append_rowF rfl (.tmp 57) (.tmp 59) 33 53 rfl ti tz 6 w6.heap.size M.length 1 (M.flatMap hoC) (hoC (⟨n',f'+bb,(b1',b2'),0,d'⟩:Tf.Ho)) (.slice MA M.length mcap) (.slice (some ⟨w2.heap.size,0,none⟩) 1 1) Tryz.underlying33 hi hzz hs1 hz1 rfl rfl hrow2 hsz hsrc (by omega) (by unfold maxLen;omega) (by rw[hby];omega) ?_;intro v9 w' k1 k2 k3;obtain ⟨f1',f3,f4⟩:=fin _ _ k1 k2 k3;refine wpList_mv (v:=v9) rfl rfl ?_;refine wpList_nil ?_;simp only[Act.put,List.setIfInBounds_toArray,List.set_cons_succ,List.set_cons_zero];clear fin hld hbs hsrc hrow2 hsz k1 k2 k3 hi hzz hs1 hz1 hby;replace st:=st.call f4;replace BR:=BR.call f4;have kE:=fun d os=>hE1 (Sort.grow (redrawn w' d) os) (st.env.below (below_regrown w' d os))
    have q0:=fun d os=>hc0 _ (bAgain f4 d os)
    have q1:=fun d os=>hc1 _ (bAgain f4 d os)
    have q2:=fun d os=>hc2 _ (bAgain f4 d os)
    have q3:=fun d os=>hc3 _ (bAgain f4 d os)
    have q4:=fun d os=>hc4 _ (bAgain f4 d os)
    have q5:=fun d os=>hc5 _ (bAgain f4 d os)
    have r0:=fun d os=>(BR.again d os).cell 0 rfl
    have r1:=fun d os=>(BR.again d os).cell 1 rfl
    have r2:=fun d os=>(BR.again d os).cell 2 rfl
    have r3:=fun d os=>(BR.again d os).cell 3 rfl
    have r4:=fun d os=>(BR.again d os).cell 4 rfl
    go_wp2_with fail;refine wp_region_quiet_below (by kernel_rfl) (by kernel_rfl) ?_
    repeat (go_big_quiet_step (first
     | (go_at_call 31;with_reducible exact Calls.regrown_of (kE _ _))))
    refine wpQuiet_nil ?_;rintro _ ⟨q,rfl⟩;have hb1:=below_regrown w' q.d q.os;replace st:=st.call hb1;replace BR:=BR.call hb1;replace f3:=f3.call hb1;replace f1':=stab_rowZ _ _ _ _ _ _ _ _ f1' hb1;replace f4:=bCall f4 hb1;clear hb1 kE q0 q1 q2 q3 q4 q5 r0 r1 r2 r3 r4 hc0 hc1 hc2 hc3 hc4 hc5;generalize Sort.grow (redrawn w' q.d) q.os=w9 at *;obtain ⟨r0,r1,r2,r3,r4⟩:=BR.p5;obtain ⟨m0,m1,m2,m3,m4,m5⟩:=f3.p6;go_wp2_with fail;refine (hE2' _ st.env).mono ?_;rintro _ w10 ⟨rfl,hb1⟩;clear r0 r1 r2 r3 r4 m0 m1 m2 m3 m4 m5;replace f1':=stab_rowZ _ _ _ _ _ _ _ _ f1' hb1;replace f4:=bCall f4 hb1;clear hb1 hE1 hE2' f3 st BR;have tne:(ow != ow)=false:=by simp
    have teq:(ow==ow)=true:=by simp
    have hMz:=hMn'.out;have hMe:Kp (M++[(⟨n',f'+bb,(b1',b2'),0,d'⟩:Tf.Ho)]=(L.take (M++[(⟨n',f'+bb,(b1',b2'),0,d'⟩:Tf.Ho)]).length).map (Tf.later bb)):=hMe0 _ hMz hle1;have hme:L.length-(M.length+1)<L.length-M.length:=by omega
    have hM2:(M++[(⟨n',f'+bb,(b1',b2'),0,d'⟩:Tf.Ho)]).length<=L.length:=by omega
    have hsl:Kp (Value.int .i64 ((M.length:Int)+1)=.int .i64 ((M++[(⟨n',f'+bb,(b1',b2'),0,d'⟩:Tf.Ho)]).length:Int)):=⟨by rw[hle1];rfl⟩
    clear hMz hMn' hMe0 hle1;go_wp2;exact ⟨⟨M++[(⟨n',f'+bb,(b1',b2'),0,d'⟩:Tf.Ho)],hM2,hMe,hsl.out,f1',f4⟩,by simp[intOf] <;> omega⟩
   case neg =>
    have t4:(v'==0)=false:=by simpa using hv
    rw[if_neg hv]at hMn';simp only[if_neg hv]at hE2';have m5:=BH.cell 5 rfl;have k5:=BH.frozen 5;go_upto_region 15 with fail;clear m4 m5 k5 t4 hv;replace BH:=BH.set 5 (.int .i64 (d'+bb));replace hbR:=bSet hbR (p:=⟨wr.heap.size,5,none⟩) (Nat.le_refl _) (.int .i64 (d'+bb));generalize w2.setCell ⟨wr.heap.size,5,none⟩ (.int .i64 (d'+bb))=w3 at *;replace BH:Bx w3 wr.heap.size 53 #[.int .i64 n',.int .i64 (f'+bb),.string ⟨b1'.toArray⟩,.string ⟨b2'.toArray⟩,.int .i64 v',.int .i64 (d'+bb)]:=BH;obtain ⟨ti,tz,hi,hzz,hs1,hz1,hby⟩:=holdI;have hflat:M.flatMap hoC++hoC (⟨n',f'+bb,(b1',b2'),v',d'+bb⟩:Tf.Ho)=(M++[(⟨n',f'+bb,(b1',b2'),v',d'+bb⟩:Tf.Ho)]).flatMap hoC:=by rw[List.flatMap_append,List.flatMap_singleton]
    have hle1:(M++[(⟨n',f'+bb,(b1',b2'),v',d'+bb⟩:Tf.Ho)]).length=M.length+1:=by simp
    have hrow2:=stab_rowZ _ _ _ _ _ _ _ _ hrow (bNew hbR (.cells #[.int .i64 n',.int .i64 (f'+bb),.string ⟨b1'.toArray⟩,.string ⟨b2'.toArray⟩,.int .i64 v',.int .i64 (d'+bb)] 53));have hsrc:=RowC.src (P:=Tryz.prog) (B:=w3.heap.size) (cap:=1) (e:=53) (size:=6) (t:=33) (hoC_one (⟨n',f'+bb,(b1',b2'),v',d'+bb⟩:Tf.Ho)) Tryz.underlying33 (show RowC 53 6 w3.heap.size 1 1 (hoC (⟨n',f'+bb,(b1',b2'),v',d'+bb⟩:Tf.Ho)) (.slice (some ⟨w3.heap.size,0,none⟩) 1 1) (w3.alloc (.cells #[.int .i64 n',.int .i64 (f'+bb),.string ⟨b1'.toArray⟩,.string ⟨b2'.toArray⟩,.int .i64 v',.int .i64 (d'+bb)] 53)) from ⟨w3.heap.size,_,rfl,Nat.le_refl _,Nat.le_refl _,Bx.mk _ _ _,rfl,rfl⟩);have hBHn:=BH.new (.cells #[.int .i64 n',.int .i64 (f'+bb),.string ⟨b1'.toArray⟩,.string ⟨b2'.toArray⟩,.int .i64 v',.int .i64 (d'+bb)] 53);have hbWn:=hbW.trans ((bNew hbR (.cells #[.int .i64 n',.int .i64 (f'+bb),.string ⟨b1'.toArray⟩,.string ⟨b2'.toArray⟩,.int .i64 v',.int .i64 (d'+bb)] 53)).mono hbW.size);have hsz:w6.heap.size<=(w3.alloc (.cells #[.int .i64 n',.int .i64 (f'+bb),.string ⟨b1'.toArray⟩,.string ⟨b2'.toArray⟩,.int .i64 v',.int .i64 (d'+bb)] 53)).heap.size:=hbWn.size
    have hne:∀n c,(Value.slice MA M.length mcap)≠.slice (some ⟨wr.heap.size,0,none⟩) n c:=fun n c he=>by
     rcases hrow with ⟨h1,-,-⟩|⟨cp,⟨g9,cs9,h1,-,-,hB9,-⟩,-⟩
     · rw[h1]at he;cases he
     · rw[h1]at he;have hg9:=hB9.lt
       have e9:g9=wr.heap.size:=by
        injection he with a1
        injection a1 with a2
        injection a2
       omega
    have fin:∀v9 w',Below w6.heap.size (w3.alloc (.cells #[.int .i64 n',.int .i64 (f'+bb),.string ⟨b1'.toArray⟩,.string ⟨b2'.toArray⟩,.int .i64 v',.int .i64 (d'+bb)] 53)) w'->KpV (.slice MA M.length mcap) v9 (w3.alloc (.cells #[.int .i64 n',.int .i64 (f'+bb),.string ⟨b1'.toArray⟩,.string ⟨b2'.toArray⟩,.int .i64 v',.int .i64 (d'+bb)] 53)) w'->RowZ 53 6 w6.heap.size (M.length+1) (M.flatMap hoC++hoC (⟨n',f'+bb,(b1',b2'),v',d'+bb⟩:Tf.Ho)) v9 w'->RowZ 53 6 w6.heap.size (M++[(⟨n',f'+bb,(b1',b2'),v',d'+bb⟩:Tf.Ho)]).length ((M++[(⟨n',f'+bb,(b1',b2'),v',d'+bb⟩:Tf.Ho)]).flatMap hoC) v9 w'/\Bx w' wr.heap.size 53 #[.int .i64 n',.int .i64 (f'+bb),.string ⟨b1'.toArray⟩,.string ⟨b2'.toArray⟩,.int .i64 v',.int .i64 (d'+bb)]/\Below w6.heap.size w6 w':=fun v9 w' h1 h2 h3=>by
     rw[hflat,←hle1]at h3;exact ⟨h3,h2.bx hBHn hne,hbWn.trans h1⟩
    have hld:=ld_hold BH;have hbs:=bs_hold w3 n' (f'+bb) v' (d'+bb) ⟨b1'.toArray⟩ ⟨b2'.toArray⟩;clear hBHn hne hbWn hrow hbR hbW BH hflat hmc hmm;refine wp_region_lit ?_;refine wpList_mv (v:=.slice MA M.length mcap) rfl rfl ?_;refine wpList_v rfl rfl hld ?_;refine wpList_bs1 33 (.tmp 58) rfl rfl rfl hbs ?_;refine wpList_append_rowF rfl (.tmp 57) (.tmp 59) 33 53 rfl ti tz 6 w6.heap.size M.length 1 (M.flatMap hoC) (hoC (⟨n',f'+bb,(b1',b2'),v',d'+bb⟩:Tf.Ho)) (.slice MA M.length mcap) (.slice (some ⟨w3.heap.size,0,none⟩) 1 1) Tryz.underlying33 hi hzz hs1 hz1 rfl rfl hrow2 hsz hsrc (by omega) (by unfold maxLen;omega) (by rw[hby];omega) ?_;intro v9 w' k1 k2 k3;obtain ⟨f1',f3,f4⟩:=fin _ _ k1 k2 k3;refine wpList_mv (v:=v9) rfl rfl ?_;refine wpList_nil ?_;simp only[Act.put,List.setIfInBounds_toArray,List.set_cons_succ,List.set_cons_zero];clear fin hld hbs hsrc hrow2 hsz k1 k2 k3 hi hzz hs1 hz1 hby;replace st:=st.call f4;replace BR:=BR.call f4;have kE:=fun d os=>hE1 (Sort.grow (redrawn w' d) os) (st.env.below (below_regrown w' d os))
    have q0:=fun d os=>hc0 _ (bAgain f4 d os)
    have q1:=fun d os=>hc1 _ (bAgain f4 d os)
    have q2:=fun d os=>hc2 _ (bAgain f4 d os)
    have q3:=fun d os=>hc3 _ (bAgain f4 d os)
    have q4:=fun d os=>hc4 _ (bAgain f4 d os)
    have q5:=fun d os=>hc5 _ (bAgain f4 d os)
    have r0:=fun d os=>(BR.again d os).cell 0 rfl
    have r1:=fun d os=>(BR.again d os).cell 1 rfl
    have r2:=fun d os=>(BR.again d os).cell 2 rfl
    have r3:=fun d os=>(BR.again d os).cell 3 rfl
    have r4:=fun d os=>(BR.again d os).cell 4 rfl
    go_wp2_with fail;refine wp_region_quiet_below (by kernel_rfl) (by kernel_rfl) ?_
    repeat (go_big_quiet_step (first
     | (go_at_call 31;with_reducible exact Calls.regrown_of (kE _ _))))
    refine wpQuiet_nil ?_;rintro _ ⟨q,rfl⟩;have hb1:=below_regrown w' q.d q.os;replace st:=st.call hb1;replace BR:=BR.call hb1;replace f3:=f3.call hb1;replace f1':=stab_rowZ _ _ _ _ _ _ _ _ f1' hb1;replace f4:=bCall f4 hb1;clear hb1 kE q0 q1 q2 q3 q4 q5 r0 r1 r2 r3 r4 hc0 hc1 hc2 hc3 hc4 hc5;generalize Sort.grow (redrawn w' q.d) q.os=w9 at *;obtain ⟨r0,r1,r2,r3,r4⟩:=BR.p5;obtain ⟨m0,m1,m2,m3,m4,m5⟩:=f3.p6;go_wp2_with fail;refine (hE2' _ st.env).mono ?_;rintro _ w10 ⟨rfl,hb1⟩;clear r0 r1 r2 r3 r4 m0 m1 m2 m3 m4 m5;replace f1':=stab_rowZ _ _ _ _ _ _ _ _ f1' hb1;replace f4:=bCall f4 hb1;clear hb1 hE1 hE2' f3 st BR;have tne:(ow != ow)=false:=by simp
    have teq:(ow==ow)=true:=by simp
    have hMz:=hMn'.out;have hMe:Kp (M++[(⟨n',f'+bb,(b1',b2'),v',d'+bb⟩:Tf.Ho)]=(L.take (M++[(⟨n',f'+bb,(b1',b2'),v',d'+bb⟩:Tf.Ho)]).length).map (Tf.later bb)):=hMe0 _ hMz hle1;have hme:L.length-(M.length+1)<L.length-M.length:=by omega
    have hM2:(M++[(⟨n',f'+bb,(b1',b2'),v',d'+bb⟩:Tf.Ho)]).length<=L.length:=by omega
    have hsl:Kp (Value.int .i64 ((M.length:Int)+1)=.int .i64 ((M++[(⟨n',f'+bb,(b1',b2'),v',d'+bb⟩:Tf.Ho)]).length:Int)):=⟨by rw[hle1];rfl⟩
    clear hMz hMn' hMe0 hle1;go_wp2;exact ⟨⟨M++[(⟨n',f'+bb,(b1',b2'),v',d'+bb⟩:Tf.Ho)],hM2,hMe,hsl.out,f1',f4⟩,by simp[intOf] <;> omega⟩
  case neg =>
   have hMe:M=L.map (Tf.later bb):=by
    have h:=hM.out
    rwa [show M.length=L.length by omega,List.take_length]at h
   have hVM:Kp (VaR ⟨c,e,lo,re,pay⟩ M):=⟨by rw[hMe];exact hvm.out⟩
   have hMo:HoA wr MA mcap M:=⟨hMA,hmc,by omega,va_hoL hVM.out.2⟩
   have e1:∀nn tt,Tf.held ⟨c,e,lo,re,pay⟩ M nn (tt+bb)=Tf.held ⟨c,e,lo,re,pay⟩ L nn tt:=fun nn tt=>by rw[hMe];exact hh1 nn tt
   have e2:∀nn,Tf.held ⟨c,e,lo,re,pay⟩ M nn (bb-1)=false:=fun nn=>by rw[hMe];exact hh2 nn
   clear hh1 hh2 hMe hM hOw hOm hfb hvm hMA hrow;replace st:=st.call hbW;replace BR:=BR.call hbW;replace hLL:=hLL.call hbW;clear hbW;have k1:=fun d os=>valid_ok (l:=M) hVM.out MA mcap (Sort.grow (redrawn wr d) os) (hMo.call (below_regrown wr d os)) (st.env.below (below_regrown wr d os))
   have k2:=fun d os=>held_ok (l:=M) hVM.out MA mcap (5+pn) (at_+bb) (Sort.grow (redrawn wr d) os) (hMo.call (below_regrown wr d os)) (st.env.below (below_regrown wr d os))
   have k3:=fun d os=>held_ok hVR.out LA lcap (5+pn) at_ (Sort.grow (redrawn wr d) os) (hLL.call (below_regrown wr d os)) (st.env.below (below_regrown wr d os))
   have k4:=fun d os=>held_ok (l:=M) hVM.out MA mcap (5+pn) (bb-1) (Sort.grow (redrawn wr d) os) (hMo.call (below_regrown wr d os)) (st.env.below (below_regrown wr d os))
   simp only[e1]at k2;simp only[e2]at k4;clear e1 e2 hMo;generalize Tf.held ⟨c,e,lo,re,pay⟩ L (5+pn) at_=hd at *;have heq:(hd==hd)=true:=by simp
   have r0:=fun d os=>(BR.again d os).cell 0 rfl
   have r1:=fun d os=>(BR.again d os).cell 1 rfl
   have r2:=fun d os=>(BR.again d os).cell 2 rfl
   have r3:=fun d os=>(BR.again d os).cell 3 rfl
   have r4:=fun d os=>(BR.again d os).cell 4 rfl
   go_wp2_with fail;refine (hN _).mono ?_;rintro _ _ ⟨rfl,rfl⟩;clear hN;go_wp2_with fail;refine (hT _).mono ?_;rintro _ _ ⟨rfl,rfl⟩;clear hT;cases tb:(bb==0)
   all_goals
    go_wp2_with fail;refine wp_region_quiet_below (by kernel_rfl) (by kernel_rfl) ?_
    repeat (go_big_quiet_step (first
     | (go_at_call 19;with_reducible exact Calls.regrown_of (k1 _ _))
     | (go_at_call 21;with_reducible exact Calls.regrown_of (k2 _ _))
     | (go_at_call 21;with_reducible exact Calls.regrown_of (k3 _ _))
     | (go_at_call 21;with_reducible exact Calls.regrown_of (k4 _ _))))
    refine wpQuiet_nil ?_;rintro _ ⟨q,rfl⟩;have hb1:=below_regrown wr q.d q.os;replace st:=st.call hb1;clear k1 k2 k3 k4 r0 r1 r2 r3 r4;go_wp2;go_ret;exact ⟨by first|rfl|simp,st.bl⟩
end Go.Proofs.YtelljijajgiabaaGreatDoor

import Derived.Test.YtelljijajgiabaaGreatDoorQ27
import Derived.Test.YtelljijajgiabaaGreatDoorW02
set_option linter.unusedVariables false
set_option linter.unusedSimpArgs false
set_option maxRecDepth 100000
set_option maxHeartbeats 8000000
namespace Go.Proofs.YtelljijajgiabaaGreatDoor
open Go.RowKit Go.Shelf
theorem fraudPaid_any (x0 x1 x2 x3 x4:Int) (y:List Tf.X4) (A:Option Addr) (cap:Nat) (number:Int) (w:World) (h0:I64 x0) (h1:I64 x1) (h2:I64 x2) (h3:I64 x3) (h4:I64 x4) (hA:At 4 x4C w w.heap.size A y) (hn:y.length<=cap) (hlen:y.length<=maxLen) (hy:∀q∈y,I64 q.a/\I64 q.b/\I64 q.c/\I64 q.d) (hnum:I64 number) (hE:Env w) :
 Calls Tryz.prog 6 #[.agg #[.int .i64 x0,.int .i64 x1,.int .i64 x2,.int .i64 x3,.int .i64 x4],.slice A y.length cap,.int .i64 number] w fun e w'=>e=.returned (.bool true)/\Below w.heap.size w w':=by
 obtain⟨⟨c,e,lo,re,pay⟩,hr⟩:=exK (Tf.madeR (Tb.cN x0 x1) (Tb.cD x0 x1) x2 x3 x4);have hMR:=fun w0=>madeRules_any x0 x1 x2 x3 x4 w0 h0 h1 h2 h3 h4 _ hr
 dsimp only at hMR;have e1:=Tb.cD_in x0 x1;have e2:=Tb.cN_in x0 x1;obtain ⟨hok,l20,r20,c1,p9⟩:=Tf.madeR_ok x2 x3 x4 e1.1 e1.2 e2.1 e2.2;rw [hr.out]at hok l20 r20 c1 p9;dsimp only at l20 r20 c1 p9;have hru:ruB c e lo re pay=true:=ruB_iff.2 hok;have lo1:=hok.l1;have re1:=hok.r1;have pay0:=hok.p0;dsimp only at lo1 re1 pay0;clear e1 e2 hr;obtain ⟨L,hL⟩:=exK (Tf.genH (bnd e) ⟨c,e,lo,re,pay⟩ (y.take 8)).1;have hMd:Kp (Tf.Made (InB c e) ⟨c,e,lo,re,pay⟩ L):=⟨hL.out ▸ holds_made hok l20 r20 y⟩
 have hVR:Kp (VaR ⟨c,e,lo,re,pay⟩ L):=⟨⟨hok,hMd.out.va⟩⟩
 have hva:vaB ⟨c,e,lo,re,pay⟩ L=true:=vaB_t hVR.out;have hHo:=fun w0 (hA0:At 4 x4C w0 w0.heap.size A y)=>holds_ok c e lo re pay y A cap w0 hok l20 r20 hA0 hn hlen hy L hL
 have hL8:=hMd.out.len;have hokK:=Kp.mk hok;clear hok;have hN:=fun w0=>l36_any number 3 (by decide) hnum w0
 have n01:=Tp.pick_lt number (show (0:Int)<3 by decide);generalize Tp.pick number 3=pn at *;obtain ⟨n0,n1⟩:=n01;have hlo0:(lo.toNat:Int)=lo:=by omega
 have hOw:=fun (i:Nat) (hi:i<L.length) w0 hE0=>owed_ok hru (made_fm hMd.out (List.getElem_mem hi)) w0 hE0
 have hfb:=Kp.mk fun (i:Nat) (hi:i<L.length)=>And.intro (hMd.out.f0 _ (List.getElem_mem hi)) (And.intro (hMd.out.sp _ (List.getElem_mem hi)) (hMd.out.d0 _ (List.getElem_mem hi)))
 have hob:=Kp.mk fun (i:Nat) (hi:i<L.length)=>Tf.owed_bound (r:=⟨c,e,lo,re,pay⟩) (h:=L[i]) pay0 (hMd.out.sp _ (List.getElem_mem hi))
 have hon:=Kp.mk fun (i:Nat) (hi:i<L.length)=>Tf.held_one (r:=⟨c,e,lo,re,pay⟩) (h:=L[i]) (k:=lo.toNat) (hMd.out.sp _ (List.getElem_mem hi)) hlo0
 have hrt:Kp (∀(i:Nat) (hi:i<L.length),(L[i].v=1/\L[i].d<L[i].f+lo->Tf.owed ⟨c,e,lo,re,pay⟩ L[i]=0)/\(¬(L[i].v=1/\L[i].d<L[i].f+lo)->Tf.owed ⟨c,e,lo,re,pay⟩ L[i]=pay*(Tf.fin ⟨c,e,lo,re,pay⟩ L[i]-L[i].f))):=⟨fun i hi=>⟨fun h=>if_pos h,fun h=>if_neg h⟩⟩
 have hSg:∀(i:Nat) (hi:i<L.length) (tt:Int) (g:Nat) (w0:World),Bx w0 g 53 (hoC L[i]).toArray->Env w0->Calls Tryz.prog 21 #[.agg #[.int .i64 c,.int .i64 e,.int .i64 lo,.int .i64 re,.int .i64 pay],.slice (some ⟨g,0,none⟩) 1 1,.int .i64 L[i].n,.int .i64 tt] w0 fun e' w'=>e'=.returned (.bool (Tf.held ⟨c,e,lo,re,pay⟩ [L[i]] L[i].n tt))/\Below w0.heap.size w0 w':=fun i hi tt g w0 hB hE0 =>
  held_ok (l:=[L[i]]) ⟨hokK.out,Tf.Va.one (hMd.out.va.fm _ (List.getElem_mem hi))⟩ (some ⟨g,0,none⟩) 1 L[i].n tt w0 (hoa_one (made_fm hMd.out (List.getElem_mem hi)).2 hB) hE0
 have hpb:Kp (∀i:Nat,i<=L.length->0<=Tf.paid ⟨c,e,lo,re,pay⟩ (5+pn) (L.take i)/\Tf.paid ⟨c,e,lo,re,pay⟩ (5+pn) (L.take i)<=1500):=⟨fun i hi=>by
  obtain⟨a1,a2,a3,a4⟩:=Tf.paid_le (r:=⟨c,e,lo,re,pay⟩) (n:=5+pn) pay0 L hMd.out.sp i hi;refine ⟨a1,Int.le_trans a2 ?_⟩;dsimp only at a4;have a5:lo*(i:Int)<=20*8:=Int.mul_le_mul l20 (by omega) (by omega) (by decide);have a6:pay*Tf.lens ⟨c,e,lo,re,pay⟩ (5+pn) (L.take i)<=9*160:=Int.mul_le_mul p9 (by omega) a3 (by decide);dsimp only
  omega⟩
 have hlb:Kp (∀i:Nat,i<=L.length->0<=Tf.lastS ⟨c,e,lo,re,pay⟩ (L.take i)/\Tf.lastS ⟨c,e,lo,re,pay⟩ (L.take i)<=404):=⟨fun i hi=>⟨(Tf.lastS_go ⟨c,e,lo,re,pay⟩ (L.take i) 0).1,Tf.lastS_ub (by decide) fun g hg=>by
  have:=hMd.out.f0 g (List.mem_of_mem_take hg);dsimp only
  omega⟩⟩
 have hend:Kp (Tf.paid ⟨c,e,lo,re,pay⟩ (5+pn) L<=pay*(Tf.cnt (Tf.held ⟨c,e,lo,re,pay⟩ L (5+pn)) 0 (Tf.lastS ⟨c,e,lo,re,pay⟩ L).toNat:Int)):=⟨Tf.paid_held (T:=(Tf.lastS ⟨c,e,lo,re,pay⟩ L).toNat) hokK.out hMd.out.va fun g hg=>by
  have h1:=(Tf.lastS_go ⟨c,e,lo,re,pay⟩ L 0).2 g hg;dsimp only at h1 ⊢
  exact Int.le_trans h1 (by have:=Int.self_le_toNat (Tf.lastS ⟨c,e,lo,re,pay⟩ L);exact this)⟩
 clear hnum hMd hlo0;clear h0 h1 h2 h3 h4 hL
 suffices hgen:∀w1:World,SE w w1->Calls Tryz.prog 6 #[.agg #[.int .i64 x0,.int .i64 x1,.int .i64 x2,.int .i64 x3,.int .i64 x4],.slice A y.length cap,.int .i64 number] w1 fun e w'=>e=.returned (.bool true)/\Below w.heap.size w w' from hgen w ⟨bStart w,hE⟩
 intro w1 st
 go_enter Tryz.func6,Tryz.ntmps6
 go_upto_region 1 with fail;have oX:=st.bl.size;have BX:=Bx.mk w1 22 #[.int .i64 x0,.int .i64 x1,.int .i64 x2,.int .i64 x3,.int .i64 x4];replace st:=st.call (bNewW w1 (.cells #[.int .i64 x0,.int .i64 x1,.int .i64 x2,.int .i64 x3,.int .i64 x4] 22));have lX:=BX.lt;generalize w1.alloc (.cells #[.int .i64 x0,.int .i64 x1,.int .i64 x2,.int .i64 x3,.int .i64 x4] 22)=w2 at *;generalize w1.heap.size=gX at *;go_wp2_with fail;refine (fsane_any _ st.env).mono ?_;rintro _ w3 ⟨rfl,hb1⟩;replace st:=st.call hb1;replace BX:=BX.call hb1;clear hb1;obtain ⟨cX0,cX1,cX2,cX3,cX4⟩:=BX.p5;go_wp2_with fail;refine (hMR _).mono ?_;rintro _ w4 ⟨rfl,hb1⟩;replace st:=st.call hb1;replace BX:=BX.call hb1;clear hb1;clear cX0 cX1 cX2 cX3 cX4;go_upto_region 5 with fail;have oR:=st.bl.size;have dXR:=BX.lt;replace BX:=BX.new (.cells #[.int .i64 c,.int .i64 e,.int .i64 lo,.int .i64 re,.int .i64 pay] 31);have BR:=Bx.mk w4 31 #[.int .i64 c,.int .i64 e,.int .i64 lo,.int .i64 re,.int .i64 pay];replace st:=st.call (bNewW w4 (.cells #[.int .i64 c,.int .i64 e,.int .i64 lo,.int .i64 re,.int .i64 pay] 31));have lR:=BR.lt;generalize w4.alloc (.cells #[.int .i64 c,.int .i64 e,.int .i64 lo,.int .i64 re,.int .i64 pay] 31)=w5 at *;generalize w4.heap.size=gR at *;clear hMR;obtain ⟨cR0,cR1,cR2,cR3,cR4⟩:=BR.p5;go_wp2_with fail;refine (hHo _ ((hA.below st.bl).more st.bl.size)).mono ?_;rintro _ w6 ⟨⟨LA,lcap,rfl,hLL,hcm⟩,hb1⟩;replace st:=st.call hb1;replace BX:=BX.call hb1;replace BR:=BR.call hb1;clear hb1;clear cR0 cR1 cR2 cR3 cR4;clear hHo hA hn hlen hy BX lX dXR;go_wp2_with fail;refine (hN _).mono ?_;rintro _ _ ⟨rfl,rfl⟩;clear hN;go_wp2_with fail
 go_loopw [13,12,11] (fun s13 s12 s11 wr=>∃(i:Nat) (la od:Int),i<=L.length/\Kp (Tf.paid ⟨c,e,lo,re,pay⟩ (5+pn) (L.take i)=od)/\Kp (Tf.lastS ⟨c,e,lo,re,pay⟩ (L.take i)=la)/\s13=.int .i64 i/\s12=.int .i64 la/\s11=.int .i64 od/\SE w wr/\Bx wr gR 31 #[.int .i64 c,.int .i64 e,.int .i64 lo,.int .i64 re,.int .i64 pay]/\HoA wr LA lcap L) (fun s13 _ _ _=>L.length-(intOf s13).toNat)
 case atStart=>exact⟨0,0,0,Nat.zero_le _,⟨rfl⟩,⟨rfl⟩,rfl,rfl,rfl,st,BR,hLL⟩
 case round =>
  clear st BR hLL;obtain ⟨i,la,od,hi,hod,hla,rfl,rfl,rfl,st,BR,hLL⟩:=hrel;obtain ⟨wo,rfl⟩:∃wo,wo=wr:=⟨_,rfl⟩
  have hob1:=hpb.out i hi;have hla1:=hlb.out i hi;rw [hod.out]at hob1;rw [hla.out]at hla1;obtain ⟨od0,od1⟩:=hob1;obtain ⟨la0,la1⟩:=hla1;by_cases hlt:i<L.length
  case pos =>
   obtain⟨b,off,rfl,hcl⟩:=hLL.cells hlt;have kE:=fun d os=>hOw i hlt (Sort.grow (redrawn wo d) os) (st.env.below (below_regrown wo d os))
   obtain⟨⟨f0,f2⟩,⟨hs1,hs2⟩,d0,d2⟩:=hfb.out i hlt;dsimp only at hs2;obtain ⟨ow0,ow1⟩:=hob.out i hlt
   try dsimp only at ow1
   have hon1:=Kp.mk (hon.out i hlt);have hrt1:=Kp.mk (hrt.out i hlt);have hS:=hSg i hlt
   have hpn:Kp (Tf.paid ⟨c,e,lo,re,pay⟩ (5+pn) (L.take (i+1))=if L[i].n=5+pn then od+Tf.owed ⟨c,e,lo,re,pay⟩ L[i] else od):=⟨by
    rw[List.take_add_one,List.getElem?_eq_getElem hlt,Option.toList_some,Tf.paid_snoc,hod.out]⟩
   have hln:Kp (Tf.lastS ⟨c,e,lo,re,pay⟩ (L.take (i+1))=max la (L[i].f+lo)):=⟨by
    rw[List.take_add_one,List.getElem?_eq_getElem hlt,Option.toList_some,Tf.lastS_snoc,hla.out]⟩
   have hpb1:=Kp.mk (hpb.out (i+1) hlt);clear hOw hfb hob hon hrt hSg hpb hlb hend hod hla
   have how2:Tf.owed ⟨c,e,lo,re,pay⟩ L[i]<=200:=by
    have:pay*(Tf.fin ⟨c,e,lo,re,pay⟩ L[i]-L[i].f)<=9*20:=Int.mul_le_mul p9 (by omega) (by omega) (by decide);omega
   generalize Tf.held ⟨c,e,lo,re,pay⟩ [L[i]] L[i].n=ph at *;obtain ⟨ow,how⟩:=exK (Tf.owed ⟨c,e,lo,re,pay⟩ L[i]);simp only[how.out]at kE hpn hrt1 ow0 ow1 how2;clear how;generalize Tf.fin ⟨c,e,lo,re,pay⟩ L[i]=fi at *;generalize L[i]=h at *;have hc0:=fun w2 h2=>hcl w2 h2 0 _ rfl
   have hc1:=fun w2 h2=>hcl w2 h2 1 _ rfl
   have hc2:=fun w2 h2=>hcl w2 h2 2 _ rfl
   have hc3:=fun w2 h2=>hcl w2 h2 3 _ rfl
   have hc4:=fun w2 h2=>hcl w2 h2 4 _ rfl
   have hc5:=fun w2 h2=>hcl w2 h2 5 _ rfl
   simp only[Nat.add_zero]at hc0;clear hcl;have hS':∀(tt:Int) (g:Nat) (w0:World),Bx w0 g 53 #[.int .i64 h.n,.int .i64 h.f,.string ⟨h.b.1.toArray⟩,.string ⟨h.b.2.toArray⟩,.int .i64 h.v,.int .i64 h.d]->Env w0->Calls Tryz.prog 21 #[.agg #[.int .i64 c,.int .i64 e,.int .i64 lo,.int .i64 re,.int .i64 pay],.slice (some ⟨g,0,none⟩) 1 1,.int .i64 h.n,.int .i64 tt] w0 fun e' w'=>e'=.returned (.bool (ph tt))/\Below w0.heap.size w0 w':=hS
   clear hS;generalize h.n=n' at *;generalize h.f=f' at *;generalize h.b.1=b1' at *;generalize h.b.2=b2' at *;generalize h.v=v' at *;generalize h.d=d' at *;have q0:=fun d os=>hc0 _ (below_regrown wo d os)
   have q1:=fun d os=>hc1 _ (below_regrown wo d os)
   have q2:=fun d os=>hc2 _ (below_regrown wo d os)
   have q3:=fun d os=>hc3 _ (below_regrown wo d os)
   have q4:=fun d os=>hc4 _ (below_regrown wo d os)
   have q5:=fun d os=>hc5 _ (below_regrown wo d os)
   have r0:=fun d os=>(BR.again d os).cell 0 rfl
   have r1:=fun d os=>(BR.again d os).cell 1 rfl
   have r2:=fun d os=>(BR.again d os).cell 2 rfl
   have r3:=fun d os=>(BR.again d os).cell 3 rfl
   have r4:=fun d os=>(BR.again d os).cell 4 rfl
   go_wp2_with fail;refine wp_region_quiet_below (by kernel_rfl) (by kernel_rfl) ?_
   repeat (go_big_quiet_step (first
    | (go_at_call 31;with_reducible exact Calls.regrown_of (kE _ _))))
   refine wpQuiet_nil ?_;rintro _ ⟨q,rfl⟩;have hbo:=below_regrown wo q.d q.os;replace st:=st.call hbo;replace BR:=BR.call hbo;replace hLL:=hLL.call hbo;clear kE q0 q1 q2 q3 q4 q5 r0 r1 r2 r3 r4;generalize Sort.grow (redrawn wo q.d) q.os=w2 at *;have z1:decide (ow<0)=false:=decide_eq_false (by omega);have g1:=hc1 _ hbo;go_wp2_with fail;clear g1 z1
   go_loopw [17,16] (fun s17 s16 wr=>∃(k cn:Nat) (tt:Int),k<=lo.toNat/\Kp (tt=f'+k)/\Kp (Tf.cnt ph f' k=cn)/\s17=.int .i64 tt/\s16=.int .i64 cn/\Below wo.heap.size wo wr/\SE w wr/\Bx wr gR 31 #[.int .i64 c,.int .i64 e,.int .i64 lo,.int .i64 re,.int .i64 pay]/\HoA wr (some ⟨b,off,none⟩) lcap L) (fun s17 _ _=>lo.toNat-(intOf s17-f').toNat)
   case atStart=>exact⟨0,0,f',Nat.zero_le _,⟨by simp⟩,⟨rfl⟩,rfl,rfl,hbo,st,BR,hLL⟩
   case round =>
    clear st BR hLL hbo;obtain ⟨k,cn,tt,hk,htt,hcn,rfl,rfl,hbo,st,BR,hLL⟩:=hrel
    have c40:cn<=20:=by
     have h:=Tf.cnt_le ph f' k;rw [hcn.out]at h;omega
    have b1:f'<=tt:=by have:=htt.out;omega
    have b2:tt<=f'+20:=by have:=htt.out;omega
    have q1:=fun d os=>hc1 _ (bAgain hbo d os)
    have r2:=fun d os=>(BR.again d os).cell 2 rfl
    by_cases hlt2:k<lo.toNat
    case pos =>
     have t9:decide (tt<f'+lo)=true:=decide_eq_true (by have:=htt.out;omega)
     have hnx:Kp (Tf.cnt ph f' (k+1)=cn+if ph tt then 1 else 0):=⟨by
      show Tf.cnt ph f' k+(if ph (f'+k) then 1 else 0)=_
      rw[hcn.out,htt.out]⟩
     have hme:lo.toNat-(tt+1-f').toNat<lo.toNat-(tt-f').toNat:=by have:=htt.out;omega
     have htn:Kp (tt+1=f'+((k+1:Nat):Int)):=⟨by have:=htt.out;omega⟩
     have kH:=hS' tt;clear hS' hcn htt hon1 hrt1 hpn hln hpb1;generalize ph tt=hb at *;go_wp2_with fail;refine wp_region_quiet_below (by kernel_rfl) (by kernel_rfl) ?_
     repeat (go_big_quiet_step (fail))
     refine wpQuiet_nil ?_;rintro _ ⟨q,rfl⟩;clear q1 r2;have hb1:=below_regrown wr q.d q.os;replace st:=st.call hb1;replace BR:=BR.call hb1;replace hLL:=hLL.call hb1;replace hbo:=bCall hbo hb1;clear hb1 t9;generalize Sort.grow (redrawn wr q.d) q.os=w3 at *;go_upto_region 19 with fail;refine RS.wp_region_rgl (RS.cls_KZ (w3.heap.size) 4 #[] #[]) [] [RS.Eqv (.agg #[.int .i64 c,.int .i64 e,.int .i64 lo,.int .i64 re,.int .i64 pay]),RS.Eqv (.slice (some ⟨b,off,none⟩) L.length lcap),RS.Eqv (.int .i64 (i:Int)),RS.Eqv (.pointer (some ⟨b,off+i*6,none⟩)),RS.Eqv (.agg #[.int .i64 n',.int .i64 f',.string ⟨b1'.toArray⟩,.string ⟨b2'.toArray⟩,.int .i64 v',.int .i64 d']),RS.SlZ (w3.heap.size) 53 1 #[.int .i64 n',.int .i64 f',.string ⟨b1'.toArray⟩,.string ⟨b2'.toArray⟩,.int .i64 v',.int .i64 d'],RS.Eqv (.slice (some ⟨b,off,none⟩) L.length lcap),RS.Eqv (.int .i64 (i:Int)),RS.Eqv (.pointer (some ⟨b,off+i*6,none⟩)),RS.Eqv (.pointer (some ⟨b,off+i*6,none⟩)),RS.Eqv (.int .i64 n'),RS.Eqv (.int .i64 tt),RS.Eqv (.bool hb)] 13 162 (by kernel_rfl) rfl rfl (by kernel_rfl) (by kernel_rfl) ?_ ?_ ?_
     · simp only[RS.AllS];exact ⟨RS.stab_eqv _,RS.stab_eqv _,RS.stab_eqv _,RS.stab_eqv _,RS.stab_eqv _,RS.stab_slZ (by first|(left;decide)|(right;decide)|(right;simp)),RS.stab_eqv _,RS.stab_eqv _,RS.stab_eqv _,RS.stab_eqv _,RS.stab_eqv _,RS.stab_eqv _,RS.stab_eqv _,trivial⟩
     · simp only[RS.UsersG,List.take,List.length];refine ⟨?_,?_,?_,?_,?_,?_,?_,?_,?_,?_,?_,?_,?_,trivial⟩;all_goals (intro vs w2 hb2 hd;simp only[RS.putD,Act.put,List.nil_append,List.cons_append,List.setIfInBounds_toArray,List.set_cons_succ,List.set_cons_zero,Nat.reduceAdd];clear hme hnx htn)
       · have q0:=(BR.below hb2.bl BR.lt).cell 0 rfl;have q1:=(BR.below hb2.bl BR.lt).cell 1 rfl;have q2:=(BR.below hb2.bl BR.lt).cell 2 rfl;have q3:=(BR.below hb2.bl BR.lt).cell 3 rfl;have q4:=(BR.below hb2.bl BR.lt).cell 4 rfl;clear hd hc0 hc1 hc2 hc3 hc4 hc5 kH;go_wp2;first|exact⟨.rf ..,rfl⟩|simp[RS.Eqv,RS.KZ.rf]
       · clear hd hc0 hc1 hc2 hc3 hc4 hc5 kH;go_wp2;first|exact⟨.rf ..,rfl⟩|simp[RS.Eqv,RS.KZ.rf]
       · clear hd hc0 hc1 hc2 hc3 hc4 hc5 kH;go_wp2;first|exact⟨.rf ..,rfl⟩|simp[RS.Eqv,RS.KZ.rf]
       · have e0:vs 1=_:=hd 1 rfl;have e1:vs 2=_:=hd 2 rfl;clear hd hc0 hc1 hc2 hc3 hc4 hc5 kH;rw [e0,e1];go_wp2;first|exact⟨.rf ..,rfl⟩|simp[RS.Eqv,RS.KZ.rf]
       · have e0:vs 3=_:=hd 3 rfl;have q0:=hc0 _ (hbo.trans (hb2.bl.mono hbo.size));have q1:=hc1 _ (hbo.trans (hb2.bl.mono hbo.size));have q2:=hc2 _ (hbo.trans (hb2.bl.mono hbo.size));have q3:=hc3 _ (hbo.trans (hb2.bl.mono hbo.size));have q4:=hc4 _ (hbo.trans (hb2.bl.mono hbo.size));have q5:=hc5 _ (hbo.trans (hb2.bl.mono hbo.size));clear hd hc0 hc1 hc2 hc3 hc4 hc5 kH;rw [e0];go_wp2;first|exact⟨.rf ..,rfl⟩|simp[RS.Eqv,RS.KZ.rf]
       · have e0:vs 4=_:=hd 4 rfl;have hK:=hb2.slice (Nat.le_refl _) 53 1 #[.int .i64 n',.int .i64 f',.string ⟨b1'.toArray⟩,.string ⟨b2'.toArray⟩,.int .i64 v',.int .i64 d'] undef;clear hd hc0 hc1 hc2 hc3 hc4 hc5 kH hb2;rw [e0];go_wp2;first|exact hK|exact hK.2|exact⟨hK.1,hK.2⟩
       · clear hd hc0 hc1 hc2 hc3 hc4 hc5 kH;go_wp2;first|exact⟨.rf ..,rfl⟩|simp[RS.Eqv,RS.KZ.rf]
       · clear hd hc0 hc1 hc2 hc3 hc4 hc5 kH;go_wp2;first|exact⟨.rf ..,rfl⟩|simp[RS.Eqv,RS.KZ.rf]
       · have e0:vs 6=_:=hd 6 rfl;have e1:vs 7=_:=hd 7 rfl;clear hd hc0 hc1 hc2 hc3 hc4 hc5 kH;rw [e0,e1];go_wp2;first|exact⟨.rf ..,rfl⟩|simp[RS.Eqv,RS.KZ.rf]
       · have e0:vs 8=_:=hd 8 rfl;clear hd hc0 hc1 hc2 hc3 hc4 hc5 kH;rw [e0];go_wp2;first|exact⟨.rf ..,rfl⟩|simp[RS.Eqv,RS.KZ.rf]
       · have e0:vs 9=_:=hd 9 rfl;have q0:=hc0 _ (hbo.trans (hb2.bl.mono hbo.size));clear hd hc0 hc1 hc2 hc3 hc4 hc5 kH;rw [e0];go_wp2;first|exact⟨.rf ..,rfl⟩|simp[RS.Eqv,RS.KZ.rf]
       · clear hd hc0 hc1 hc2 hc3 hc4 hc5 kH;go_wp2;first|exact⟨.rf ..,rfl⟩|simp[RS.Eqv,RS.KZ.rf]
       · have e0:vs 0=_:=hd 0 rfl;have e1:vs 10=_:=hd 10 rfl;have e2:vs 11=_:=hd 11 rfl;obtain⟨gs5,es5,hgs5,hBs5⟩:=hd 5 rfl;change vs 5=_ at es5;have hC:=kH _ w2 hBs5 (st.env.below hb2.bl);clear hd hc0 hc1 hc2 hc3 hc4 hc5 kH;rw [e0,e1,e2,es5];go_wp2_with fail;refine hC.mono ?_;rintro _ w9 ⟨rfl,hb9⟩;clear hC;have hK9:=hb2.call (Nat.le_refl _) hb9;go_wp2;first|exact⟨hK9,rfl⟩|exact hK9|rfl
     · intro vs w4 hba hR2;simp only[RS.AllR,RS.Eqv]at hR2;obtain ⟨e0,e1,e2,e3,e4,e5,e6,e7,e8,e9,e10,e11,e12,-⟩:=hR2;obtain ⟨gL5,egL5,hgL5,BL5⟩:=e5;simp only[List.drop,List.take,List.map,RS.putD,Act.put,List.setIfInBounds_toArray,List.set_cons_succ,List.set_cons_zero,Nat.reduceAdd];rw [e0,e1,e2,e3,e4,egL5,e6,e7,e8,e9,e10,e11,e12];clear e0 e1 e2 e3 e4 e6 e7 e8 e9 e10 e11 e12 egL5 BL5 hgL5;have hb1:=hba.bl;replace st:=st.call hb1;replace BR:=BR.call hb1;replace hLL:=hLL.call hb1;replace hbo:=bCall hbo hb1;clear hb1 hba hc0 hc1 hc2 hc3 hc4 hc5 kH;cases hb
       all_goals
        go_wp2;exact ⟨⟨k+1,_,tt+1,by omega,htn,hnx,by go_num,by first|rfl|go_num,hbo,st,BR,hLL⟩,by simpa [intOf] using hme⟩
    case neg =>
     obtain rfl:k=lo.toNat:=by omega
     have t9:decide (tt<f'+lo)=false:=decide_eq_false (by have:=htt.out;omega);have hcf:(cn:Int)=fi-f':=by rw[←hcn.out];exact hon1.out
     have m1:0<=pay*(cn:Int):=Int.mul_nonneg pay0 (by omega);have m2:pay*(cn:Int)<=9*20:=Int.mul_le_mul p9 (by omega) (by omega) (by decide)
     have ways:((v'==1)=true/\decide (d'<f'+lo)=true/\Kp (ow=0))∨((v'==1)=true/\decide (d'<f'+lo)=false/\Kp (ow=pay*(cn:Int)))∨((v'==1)=false/\Kp (ow=pay*(cn:Int))):=by
      have hr:=hrt1.out;rw [hcf];by_cases v1:v'=1
      · by_cases d1:d'<f'+lo
        · exact .inl ⟨by simpa using v1,decide_eq_true d1,⟨hr.1 ⟨v1,d1⟩⟩⟩
        · exact .inr (.inl ⟨by simpa using v1,decide_eq_false d1,⟨hr.2 fun h=>d1 h.2⟩⟩)
      · exact .inr (.inr ⟨by simpa using v1,⟨hr.2 fun h=>v1 h.1⟩⟩)
     clear hcf hcn htt hon1 hrt1 hS';have hlm:Kp (la<=max la (f'+lo)/\max la (f'+lo)<=404):=⟨by omega⟩
     go_wp2_with fail;refine wp_region_quiet_below (by kernel_rfl) (by kernel_rfl) ?_
     repeat (go_big_quiet_step (fail))
     refine wpQuiet_nil ?_;rintro _ ⟨q,rfl⟩;clear q1 r2;have hb1:=below_regrown wr q.d q.os;replace st:=st.call hb1;replace BR:=BR.call hb1;replace hLL:=hLL.call hb1;replace hbo:=bCall hbo hb1;clear hb1 t9;generalize Sort.grow (redrawn wr q.d) q.os=w3 at *;have q1:=fun d os=>hc1 _ (bAgain hbo d os)
     have q3:=fun d os=>hc3 _ (bAgain hbo d os)
     have q4:=fun d os=>hc4 _ (bAgain hbo d os)
     have q5:=fun d os=>hc5 _ (bAgain hbo d os)
     have r2:=fun d os=>(BR.again d os).cell 2 rfl
     rcases ways with ⟨v1,d1,ho⟩|⟨v1,d1,ho⟩|⟨v1,ho⟩
     all_goals
      obtain rfl:=ho.out;clear ho;go_wp2_with fail;refine wp_region_quiet_below (by kernel_rfl) (by kernel_rfl) ?_
      repeat (go_big_quiet_step (fail))
      refine wpQuiet_nil ?_;rintro _ ⟨q,rfl⟩;clear q1 q3 q4 q5 r2;have hb1:=below_regrown w3 q.d q.os;replace st:=st.call hb1;replace BR:=BR.call hb1;replace hLL:=hLL.call hb1;replace hbo:=bCall hbo hb1;clear hb1 v1
      (try clear d1)
      generalize Sort.grow (redrawn w3 q.d) q.os=w4 at *;have r4:=BR.cell 4 rfl;have tne:(pay*(cn:Int) != pay*(cn:Int))=false:=by simp
      have teq:(pay*(cn:Int)==pay*(cn:Int))=true:=by simp
      go_upto_region 24 with fail;clear r4 tne teq;refine RS.wp_region_rgl (RS.cls_KZ (w4.heap.size) 4 #[] #[]) [] [RS.Eqv (.int .i64 la),RS.Eqv (.slice (some ⟨b,off,none⟩) L.length lcap),RS.Eqv (.int .i64 (i:Int)),RS.Eqv (.pointer (some ⟨b,off+i*6,none⟩)),RS.Eqv (.pointer (some ⟨b,off+i*6+1,none⟩)),RS.Eqv (.int .i64 f'),RS.Eqv (.pointer (some ⟨gR,2,none⟩)),RS.Eqv (.int .i64 lo),RS.Eqv (.int .i64 (f'+lo)),RS.Eqv (.int .i64 (max la (f'+lo)))] 10 162 (by kernel_rfl) rfl rfl (by kernel_rfl) (by kernel_rfl) ?_ ?_ ?_
      · simp only[RS.AllS];exact ⟨RS.stab_eqv _,RS.stab_eqv _,RS.stab_eqv _,RS.stab_eqv _,RS.stab_eqv _,RS.stab_eqv _,RS.stab_eqv _,RS.stab_eqv _,RS.stab_eqv _,RS.stab_eqv _,trivial⟩
      · simp only[RS.UsersG,List.take,List.length];refine ⟨?_,?_,?_,?_,?_,?_,?_,?_,?_,?_,trivial⟩;all_goals (intro vs w2 hb2 hd;simp only[RS.putD,Act.put,List.nil_append,List.cons_append,List.setIfInBounds_toArray,List.set_cons_succ,List.set_cons_zero,Nat.reduceAdd];clear hc0 hc2 hc3 hc4 hc5 hlm hln hpb1 hpn)
        · clear hd hc1;go_wp2;first|exact⟨.rf ..,rfl⟩|simp[RS.Eqv,RS.KZ.rf]
        · clear hd hc1;go_wp2;first|exact⟨.rf ..,rfl⟩|simp[RS.Eqv,RS.KZ.rf]
        · clear hd hc1;go_wp2;first|exact⟨.rf ..,rfl⟩|simp[RS.Eqv,RS.KZ.rf]
        · have e0:vs 1=_:=hd 1 rfl;have e1:vs 2=_:=hd 2 rfl;clear hd hc1;rw [e0,e1];go_wp2;first|exact⟨.rf ..,rfl⟩|simp[RS.Eqv,RS.KZ.rf]
        · have e0:vs 3=_:=hd 3 rfl;clear hd hc1;rw [e0];go_wp2;first|exact⟨.rf ..,rfl⟩|simp[RS.Eqv,RS.KZ.rf]
        · have e0:vs 4=_:=hd 4 rfl;have q1:=hc1 _ (hbo.trans (hb2.bl.mono hbo.size));clear hd hc1;rw [e0];go_wp2;first|exact⟨.rf ..,rfl⟩|simp[RS.Eqv,RS.KZ.rf]
        · clear hd hc1;go_wp2;first|exact⟨.rf ..,rfl⟩|simp[RS.Eqv,RS.KZ.rf]
        · have e0:vs 6=_:=hd 6 rfl;have q2:=(BR.below hb2.bl BR.lt).cell 2 rfl;clear hd hc1;rw [e0];go_wp2;first|exact⟨.rf ..,rfl⟩|simp[RS.Eqv,RS.KZ.rf]
        · have e0:vs 5=_:=hd 5 rfl;have e1:vs 7=_:=hd 7 rfl;clear hd hc1;rw [e0,e1];go_wp2;first|exact⟨.rf ..,rfl⟩|simp[RS.Eqv,RS.KZ.rf]
        · have e0:vs 0=_:=hd 0 rfl;have e1:vs 8=_:=hd 8 rfl;clear hd hc1;rw [e0,e1];go_wp2;first|exact⟨.rf ..,rfl⟩|simp[RS.Eqv,RS.KZ.rf]
      · intro vs w5 hba hR2;simp only[RS.AllR,RS.Eqv]at hR2;obtain ⟨e0,e1,e2,e3,e4,e5,e6,e7,e8,e9,-⟩:=hR2;simp only[List.drop,List.take,List.map,RS.putD,Act.put,List.setIfInBounds_toArray,List.set_cons_succ,List.set_cons_zero,Nat.reduceAdd];rw [e0,e1,e2,e3,e4,e5,e6,e7,e8,e9];clear e0 e1 e2 e3 e4 e5 e6 e7 e8 e9;have hb1:=hba.bl;replace st:=st.call hb1;replace BR:=BR.call hb1;replace hLL:=hLL.call hb1;replace hbo:=bCall hbo hb1;clear hb1 hba;have g0:=hc0 _ hbo;clear hc0 hc1 hc2 hc3 hc4 hc5;obtain ⟨lm1,lm2⟩:=hlm.out;generalize max la (f'+lo)=la' at *;by_cases hnn:n'=5+pn
        case pos =>
         rw[if_pos hnn]at hpn;have tn:(n'==5+pn)=true:=by simpa using hnn
         clear hnn;have hme:L.length-(i+1)<L.length-i:=by omega
         go_wp2;exact ⟨⟨i+1,la',_,by omega,hpn,hln,by go_num,rfl,by first|rfl|go_num,st,BR,hLL⟩,by simp[intOf] <;> omega⟩
        case neg =>
         rw[if_neg hnn]at hpn;have tn:(n'==5+pn)=false:=by simpa using hnn
         clear hnn;go_wp2;exact ⟨⟨i+1,la',_,by omega,hpn,hln,by go_num,rfl,rfl,st,BR,hLL⟩,by simp[intOf] <;> omega⟩
  case neg =>
   obtain rfl:i=L.length:=by omega
   rw[List.take_length]at hod hla;have hle:=hend.out;rw [hod.out,hla.out]at hle;replace hle:=Kp.mk hle;have hH:=fun tt w0 h0 hE0=>held_ok hVR.out LA lcap (5+pn) tt w0 h0 hE0
   clear hOw hfb hob hon hrt hSg hpb hlb hend hod hla;go_wp2_with fail
   go_loopw [20,19] (fun s20 s19 wr=>∃(k cn:Nat),k<=la.toNat/\Kp (Tf.cnt (Tf.held ⟨c,e,lo,re,pay⟩ L (5+pn)) 0 k=cn)/\s20=.int .i64 k/\s19=.int .i64 cn/\SE w wr/\Bx wr gR 31 #[.int .i64 c,.int .i64 e,.int .i64 lo,.int .i64 re,.int .i64 pay]/\HoA wr LA lcap L) (fun s20 _ _=>la.toNat-(intOf s20).toNat)
   case atStart=>exact⟨0,0,Nat.zero_le _,⟨rfl⟩,rfl,rfl,st,BR,hLL⟩
   case round =>
    clear st BR hLL;obtain ⟨k,cn,hk,hcn,rfl,rfl,st,BR,hLL⟩:=hrel
    have c40:cn<=404:=by
     have h:=Tf.cnt_le (Tf.held ⟨c,e,lo,re,pay⟩ L (5+pn)) 0 k;rw [hcn.out]at h;omega
    by_cases hlt2:k<la.toNat
    case pos =>
     have t9:decide ((k:Int)<la)=true:=decide_eq_true (by omega)
     have hnx:Kp (Tf.cnt (Tf.held ⟨c,e,lo,re,pay⟩ L (5+pn)) 0 (k+1)=cn+if Tf.held ⟨c,e,lo,re,pay⟩ L (5+pn) k then 1 else 0):=⟨by
      show Tf.cnt (Tf.held ⟨c,e,lo,re,pay⟩ L (5+pn)) 0 k+(if Tf.held ⟨c,e,lo,re,pay⟩ L (5+pn) (0+(k:Int)) then 1 else 0)=_
      rw[hcn.out,Int.zero_add]⟩
     have hme:la.toNat-((k:Int)+1).toNat<la.toNat-((k:Int)).toNat:=by omega
     have kH:=hH (k:Int) wr hLL st.env;clear hH hcn hle;generalize Tf.held ⟨c,e,lo,re,pay⟩ L (5+pn) k=hb at *;have c0:=BR.cell 0 rfl;have c1':=BR.cell 1 rfl;have c2:=BR.cell 2 rfl;have c3:=BR.cell 3 rfl;have c4:=BR.cell 4 rfl;go_wp2_with fail;refine kH.mono ?_;rintro _ w5 ⟨rfl,hb1⟩;replace st:=st.call hb1;replace BR:=BR.call hb1;replace hLL:=hLL.call hb1;clear hb1 kH c0 c1' c2 c3 c4;cases hb
     all_goals
      go_wp2;exact ⟨⟨k+1,_,by omega,hnx,by go_num,by first|rfl|go_num,st,BR,hLL⟩,by simpa [intOf] using hme⟩
    case neg =>
     obtain rfl:k=la.toNat:=by omega
     have t9:decide (((la.toNat:Nat):Int)<la)=false:=decide_eq_false (by omega);have hfin:decide (od<=pay*(cn:Int))=true:=decide_eq_true (by have:=hle.out;rw[hcn.out]at this;exact this);have m1:0<=pay*(cn:Int):=Int.mul_nonneg pay0 (by omega);have m2:pay*(cn:Int)<=9*404:=Int.mul_le_mul p9 (by omega) (by omega) (by decide);clear hH hcn hle;have c4:=BR.cell 4 rfl;go_wp2;go_ret;exact ⟨by first|rfl|simp,st.bl⟩
end Go.Proofs.YtelljijajgiabaaGreatDoor

import Derived.Test.YtelljijajgiabaaGreatDoorQ14
import Derived.Test.YtelljijajgiabaaGreatDoorQ12
set_option linter.unusedVariables false
set_option linter.unusedSimpArgs false
set_option maxRecDepth 100000
set_option maxHeartbeats 8000000
namespace Go.Proofs.YtelljijajgiabaaGreatDoor
open Go.RowKit Go.Shelf
theorem rgrp_fits {z:Int} {b:Bool} {n:Nat} (h:sgn b n=z) (hz:Ig.fits z):(Dx.grp n).length<=200:=by
 have h1:=rfits_grp hz;rw [←h,sgn_abs]at h1;exact h1
theorem dg_one (W:World):DgAt (W.alloc (.cells #[.int .i64 1] 3)) 1 (.slice (some ⟨W.heap.size,0,none⟩) 1 1):=by
 have hg:Dx.grp 1=[1]:=by rw[Dx.grp_pos (by decide),show 1 / 10=0 from rfl,Dx.grp_zero];rfl
 have hB:=Bx.mk W 3 #[.int .i64 1];refine ⟨some ⟨W.heap.size,0,none⟩,1,by rw[hg];rfl,?_,by rw[hg];exact Nat.le_refl 1,by decide⟩;rw [hg];intro _;refine ⟨W.heap.size,0,rfl,hB.lt,fun i c hi j u hj=>?_⟩
 obtain rfl:i=0:=by
  rcases i with _|i;· rfl
  · simp at hi
 obtain rfl:c=1:=by simpa using hi.symm
 obtain rfl:j=0:=by
  rcases j with _|j;· rfl
  · simp[intC]at hj
 obtain rfl:u=.int .i64 1:=by simpa [intC] using hj.symm
 exact hB.cell 0 rfl
theorem rtext_dg (neg:Bool) (n:Nat) (v:Value) (w:World) (h:DgAt w n v) (hl:(Dx.grp n).length<=1000000) :
 Calls Tryz.prog 119 #[.bool neg,v] w fun e w'=>e=.returned (.tuple #[.string ⟨(Lib.itoa (sgn neg n)).toArray⟩,.bool (decide (Lib.nDigits n<=200))])/\Below w.heap.size w w':=by
 obtain⟨A,c,rfl,hA,hn,-⟩:=h.out;exact rtext_any neg n A c w hA hn hl
theorem itoa_eq0 {y:Int}:Lib.itoa y=[48]↔y=0:=by
 constructor
 · intro h;have h0:Lib.itoa 0=[48]:=by decide +kernel
   exact Ig.itoa_inj (h.trans h0.symm)
 · rintro rfl;decide +kernel
theorem rDiv_any (x y:Int) (w:World) (hx:Ig.fits x) (hy:Ig.fits y) (hy0:y≠0) :
 Calls Tryz.prog 118 #[.string ⟨(Lib.itoa x).toArray⟩,.string ⟨(Lib.itoa y).toArray⟩] w fun e w'=>e=.returned (.tuple #[.string ⟨(Lib.itoa (x / y)).toArray⟩,.string ⟨(Lib.itoa (x % y)).toArray⟩,.int .i64 0])/\Below w.heap.size w w':=by
 have hV1:=fun w0=>rvalid_itoa hx w0
 have hV2:=fun w0=>rvalid_itoa hy w0
 have hD1:=fun w0=>rdigits_any x w0 (by have:=rfits_dec hx;omega)
 have hD2:=fun w0=>rdigits_any y w0 (by have:=rfits_dec hy;omega)
 have la:=rfits_grp hx;have lb:=rfits_grp hy;have hyp:0<y.natAbs:=by omega
 have hne:(Lib.itoa y==[48])=false:=by
  rw[beq_eq_false_iff_ne];exact fun h=>hy0 (itoa_eq0.1 h)
 have hkeep:=fun h=>div_keep (x:=x) hy0 h
 have hturn:=fun h h'=>div_turn (x:=x) hy0 h h'
 have hsq:Kp (Ig.resS (x / y)=Lib.itoa (x / y)/\Ig.resE (x / y)=0):=⟨Ig.resS_fits (fits_div y hx),Ig.resE_fits (fits_div y hx)⟩
 have hfq:=fun b n (h:sgn b n=x / y)=>Kp.mk (rgrp_fits h (fits_div y hx))
 have hr0:Kp (∀n:Nat,(n:Int)=x % y->sgn false n=x % y):=⟨fun n h=>h⟩
 generalize x / y=q at *;generalize x % y=r at *;generalize decide (x<0)=nx at *;generalize decide (y<0)=ny at *;generalize x.natAbs=ax at *;generalize y.natAbs=ay at *;generalize Lib.itoa x=sx at *;generalize Lib.itoa y=sy at *;clear hx hy hy0;have hml:(Dx.grp (ax % ay)).length<=200:=Nat.le_trans (Dx.grp_len (Nat.lt_trans (Nat.mod_lt _ hyp) (Dx.grp_lt ay))) lb;have hdl:(Dx.grp (ax / ay)).length<=200:=Nat.le_trans (rgrp_le (Nat.div_le_self _ _)) la
 go_enter Tryz.func118,Tryz.ntmps118
 go_wp2_with fail;refine (hV1 _).mono ?_;rintro _ _ ⟨rfl,rfl⟩;go_wp2_with fail;refine (hV2 _).mono ?_;rintro _ _ ⟨rfl,rfl⟩;clear hV1 hV2;go_wp2_with fail;refine (hD1 _).mono ?_;rintro _ w1 ⟨v1,rfl,k1,hb1⟩;obtain ⟨A1,c1,rfl,-⟩:=id k1.out;clear hD1;go_wp2_with fail;refine (hD2 _).mono ?_;rintro _ w2 ⟨v2,rfl,k2,hb2⟩;obtain ⟨A2,c2,rfl,-⟩:=id k2.out;clear hD2;have k1':=k1.call hb2;have hb:=bCall hb1 hb2;clear k1 hb1 hb2;have hX:=rdivided_any ax ay _ _ _ k1' k2 hyp (by omega) (by omega);clear k1';go_wp2_with fail;refine hX.mono ?_;rintro _ w3 ⟨v3,v4,rfl,k3,k4,hb3⟩;obtain ⟨A3,c3,rfl,-⟩:=id k3.out;obtain ⟨A4,c4,rfl,-⟩:=id k4.out;have k2':=k2.call hb3;have hb':=bCall hb hb3;clear hX hb hb3 k2 hne;obtain ⟨neg,hneg⟩:=exK (nx != ny);rw [hneg.out]at hkeep hturn;by_cases hcase:nx=false∨ax % ay=0
 · obtain⟨hq,hr⟩:=hkeep hcase;have hC:=rchecked_any neg (ax / ay) _ w3 k3 (by omega);rw [hq,hsq.out.1,hsq.out.2]at hC;have hT:=fun w0 h0=>rtext_dg false (ax % ay) (.slice A4 (Dx.grp (ax % ay)).length c4) w0 h0 (by omega)
   rw[hr0.out _ hr]at hT
   have hS:Kp (nx=true->(Dx.grp (ax % ay)).length=0):=⟨fun h=>by
    rcases hcase with h1|h1
    · rw[h1]at h;cases h
    · exact Dx.grp_nil_len.2 h1⟩
   clear hkeep hturn hq hr hcase hfq hsq hr0 hdl k2' k3;generalize (Dx.grp (ax % ay)).length=ln at *;generalize (Dx.grp (ax / ay)).length=lq at *;cases nx <;> cases ny
   all_goals
    first
     | (obtain rfl:neg=true:=hneg.out.symm)
     | (obtain rfl:neg=false:=hneg.out.symm)
    first
     | (obtain rfl:ln=0:=hS.out rfl)
     | skip
    clear hS hneg;go_wp2_with fail;refine hC.mono ?_;rintro _ w5 ⟨rfl,hb5⟩;have k6:=k4.call hb5;have hb6:=bCall hb' hb5;clear hC k4 hb5;go_wp2_with fail;refine (hT _ k6).mono ?_;rintro _ w6 ⟨rfl,hb7⟩;have hb8:=bCall hb6 hb7;clear hT k6 hb7 hb6;go_wp2
    go_ret3
    exact⟨rfl,hb8⟩
 · have hnx:nx=true:=by
    cases nx
    · exact absurd (.inl rfl) hcase
    · rfl
   have hm:ax % ay≠0:=fun h=>hcase (.inr h)
   obtain⟨hq,hr⟩:=hturn hnx hm;subst hnx;have hln:(Dx.grp (ax % ay)).length≠0:=fun h=>hm (Dx.grp_nil_len.1 h)
   have t1:decide (((Dx.grp (ax % ay)).length:Int) > 0)=true:=decide_eq_true (by omega);have t2:decide (0<(Dx.grp (ax % ay)).length)=true:=decide_eq_true (by omega);have t3:0<(Dx.grp (ax % ay)).length:=by omega
   have hbn:=bNewW w3 (.cells #[.int .i64 1] 3);have hP:=rplus_any (ax / ay) 1 _ _ _ (k3.call hbn) (dg_one w3) (by omega) (by rw[Dx.grp_small (by decide) (by decide)];exact Nat.le_trans (Nat.le_refl 1) (by decide));have hb4:=bCall hb' hbn;have k2n:=k2'.call hbn;have k4n:=k4.call hbn;have hpl:=rgrp_add_len (a:=ax / ay) (b:=1) (n:=200) hdl (by rw[Dx.grp_small (by decide) (by decide)];exact Nat.le_trans (Nat.le_refl 1) (by decide));have hC:=fun w0 v h0=>rchecked_any neg (ax / ay+1) v w0 h0 (by omega)
   rw[hq,hsq.out.1,hsq.out.2]at hC;have hsl:(Dx.grp (ay-ax % ay)).length<=200:=Nat.le_trans (rgrp_le (Nat.sub_le _ _)) lb;have hT:=fun w0 v h0=>rtext_dg false (ay-ax % ay) v w0 h0 (by omega)
   rw[hr0.out _ hr]at hT;have hle:ax % ay<=ay:=Nat.le_of_lt (Nat.mod_lt _ hyp);have hM:=fun w0 u v h0 h1=>rminus_any ay (ax % ay) u v w0 h0 h1 hle (by omega)
   clear hkeep hturn hq hr hcase hfq hsq hr0 k2' k3 k4 hbn hm hle;cases ny
   all_goals
    first
     | (obtain rfl:neg=true:=hneg.out.symm)
     | (obtain rfl:neg=false:=hneg.out.symm)
    clear hneg;go_wp2_with fail;refine hP.mono ?_;rintro _ w5 ⟨v5,rfl,k5,hb5⟩;obtain ⟨A5,c5,rfl,-⟩:=id k5.out;have k2m:=k2n.call hb5;have k4m:=k4n.call hb5;have hb6:=bCall hb4 hb5;clear hP k2n k4n hb4 hb5;go_wp2_with fail;refine (hM _ _ _ k2m k4m).mono ?_;rintro _ w6 ⟨v6,rfl,k6,hb7⟩;obtain ⟨A6,c6,rfl,-⟩:=id k6.out;have k5m:=k5.call hb7;have hb8:=bCall hb6 hb7;clear hM k2m k4m k5 hb6 hb7;go_wp2_with fail;refine (hC _ _ k5m).mono ?_;rintro _ w7 ⟨rfl,hb9⟩;have k6m:=k6.call hb9;have hb10:=bCall hb8 hb9;clear hC k5m k6 hb8 hb9;go_wp2_with fail;refine (hT _ _ k6m).mono ?_;rintro _ w8 ⟨rfl,hb11⟩;have hb12:=bCall hb10 hb11;clear hT k6m hb10 hb11;go_wp2
    go_ret3
    exact⟨rfl,hb12⟩
theorem rGcd_any (x y:Int) (w:World) (hx:Ig.fits x) (hy:Ig.fits y) :
 Calls Tryz.prog 117 #[.string ⟨(Lib.itoa x).toArray⟩,.string ⟨(Lib.itoa y).toArray⟩] w fun e w'=>e=.returned (.tuple #[.string ⟨(Lib.itoa ((Nat.gcd x.natAbs y.natAbs:Nat):Int)).toArray⟩,.int .i64 0])/\Below w.heap.size w w':=by
 have hV1:=fun w0=>rvalid_itoa hx w0
 have hV2:=fun w0=>rvalid_itoa hy w0
 have hD1:=fun w0=>rdigits_any x w0 (by have:=rfits_dec hx;omega)
 have hD2:=fun w0=>rdigits_any y w0 (by have:=rfits_dec hy;omega)
 have la:=rfits_grp hx;have lb:=rfits_grp hy;have fg:=fits_gcd hx hy
 have hres:∀k,k=Nat.gcd x.natAbs y.natAbs->Kp (Ig.resS (sgn false k)=Lib.itoa ((Nat.gcd x.natAbs y.natAbs:Nat):Int)/\Ig.resE (sgn false k)=0):=fun k h=>⟨by
  rw[h,show sgn false (Nat.gcd x.natAbs y.natAbs)=((Nat.gcd x.natAbs y.natAbs:Nat):Int) from rfl]
  exact⟨Ig.resS_fits fg,Ig.resE_fits fg⟩⟩
 clear fg;generalize Lib.itoa ((Nat.gcd x.natAbs y.natAbs:Nat):Int)=SG at *;generalize decide (x<0)=nx at *;generalize decide (y<0)=ny at *;generalize x.natAbs=ax at *;generalize y.natAbs=ay at *;generalize Lib.itoa x=sx at *;generalize Lib.itoa y=sy at *;clear hx hy
 go_enter Tryz.func117,Tryz.ntmps117
 go_wp2_with fail;refine (hV1 _).mono ?_;rintro _ _ ⟨rfl,rfl⟩;go_wp2_with fail;refine (hV2 _).mono ?_;rintro _ _ ⟨rfl,rfl⟩;clear hV1 hV2;go_wp2_with fail;refine (hD1 _).mono ?_;rintro _ w1 ⟨v1,rfl,k1,hb1⟩;obtain ⟨A1,c1,rfl,-⟩:=id k1.out;clear hD1;go_wp2_with fail;refine (hD2 _).mono ?_;rintro _ w2 ⟨v2,rfl,k2,hb2⟩;obtain ⟨A2,c2,rfl,-⟩:=id k2.out;clear hD2;have k1':=k1.call hb2;have hb:=bCall hb1 hb2;clear k1 hb1 hb2;go_wp2_with fail
 go_loopw [7,9,10,11] (fun s7 s9 s10 s11 wr=>∃k l,DgAt wr k s7/\DgAt wr l s9/\(Dx.grp k).length<=200/\(Dx.grp l).length<=200/\Nat.gcd k l=Nat.gcd ax ay/\Below w.heap.size w wr) (fun s7 s9 s10 s11 wr=>Classical.epsilon (fun k=>DgAt wr k s9))
 case atStart=>exact⟨ax,ay,k1',k2,la,lb,rfl,hb⟩
 case round =>
  clear k1' k2 hb la lb;obtain ⟨k,l,hk,hl,lk,ll,hg,hb⟩:=hrel;have hm:=dgV_eq hl;obtain ⟨A3,c3,rfl,-⟩:=id hk.out;obtain ⟨A4,c4,rfl,-⟩:=id hl.out;by_cases h0:l=0
  · subst h0;have hl0:(Dx.grp 0).length=0:=by rw[Dx.grp_zero];rfl
    have hr:=hres k (by rw[←hg,Nat.gcd_zero_right]);have hT:=rchecked_any false k _ wr hk (by omega);rw [hr.out.1,hr.out.2]at hT;simp only[hl0];clear hres hm hg hl hr hk;go_wp2_with fail;refine hT.mono ?_;rintro _ w5 ⟨rfl,hb5⟩;clear hT;go_wp2
    go_ret2
    exact⟨rfl,bCall hb hb5⟩
  · have hl0:(Dx.grp l).length≠0:=fun e=>h0 (Dx.grp_nil_len.1 e)
    have t0:decide (((Dx.grp l).length:Int) > 0)=true:=decide_eq_true (by omega);have hO:=rdivided_any k l _ _ wr hk hl (by omega) (by omega) (by omega);go_wp2_with fail;refine hO.mono ?_;rintro _ w5 ⟨q,r,rfl,hq,hr,hb5⟩;clear hO t0;have hl5:=hl.call hb5;have hm5:=dgV_eq hr;obtain ⟨A5,c5,rfl,-⟩:=id hq.out;obtain ⟨A6,c6,rfl,-⟩:=id hr.out;go_wp2;refine ⟨⟨l,k % l,hl5,hr,ll,Nat.le_trans (rgrp_le (Nat.mod_le _ _)) lk,by rw[←hg,Nat.gcd_comm k l,Nat.gcd_rec l k,Nat.gcd_comm],bCall hb hb5⟩,?_⟩;rw [hm,hm5];exact Nat.mod_lt _ (by omega)
theorem fqValid_bad (n d:List UInt8) (b1 b2:Bool) (w:World) (hn:n.length<=1000000) (hd:d.length<=1000000) (h1:Ig.validS n=b1) (h2:Ig.validS d=b2) (hb:b1=false∨b2=false) :
 Calls Tryz.prog 79 #[.agg #[.string ⟨n.toArray⟩,.string ⟨d.toArray⟩]] w fun e w'=>e=.returned (.bool false)/\Below w.heap.size w w':=by
 have hV:=fun w0=>rValid_any n w0 hn
 have hV':=fun w0=>rValid_any d w0 hd
 rw[h1]at hV;rw [h2]at hV';have hb1:=bNewW w (.cells #[.string ⟨n.toArray⟩,.string ⟨d.toArray⟩] 51);have hB:=Bx.mk w 51 #[.string ⟨n.toArray⟩,.string ⟨d.toArray⟩];have c0:=hB.cell 0 rfl;have c1:=hB.cell 1 rfl;clear h1 h2 hn hd
 go_enter Tryz.func79,Tryz.ntmps79
 go_wp2_with fail;refine (hV _).mono ?_;rintro _ _ ⟨rfl,rfl⟩;go_wp2_with fail;refine (hV' _).mono ?_;rintro _ _ ⟨rfl,rfl⟩;clear hV hV';cases b1
 · clear hb;go_wp2;go_ret;exact ⟨rfl,hb1⟩
 · cases b2
   · clear hb;go_wp2;go_ret;exact ⟨rfl,hb1⟩
   · rcases hb with h|h <;> cases h
theorem fqValid_int (x y:Int) (w:World) (hx:Ig.fits x) (hy:Ig.fits y) :
 Calls Tryz.prog 79 #[.agg #[.string ⟨(Lib.itoa x).toArray⟩,.string ⟨(Lib.itoa y).toArray⟩]] w fun e w'=>e=.returned (.bool (decide (0<y)&&decide (Nat.gcd x.natAbs y.natAbs=1)))/\Below w.heap.size w w':=by
 have hV:=fun w0=>rValid_any (Lib.itoa x) w0 (fits_small hx)
 have hV':=fun w0=>rValid_any (Lib.itoa y) w0 (fits_small hy)
 rw[Ig.valid_itoa hx]at hV;rw [Ig.valid_itoa hy]at hV';have hC:=fun w0=>rCompare_any y 0 w0 hy fits_0
 rw[itoa_0]at hC;have hG:=fun w0=>rGcd_any x y w0 hx hy
 have h1:=itoa_is1 ((Nat.gcd x.natAbs y.natAbs:Nat):Int);have h2:decide (((Nat.gcd x.natAbs y.natAbs:Nat):Int)=1)=decide (Nat.gcd x.natAbs y.natAbs=1):=decide_eq_decide.2 (by omega);rw [h2]at h1
 have hc:decide (cmpZ y 0<=0)= !decide (0<y):=by
  unfold cmpZ
  by_cases h:0<y
  · rw[if_neg (by omega),if_pos h];simp[h]
  · by_cases h':y<0
    · rw[if_pos h'];simp[h]
    · rw[if_neg h',if_neg h];simp[h]
 generalize cmpZ y 0=cc at *;generalize Lib.itoa ((Nat.gcd x.natAbs y.natAbs:Nat):Int)=sg at *;generalize decide (Nat.gcd x.natAbs y.natAbs=1)=bg at *;generalize Lib.itoa x=n at *;generalize Lib.itoa y=d at *;generalize decide (0<y)=by0 at *;clear hx hy h2;have hb:=bNewW w (.cells #[.string ⟨n.toArray⟩,.string ⟨d.toArray⟩] 51);have hB:=Bx.mk w 51 #[.string ⟨n.toArray⟩,.string ⟨d.toArray⟩];have c0:=hB.cell 0 rfl;have c1:=hB.cell 1 rfl
 go_enter Tryz.func79,Tryz.ntmps79
 go_wp2_with fail;refine (hV _).mono ?_;rintro _ _ ⟨rfl,rfl⟩;go_wp2_with fail;refine (hV' _).mono ?_;rintro _ _ ⟨rfl,rfl⟩;clear hV hV';go_wp2_with fail;refine (hC _).mono ?_;rintro _ w3 ⟨rfl,hb1⟩;replace hb:=bCall hb hb1;replace hB:=hB.call hb1;have c0:=hB.cell 0 rfl;have c1:=hB.cell 1 rfl;clear hC;cases by0
 · have t:decide (cc<=0)=true:=hc;clear hc hG;go_wp2;go_ret;exact ⟨rfl,hb⟩
 · have t:decide (cc<=0)=false:=hc;have hG2:=hG w3;clear hc hG;go_wp2_with fail;refine hG2.mono ?_;rintro _ w4 ⟨rfl,hb1⟩;replace hb:=bCall hb hb1;clear hG2;go_wp2;go_ret;exact ⟨rfl,hb⟩
theorem fqValid_any (n d:List UInt8) (w:World) (hn:n.length<=1000000) (hd:d.length<=1000000) :
 Calls Tryz.prog 79 #[.agg #[.string ⟨n.toArray⟩,.string ⟨d.toArray⟩]] w fun e w'=>e=.returned (.bool (Rq.okB n d))/\Below w.heap.size w w':=by
 by_cases h1:Ig.validS n=true
 · by_cases h2:Ig.validS d=true
   · obtain⟨x,rfl,hx⟩:=Ig.valid_is h1;obtain ⟨y,rfl,hy⟩:=Ig.valid_is h2;have h:=fqValid_int x y w hx hy;by_cases hq:0<y/\Nat.gcd x.natAbs y.natAbs=1
     · obtain⟨q,e1,e2⟩:=Rq.valid_of hq.1 hq.2;rw [Rq.okB_true ⟨q,⟨by rw[e1];exact hx,by rw[e2];exact hy⟩,by rw[e1],by rw[e2]⟩];rw [decide_eq_true hq.1,decide_eq_true hq.2]at h;exact h
     · have h3:¬Rq.IsQ (Lib.itoa x) (Lib.itoa y):=by
        rintro ⟨q,-,e1,e2⟩;have e1:=Ig.itoa_inj e1;have e2:=Ig.itoa_inj e2;subst e1;subst e2;exact hq ⟨Rq.den_pos' q,Rq.q_gcd q⟩
       rw[Rq.okB_false h3]
       have h4:(decide (0<y)&&decide (Nat.gcd x.natAbs y.natAbs=1))=false:=by
        by_cases h5:0<y
        · rw[decide_eq_false (fun h6=>hq ⟨h5,h6⟩),Bool.and_false]
        · rw[decide_eq_false h5,Bool.false_and]
       rw[h4]at h;exact h
   · have h3:¬Rq.IsQ n d:=by
      rintro ⟨q,hf,-,rfl⟩;exact h2 (Ig.valid_itoa hf.den)
     rw[Rq.okB_false h3];exact fqValid_bad n d true false w hn hd h1 (by simpa using h2) (.inr rfl)
 · have h3:¬Rq.IsQ n d:=by
    rintro ⟨q,hf,rfl,-⟩;exact h1 (Ig.valid_itoa hf.num)
   rw[Rq.okB_false h3];exact fqValid_bad n d false (Ig.validS d) w hn hd (by simpa using h1) rfl (.inl rfl)
theorem fMake_pos (n d:Int) (w:World) (hn:Ig.fits n) (hf:Ig.fits d) (hd:0<d) :
 Calls Tryz.prog 74 #[.string ⟨(Lib.itoa n).toArray⟩,.string ⟨(Lib.itoa d).toArray⟩] w fun e w'=>e=.returned (.tuple #[QV (Rat.divInt n d),.int .i64 0])/\Below w.heap.size w w':=by
 have hV1:=fun w0=>rValid_any (Lib.itoa n) w0 (fits_small hn)
 have hV2:=fun w0=>rValid_any (Lib.itoa d) w0 (fits_small hf)
 rw[Ig.valid_itoa hn]at hV1;rw [Ig.valid_itoa hf]at hV2;have hC:=fun w0=>rCompare_any d 0 w0 hf fits_0
 rw[itoa_0]at hC;have hz:=itoa_is0 d;rw [decide_eq_false (by omega)]at hz;rw [cmpZ_gt' hd]at hC;have hn':=hn;have hf':=hf;have hd':=hd;have hG:=fun w0=>rGcd_any n d w0 hn' hf'
 have hg0:=fits_gcd_ne (n:=n) (d:=d) (by omega);have hgf:=fits_gcd hn' hf';have hD1:=fun w0=>rDiv_any n _ w0 hn' hgf hg0
 have hD2:=fun w0=>rDiv_any d _ w0 hf' hgf hg0
 obtain⟨e1,e2⟩:=Rq.make_pos (n:=n) (d:=d) hd';rw [←e1]at hD1;rw [←e2]at hD2
 unfold QV
 generalize Lib.itoa (Rat.divInt n d).num=sa at *;generalize Lib.itoa ((Rat.divInt n d).den:Int)=sb at *;generalize Lib.itoa (n % ((Nat.gcd n.natAbs d.natAbs:Nat):Int))=m1 at *;generalize Lib.itoa (d % ((Nat.gcd n.natAbs d.natAbs:Nat):Int))=m2 at *;generalize Lib.itoa ((Nat.gcd n.natAbs d.natAbs:Nat):Int)=sg at *;generalize Lib.itoa n=sn at *;generalize Lib.itoa d=sd at *;clear e1 e2 hg0 hgf hn' hf' hd' hn hf hd;have hb:=bNewW w (.cells #[.string ⟨#[]⟩,.string ⟨#[]⟩] 51);have BR:=Bx.mk w 51 #[.string ⟨#[]⟩,.string ⟨#[]⟩]
 go_enter Tryz.func74,Tryz.ntmps74
 go_wp2_with fail;refine (hV1 _).mono ?_;rintro _ _ ⟨rfl,rfl⟩;clear hV1;go_wp2_with fail;refine (hV2 _).mono ?_;rintro _ _ ⟨rfl,rfl⟩;clear hV2;go_wp2_with fail;refine (hC _).mono ?_;rintro _ w3 ⟨rfl,hb1⟩;replace hb:=bCall hb hb1;replace BR:=BR.call hb1;clear hC hb1;go_wp2_with fail;refine (hG _).mono ?_;rintro _ w4 ⟨rfl,hb1⟩;replace hb:=bCall hb hb1;replace BR:=BR.call hb1;clear hG hb1;go_wp2_with fail;refine (hD1 _).mono ?_;rintro _ w5 ⟨rfl,hb1⟩;replace hb:=bCall hb hb1;replace BR:=BR.call hb1;clear hD1 hb1;go_wp2_with fail;refine (hD2 _).mono ?_;rintro _ w6 ⟨rfl,hb1⟩;replace hb:=bCall hb hb1;replace BR:=BR.call hb1;clear hD2 hb1;have r0:=BR.cell 0 rfl;have r1:=BR.cell 1 rfl;have f0:=BR.frozen 0;have f1:=BR.frozen 1;have BR2:=(BR.set 0 (.string ⟨sa.toArray⟩)).set 1 (.string ⟨sb.toArray⟩);have hb2:=bSet (bSet hb (p:=⟨w.heap.size,0,none⟩) (Nat.le_refl _) (.string ⟨sa.toArray⟩)) (p:=⟨w.heap.size,1,none⟩) (Nat.le_refl _) (.string ⟨sb.toArray⟩);go_wp2;first|exact bodyPost_ret (results_Q rfl _ _ rfl rfl BR2) rfl ⟨rfl,hb2⟩|exact bodyPost_ret (results_Q rfl _ _ rfl rfl BR) rfl ⟨rfl,hb⟩
theorem fMake_neg (n d:Int) (w:World) (hn:Ig.fits n) (hf:Ig.fits d) (hd:d<0) :
 Calls Tryz.prog 74 #[.string ⟨(Lib.itoa n).toArray⟩,.string ⟨(Lib.itoa d).toArray⟩] w fun e w'=>e=.returned (.tuple #[QV (Rat.divInt n d),.int .i64 0])/\Below w.heap.size w w':=by
 have hV1:=fun w0=>rValid_any (Lib.itoa n) w0 (fits_small hn)
 have hV2:=fun w0=>rValid_any (Lib.itoa d) w0 (fits_small hf)
 rw[Ig.valid_itoa hn]at hV1;rw [Ig.valid_itoa hf]at hV2;have hC:=fun w0=>rCompare_any d 0 w0 hf fits_0
 rw[itoa_0]at hC;have hz:=itoa_is0 d;rw [decide_eq_false (by omega)]at hz;rw [cmpZ_lt' hd]at hC;have hn':Ig.fits (0-n):=by unfold Ig.fits at *;omega
 have hf':Ig.fits (0-d):=by unfold Ig.fits at *;omega
 have hd':0<0-d:=by omega
 have hS1:=fun w0=>rSub_any 0 n w0 fits_0 hn
 have hS2:=fun w0=>rSub_any 0 d w0 fits_0 hf
 rw[Ig.resS_fits hn',Ig.resE_fits hn',itoa_0]at hS1;rw [Ig.resS_fits hf',Ig.resE_fits hf',itoa_0]at hS2;rw [Rq.make_neg];generalize hx:(0-n)=x at *;generalize hy:(0-d)=y at *;have hG:=fun w0=>rGcd_any x y w0 hn' hf'
 have hg0:=fits_gcd_ne (n:=x) (d:=y) (by omega);have hgf:=fits_gcd hn' hf';have hD1:=fun w0=>rDiv_any x _ w0 hn' hgf hg0
 have hD2:=fun w0=>rDiv_any y _ w0 hf' hgf hg0
 obtain⟨e1,e2⟩:=Rq.make_pos (n:=x) (d:=y) hd';rw [←e1]at hD1;rw [←e2]at hD2
 unfold QV
 generalize Lib.itoa (Rat.divInt x y).num=sa at *;generalize Lib.itoa ((Rat.divInt x y).den:Int)=sb at *;generalize Lib.itoa (x % ((Nat.gcd x.natAbs y.natAbs:Nat):Int))=m1 at *;generalize Lib.itoa (y % ((Nat.gcd x.natAbs y.natAbs:Nat):Int))=m2 at *;generalize Lib.itoa ((Nat.gcd x.natAbs y.natAbs:Nat):Int)=sg at *;generalize Lib.itoa x=sx at *;generalize Lib.itoa y=sy at *;generalize Lib.itoa n=sn at *;generalize Lib.itoa d=sd at *;clear e1 e2 hg0 hgf hn' hf' hd' hn hf hd hx hy;have hb:=bNewW w (.cells #[.string ⟨#[]⟩,.string ⟨#[]⟩] 51);have BR:=Bx.mk w 51 #[.string ⟨#[]⟩,.string ⟨#[]⟩]
 go_enter Tryz.func74,Tryz.ntmps74
 go_wp2_with fail;refine (hV1 _).mono ?_;rintro _ _ ⟨rfl,rfl⟩;clear hV1;go_wp2_with fail;refine (hV2 _).mono ?_;rintro _ _ ⟨rfl,rfl⟩;clear hV2;go_wp2_with fail;refine (hC _).mono ?_;rintro _ w3 ⟨rfl,hb1⟩;replace hb:=bCall hb hb1;replace BR:=BR.call hb1;clear hC hb1;go_wp2_with fail;refine (hS1 _).mono ?_;rintro _ w4 ⟨rfl,hb1⟩;replace hb:=bCall hb hb1;replace BR:=BR.call hb1;clear hS1 hb1;go_wp2_with fail;refine (hS2 _).mono ?_;rintro _ w5 ⟨rfl,hb1⟩;replace hb:=bCall hb hb1;replace BR:=BR.call hb1;clear hS2 hb1;go_wp2_with fail;refine (hG _).mono ?_;rintro _ w6 ⟨rfl,hb1⟩;replace hb:=bCall hb hb1;replace BR:=BR.call hb1;clear hG hb1;go_wp2_with fail;refine (hD1 _).mono ?_;rintro _ w7 ⟨rfl,hb1⟩;replace hb:=bCall hb hb1;replace BR:=BR.call hb1;clear hD1 hb1;go_wp2_with fail;refine (hD2 _).mono ?_;rintro _ w8 ⟨rfl,hb1⟩;replace hb:=bCall hb hb1;replace BR:=BR.call hb1;clear hD2 hb1;have r0:=BR.cell 0 rfl;have r1:=BR.cell 1 rfl;have f0:=BR.frozen 0;have f1:=BR.frozen 1;have BR2:=(BR.set 0 (.string ⟨sa.toArray⟩)).set 1 (.string ⟨sb.toArray⟩);have hb2:=bSet (bSet hb (p:=⟨w.heap.size,0,none⟩) (Nat.le_refl _) (.string ⟨sa.toArray⟩)) (p:=⟨w.heap.size,1,none⟩) (Nat.le_refl _) (.string ⟨sb.toArray⟩);go_wp2;first|exact bodyPost_ret (results_Q rfl _ _ rfl rfl BR2) rfl ⟨rfl,hb2⟩|exact bodyPost_ret (results_Q rfl _ _ rfl rfl BR) rfl ⟨rfl,hb⟩
theorem fMake_ok (n d:Int) (w:World) (hn:Ig.fits n) (hf:Ig.fits d) (hd:d≠0) :
 Calls Tryz.prog 74 #[.string ⟨(Lib.itoa n).toArray⟩,.string ⟨(Lib.itoa d).toArray⟩] w fun e w'=>e=.returned (.tuple #[QV (Rat.divInt n d),.int .i64 0])/\Below w.heap.size w w':=by
 rcases Int.lt_or_lt_of_ne hd with h|h
 · exact fMake_neg n d w hn hf h
 · exact fMake_pos n d w hn hf h
end Go.Proofs.YtelljijajgiabaaGreatDoor
namespace Go.Proofs.YtelljijajgiabaaGreatDoor.RS
open Go.RowKit
structure Cls (K:World->World->Prop):Prop where
 refl:∀w,K w w
 trans:∀ {a b c},K a b->K b c->K a c
 drawn:∀(w:World) n,K w { w with drawn:=n }
def slotV (ops:Array Oper) (a:Act) (j:Nat):Value :=
 match (ops[j]?).bind (·.dst) with
 | some d=>a.tmps.getD d undef
 | none=>undef
def putAll (vs:Nat->Value):Nat->List Oper->Act->Act
 | _,[],a=>a
 | k,o :: rest,a=>putAll vs (k+1) rest (a.put o.dst (vs k))
def SameF (ops:Array Oper) (n:Nat) (a0 a:Act):Prop :=
 a.defers=a0.defers/\a.tmps.size=a0.tmps.size/\∀t,(∀(i:Nat) (o:Oper),i<n->ops[i]? = some o->o.dst≠some t)->a.tmps.getD t undef=a0.tmps.getD t undef
def argV (ks:Nat->Option Nat) (f:Nat->Value) (j:Nat):Value:=match ks j with|some k=>f k|none=>undef
def StepRG (K:World->World->Prop) (ks:Nat->Option Nat) (P:Program) (ops:Array Oper) (n:Nat) (R:Nat->Value->Value->World->Prop) (w0:World) (a0:Act) (Q:Exit->Act->World->Prop) (i:Nat) (o:Oper):Prop :=
 ∀(a:Act) (w:World),K w0 w->SameF ops n a0 a->(∀e∈o.after,Region.binds .any e=true->R e.on (argV ks (slotV ops a) e.on) (slotV ops a e.on) w) ->
  if Region.wanted o (yielded ops a.tmps)=true then o.wp P a w (fun a' w'=>∃v,a'=a.put o.dst v/\K w w'/\R i (argV ks (slotV ops a) i) (if o.dst.isSome then v else undef) w') Q else R i (argV ks (slotV ops a) i) undef w
def okRG (ops:Array Oper) (n:Nat):Bool :=
 (List.range ops.size).all fun i=>match ops[i]? with
  | none=>true
  | some o=>(o.after.all fun e=> !Region.binds .any e||decide (e.on<i))&&(match o.dst with|some d=>decide (d<n)|none=>true) &&
   (List.range ops.size).all fun j=>decide (j=i)||match (ops[j]?).bind (·.dst),o.dst with|some d,some d'=>d != d'|_,_=>true
section
variable {P:Program} {ops:Array Oper} {R:Nat->Value->Value->World->Prop} {w0:World} {a0:Act} {Q:Exit->Act->World->Prop}
theorem any_rg {K:World->World->Prop} {ks:Nat->Option Nat} (hK:Cls K) {n g:Nat} (hok:okRG ops a0.tmps.size=true) (hsc:ops.size<=n∨(Region.sinkB .any ops n=true/\Region.chainB .any ops n=true)) (hn:n<=ops.size)
 (hks:∀i o k,ops[i]? = some o->ks i=some k->∃e∈o.after,Region.binds .any e=true/\e.on=k) (hst:∀i x v w w',R i x v w->K w w'->R i x v w') (hsteps:∀i o,i<n->ops[i]? = some o->StepRG K ks P ops n R w0 a0 Q i o)
 (hfin:∀listed a w,HeadInv .any ops n listed->(∀i,i<n->listed.getD i true=true)->K w0 w->SameF ops n a0 a->(∀i,i<n->R i (argV ks (slotV ops a) i) (slotV ops a i) w)->wpAny P .any ops Q g listed a w) :
 ∀(fuel:Nat) (listed:Array Bool) (a:Act) (w:World),HeadInv .any ops n listed->((List.range n).countP (fun i=> !listed.getD i true))=fuel->K w0 w->SameF ops n a0 a ->
  (∀i,i<n->listed.getD i false=true->R i (argV ks (slotV ops a) i) (slotV ops a i) w)->wpAny P .any ops Q (fuel+g) listed a w:=by
 intro fuel
 induction fuel with
 | zero =>
  intro listed a w inv hcnt hb hsame hR
  have hall:∀i,i<n->listed.getD i true=true:=by
   intro i hi;have:=List.countP_eq_zero.1 hcnt i (List.mem_range.2 hi);simpa using this
  rw[Nat.zero_add];exact hfin listed a w inv hall hb hsame fun i hi=>hR i hi (by have:=hall i hi;simpa [Array.getD_eq_getD_getElem?,inv.size,show i<ops.size by omega] using this)
 | succ fuel ih =>
  intro listed a w inv hcnt hb hsame hR
  have hex:∃i,i<n/\listed.getD i true=false:=by
   have h0:0<(List.range n).countP (fun i=> !listed.getD i true):=by omega
   obtain⟨i,hi,hp⟩:=List.countP_pos_iff.1 h0;exact ⟨i,List.mem_range.1 hi,by simpa using hp⟩
  rw[show fuel+1+g=(fuel+g)+1 by omega];refine ⟨fun he=>?_,fun i hi=>?_⟩
  · exfalso
    have hempty:∀i,i<n->listed.getD i true=true:=by
     intro i
     induction i using Nat.strongRecOn with
     | _ i ih =>
      intro hi
      cases hl:listed.getD i true with
      | true=>rfl
      | false =>
       have hoi:ops[i]? = some (ops[i]'(by omega)):=Array.getElem?_eq_getElem (by omega)
       have:i∈Region.ready .any ops listed:=mem_ready.2 ⟨hl,_,hoi,fun e hem hbd=>by
        have hlt:=(okRG_spec hok hoi).1 e hem hbd;have:=ih e.on hlt (by omega)
        simpa [Array.getD_eq_getD_getElem?,inv.size,show e.on<ops.size by omega] using this⟩
       rw[he]at this;cases this
    obtain⟨i,hi,hu⟩:=hex;rw [hempty i hi]at hu;cases hu
  obtain⟨hun,o,ho,hdeps⟩:=mem_ready.1 hi;have hin:i<ops.size:=(Array.getElem?_eq_some_iff.1 ho).1
  have hhead:i<n:=by
   obtain⟨k,hk,hu⟩:=hex
   rcases Nat.lt_or_ge i n with h|h
   · exact h
   · rcases hsc with hsc|⟨hs,hc⟩
     · omega
     · exact absurd hi (tail_waits hs hc (by omega) inv _ k rfl hk hu i h)
  obtain⟨hback,hbound,hdist⟩:=okRG_spec hok ho
  have hc':(List.range n).countP (fun j=> !(listed.setIfInBounds i true).getD j true)=fuel:=by
   have:=count_one (n:=n) (by rw[inv.size];exact hin) hun (List.range n) List.nodup_range (List.mem_range.2 hhead);omega
  have hstep:=hsteps i o hhead ho a w hb hsame (fun e he hbd=>hR e.on (by have:=hback e he hbd;omega) (hdeps e he hbd))
  have hput:∀v,SameF ops n a0 (a.put o.dst v):=by
   intro v;obtain ⟨e1,e2,e3⟩:=hsame
   cases hd:o.dst with
   | none=>exact⟨e1,e2,e3⟩
   | some d =>
    refine⟨e1,by simpa [Act.put] using e2,fun t ht=>?_⟩;rw [getD_put,if_neg (fun hh=>ht i o hhead ho (by rw[hd,hh.1])),e3 t ht]
  have hslot:∀v j,j≠i->slotV ops (a.put o.dst v) j=slotV ops a j:=by
   intro v j hj
   unfold slotV
   cases hd:o.dst with
   | none=>rfl
   | some d =>
    cases hoj:ops[j]? with
    | none=>rfl
    | some oj =>
     cases hdj:oj.dst with
     | none=>simp[hdj]
     | some dj =>
      simp only[Option.bind_some,hdj];rw [getD_put,if_neg (fun hh=>hdist j oj dj d hj hoj hdj hd hh.1)]
  have hself:∀v,slotV ops (a.put o.dst v) i=if o.dst.isSome then v else undef:=by
   intro v
   unfold slotV
   rw[ho]
   cases hd:o.dst with
   | none=>simp[hd]
   | some d =>
    simp only[Option.bind_some,hd,Option.isSome_some,if_true];rw [getD_put,if_pos ⟨rfl,by rw[hsame.2.1];exact hbound d hd⟩]
  have harg:∀v j oj,ops[j]? = some oj->(j=i∨listed.getD j false=true)->argV ks (slotV ops (a.put o.dst v)) j=argV ks (slotV ops a) j:=by
   intro v j oj hoj hj
   unfold argV
   cases hk:ks j with
   | none=>rfl
   | some k =>
    obtain⟨e,he,hbd,rfl⟩:=hks j oj k hoj hk;refine hslot v _ fun hki=>?_
    rcases hj with rfl|hj
    · have e1:oj=o:=Option.some.inj (hoj.symm.trans ho);subst e1;have:=hback e he hbd;omega
    · have hl:=inv.closed j oj hoj hj e he hbd;rw [hki]at hl;rw [getD_both hun]at hl;cases hl
  have hnext:∀v w',K w w'->R i (argV ks (slotV ops a) i) (if o.dst.isSome then v else undef) w'->wpAny P .any ops Q (fuel+g) (listed.setIfInBounds i true) (a.put o.dst v) w':=by
   intro v w' hbw hr;refine ih _ _ _ (inv.set hi hhead) hc' (hK.trans hb hbw) (hput v) fun j hjn hj=>?_
   by_cases hji:j=i
   · subst hji;rw[hself,harg v _ o ho (.inl rfl)];exact hr
   · have hlj:listed.getD j false=true:=by rw[←getD_set_ne false (fun h=>hji h.symm)];exact hj
     rw[hslot v j hji,harg v j (ops[j]'(by omega)) (Array.getElem?_eq_getElem (by omega)) (.inr hlj)];exact hst _ _ _ _ _ (hR j hjn hlj) hbw
  unfold wpOp
  simp only[ho];by_cases hw:Region.wanted o (yielded ops a.tmps)=true
  · rw[if_pos hw]at hstep ⊢;refine .inl ?_;exact Oper.wp_mono (fun a' w' hh=>by obtain⟨v,e,hb',hr⟩:=hh;subst e;exact hnext v w' hb' hr) hstep
  · rw[if_neg hw]at hstep ⊢;refine hnext undef w (hK.refl _) ?_
    split <;> exact hstep
theorem putAll_size (vs:Nat->Value):∀(l:List Oper) (k:Nat) (a:Act),(putAll vs k l a).tmps.size=a.tmps.size/\(putAll vs k l a).defers=a.defers
 | [],_,_=>⟨rfl,rfl⟩
 | o :: l,k,a=>by
  have:=putAll_size vs l (k+1) (a.put o.dst (vs k));refine ⟨this.1.trans ?_,this.2.trans ?_⟩ <;> cases o.dst <;> simp[Act.put]
theorem putAll_ne (vs:Nat->Value) (t:Nat):∀(l:List Oper) (k:Nat) (a:Act),(∀o∈l,o.dst≠some t)->(putAll vs k l a).tmps.getD t undef=a.tmps.getD t undef
 | [],_,_,_=>rfl
 | o :: l,k,a,h=>by
  refine (putAll_ne vs t l (k+1) _ fun o ho=>h o (by simp[ho])).trans ?_
  cases hd:o.dst with
  | none=>rfl
  | some d=>rw[getD_put,if_neg (fun hh=>h o (by simp) (by rw[hd,hh.1]))]
theorem putAll_eq (vs:Nat->Value) (t:Nat):∀(l:List Oper) (k j:Nat) (o:Oper) (a:Act),l[j]? = some o->o.dst=some t->(∀(i:Nat) (o':Oper),j<i->l[i]? = some o'->o'.dst≠some t)->t<a.tmps.size ->
 (putAll vs k l a).tmps.getD t undef=vs (k+j)
 | [],_,_,_,_,h,_,_,_=>by simp at h
 | x :: l,k,0,o,a,h,hd,hu,ht=>by
  obtain rfl:x=o:=by simpa using h
  refine (putAll_ne vs t l (k+1) _ fun o ho=>?_).trans ?_
  · obtain⟨i,hi⟩:=List.mem_iff_getElem?.1 ho;exact hu (i+1) o (by omega) (by simpa using hi)
  · rw[hd,getD_put,if_pos ⟨rfl,ht⟩];rfl
 | x :: l,k,j+1,o,a,h,hd,hu,ht=>by
  have:=putAll_eq vs t l (k+1) j o (a.put x.dst (vs k)) (by simpa using h) hd (fun i o' hji hi=>hu (i+1) o' (by omega) (by simpa using hi)) (by cases x.dst <;> simpa [Act.put] using ht);rw [show putAll vs k (x :: l) a=putAll vs (k+1) l (a.put x.dst (vs k)) from rfl,this,show k+1+j=k+(j+1) by omega]
def looksB (ops:Array Oper) (n:Nat):Bool :=
 (List.range n).all fun i=>match ops[i]? with
  | none=>true
  | some o=>o.guard.isNone&&(match o.op with|.select ..=>false|_=>true) &&
   (o.looksAt ops).all fun t=>(List.range ops.size).all fun j=>match ops[j]? with|some oj=>oj.dst != some t||decide (j<i)||decide (n<=j)|none=>true
def seen (ops:Array Oper) (vs:Nat->Value) (i:Nat) (a0:Act):Act:=putAll vs 0 (ops.toList.take i) a0
theorem take_get {ops:Array Oper} {i j:Nat} {o:Oper}:(ops.toList.take i)[j]? = some o↔j<i/\ops[j]? = some o:=by
 rw[List.getElem?_take]
 split
 · simp[*]
 · constructor
   · intro h;cases h
   · intro h;omega
theorem take_get' {l:List Oper} {i j:Nat} {o:Oper} (h:(l.take i)[j]? = some o):j<i/\l[j]? = some o:=by
 rw[List.getElem?_take]at h
 split at h
 · exact⟨by assumption,h⟩
 · cases h
theorem act_ext {a b:Act} (h:a.tmps=b.tmps) (h':a.defers=b.defers):a=b:=by cases a;cases b;simp_all
theorem seen_slot {n i:Nat} {a:Act} (hin:i<=n) (hok:okRG ops a0.tmps.size=true) (hsame:SameF ops n a0 a) {t:Nat} (hl:∀(j:Nat) (oj:Oper),ops[j]? = some oj->oj.dst=some t->j<i∨n<=j) :
 (seen ops (slotV ops a) i a0).tmps.getD t undef=a.tmps.getD t undef:=by
 by_cases hw:∃(j:Nat) (oj:Oper),j<n/\ops[j]? = some oj/\oj.dst=some t
 · obtain⟨j,oj,hjn,hj,hd⟩:=hw;have hsp:=okRG_spec hok hj;have hji:j<i:=(hl j oj hj hd).resolve_right (by omega)
   unfold seen
   rw[putAll_eq (slotV ops a) t _ 0 j oj a0 (take_get.2 ⟨hji,hj⟩) hd (fun k o' hjk hk hd'=>hsp.2.2 k o' t t (by omega) (take_get.1 hk).2 hd' hd rfl) (hsp.2.1 t hd)];simp [slotV,hj,hd]
 · have hno:∀(j:Nat) (oj:Oper),j<n->ops[j]? = some oj->oj.dst≠some t:=fun j oj hjn hj hd=>hw ⟨j,oj,hjn,hj,hd⟩
   rw[hsame.2.2 t hno]
   unfold seen
   refine putAll_ne _ _ _ _ _ fun o ho=>?_
   obtain⟨j,hj⟩:=List.mem_iff_getElem?.1 ho;have:=(take_get.1 hj).1;exact hno j o (by omega) (take_get.1 hj).2
def AllE (ks:Nat->Option Nat) (R:Nat->Value->Value->World->Prop) (vs:Nat->Value) (w:World):List Edge->Prop
 | []=>True
 | e :: l=>(Region.binds .any e=true->R e.on (argV ks vs e.on) (vs e.on) w)/\AllE ks R vs w l
theorem AllE_of {ks:Nat->Option Nat} {R:Nat->Value->Value->World->Prop} {vs:Nat->Value} {w:World}:∀(l:List Edge),(∀e∈l,Region.binds .any e=true->R e.on (argV ks vs e.on) (vs e.on) w)->AllE ks R vs w l
 | [],_=>trivial
 | e :: l,h=>⟨h e (by simp),AllE_of l fun e he=>h e (by simp[he])⟩
def dstV (o:Oper) (a:Act):Value:=match o.dst with|some d=>a.tmps.getD d undef|none=>undef
def UserRG (K:World->World->Prop) (ks:Nat->Option Nat) (P:Program) (ops:Array Oper) (R:Nat->Value->Value->World->Prop) (w0:World) (a0:Act) (i:Nat) (o:Oper):Prop :=
 ∀(vs:Nat->Value) (w:World),K w0 w->AllE ks R vs w o.after.toList ->
  wpList P ops (fun e a' w'=>e=.normal/\a'.defers=a0.defers/\K w w'/\R i (argV ks vs i) (dstV o a') w') [o] (seen ops vs i a0) w
def UsersRG (K:World->World->Prop) (ks:Nat->Option Nat) (P:Program) (ops:Array Oper) (R:Nat->Value->Value->World->Prop) (w0:World) (a0:Act):Nat->List Oper->Prop
 | _,[]=>True
 | k,o :: l=>UserRG K ks P ops R w0 a0 k o/\UsersRG K ks P ops R w0 a0 (k+1) l
theorem UsersRG.get {K:World->World->Prop} {ks:Nat->Option Nat} {P:Program} {ops:Array Oper} {R:Nat->Value->Value->World->Prop} {w0:World} {a0:Act}:∀(l:List Oper) (k j:Nat) (o:Oper),UsersRG K ks P ops R w0 a0 k l->l[j]? = some o->UserRG K ks P ops R w0 a0 (k+j) o
 | [],_,_,_,_,h=>by simp at h
 | x :: l,k,0,o,hh,h=>by
  obtain rfl:x=o:=by simpa using h
  exact hh.1
 | x :: l,k,j+1,o,hh,h=>by
  have:=UsersRG.get l (k+1) j o hh.2 (by simpa using h)
  rwa [show k+1+j=k+(j+1) by omega]at this
theorem not_letsOut {K:World->World->Prop} {a0:Act} {R:Value->World->Prop} {w:World} {o:Oper} (h:LetsOut (fun e a' w'=>e=.normal/\a'.defers=a0.defers/\K w w'/\R (dstV o a') w')):False:=by
 obtain⟨_,_,h,_⟩:=h;cases h
theorem step_of_userG {K:World->World->Prop} {ks:Nat->Option Nat} {n i:Nat} {o:Oper} (hok:okRG ops a0.tmps.size=true) (hlk:looksG ops n=true) (hi:i<n) (hin:n<=ops.size) (ho:ops[i]? = some o) (h:UserRG K ks P ops R w0 a0 i o):StepRG K ks P ops n R w0 a0 Q i o:=by
 intro a w hb hsame hdeps;have h1:=List.all_eq_true.1 hlk i (List.mem_range.2 hi);simp only[ho,Bool.and_eq_true]at h1;obtain ⟨hsel,hl⟩:=h1;have hu:=h (slotV ops a) w hb (AllE_of _ fun e he hbd=>hdeps e (by simpa using he) hbd)
 have hslots:∀t∈o.looksAt ops,(seen ops (slotV ops a) i a0).tmps.getD t undef=a.tmps.getD t undef:=fun t ht=>by
  have h2:=List.all_eq_true.1 hl t ht;refine seen_slot (Nat.le_of_lt hi) hok hsame fun j oj hj hd=>?_
  have h3:=List.all_eq_true.1 h2 j (List.mem_range.2 (Array.getElem?_eq_some_iff.1 hj).1);simpa [hj,hd] using h3
 have hsz:=putAll_size (slotV ops a) (ops.toList.take i) 0 a0;have hsz':(seen ops (slotV ops a) i a0).tmps.size=a.tmps.size:=by rw[seen,hsz.1,hsame.2.1]
 have hput:∀v,dstV o ((seen ops (slotV ops a) i a0).put o.dst v)=if o.dst.isSome then v else undef:=by
  intro v
  unfold dstV
  cases hd:o.dst with
  | none=>rfl
  | some d =>
   simp only[Option.isSome_some,if_true];rw [getD_put,if_pos ⟨rfl,by rw[seen,hsz.1];exact (okRG_spec hok ho).2.1 d hd⟩]
 simp only[wpList]at hu;rw [wanted_same hsz' hslots]at hu;by_cases hw:Region.wanted o (yielded ops a.tmps)=true
 · rw[if_pos hw]at hu ⊢
   have hexec:execOp a.eval o=execOp (seen ops (slotV ops a) i a0).eval o:=by
    refine execOp_congr o (fun cs b e=>by rw[e]at hsel;simp at hsel) fun x hx=>?_
    cases x with
    | tmp t=>exact (hslots t (List.mem_append_left _ (List.mem_filterMap.2 ⟨.tmp t,by simpa using hx,rfl⟩))).symm
    | _=>rfl
   rcases hu with hu|hu
   · unfold Oper.wp at hu ⊢
     rw[hexec];generalize (execOp (seen ops (slotV ops a) i a0).eval o).run P w=r at hu
     cases r with
     | halt x w'=>cases x <;> simp only[Oper.upon]at hu ⊢ <;> first|exact absurd hu.1 (by simp)|exact hu
     | ok nx w' =>
      cases nx <;> simp only[Oper.upon]at hu ⊢
      case value v=>exact⟨v,rfl,hu.2.2.1,by rw[←hput];exact hu.2.2.2⟩
      case skip=>exact⟨undef,rfl,hu.2.2.1,by rw[←hput];exact hu.2.2.2⟩
      case defer d =>
       exfalso
       have:=hu.2.1;have h9:=congrArg List.length this;cases hd:o.dst <;> simp[hd,Act.put,seen,hsz.2]at h9
      case enter f args =>
       refine Calls.mono hu fun e w'' he=>?_
       cases e with
       | returned v=>exact⟨v,rfl,he.2.2.1,by rw[←hput];exact he.2.2.2⟩
       | panicked c=>exact absurd he.1 (by simp)
       | outgrown=>exact (not_letsOut (R:=R i (argV ks (slotV ops a) i)) he).elim
      case row s args=>exact Rows.mono hu fun v w'' he=>⟨v,rfl,he.2.2.1,by rw[←hput];exact he.2.2.2⟩
      all_goals exact hu.elim
   · exact (not_letsOut (R:=R i (argV ks (slotV ops a) i)) hu.2).elim
 · rw[if_neg hw]at hu ⊢;have h9:=hu.2.2.2;rw [hput]at h9
   split at h9 <;> exact h9
theorem any_region_rg {K:World->World->Prop} (hK:Cls K) (ks:Nat->Option Nat) {l:List Oper} {Q:Exit->Act->World->Prop} {a0:Act} {w0:World} (n:Nat) (R:Nat->Value->Value->World->Prop)
 (hB:(okRG l.toArray a0.tmps.size&&looksG l.toArray n&&(decide (l.length<=n)||(Region.sinkB .any l.toArray n&&Region.chainB .any l.toArray n))&&decide (n<=l.length)&&Region.seqB .any l.toArray (l.length-n) n ((List.range l.length).map fun i=>decide (i<n)).toArray)=true)
 (hks:∀i o k,l.toArray[i]? = some o->ks i=some k->∃e∈o.after,Region.binds .any e=true/\e.on=k) (hst:∀i x v w w',R i x v w->K w w'->R i x v w') (hsteps:UsersRG K ks P l.toArray R w0 a0 0 (l.take n))
 (hfin:∀vs w',K w0 w'->(∀i,i<n->R i (argV ks vs i) (vs i) w')->wpList P l.toArray Q (l.drop n) (putAll vs 0 (l.take n) a0) w'):wpAny P .any l.toArray Q l.toArray.size (Array.replicate l.toArray.size false) a0 { w0 with drawn:=w0.drawn+1 }:=by
 simp only[Bool.and_eq_true,decide_eq_true_eq]at hB;obtain ⟨⟨⟨⟨hok,hlk⟩,hsc⟩,hn⟩,hseq⟩:=hB
 have hsc':l.toArray.size<=n∨(Region.sinkB .any l.toArray n=true/\Region.chainB .any l.toArray n=true):=by
  rw[Bool.or_eq_true,Bool.and_eq_true,decide_eq_true_eq]at hsc;simpa using hsc
 have hn':n<=l.toArray.size:=by simpa using hn
 have hb0:K w0 { w0 with drawn:=w0.drawn+1 }:=hK.drawn w0 _
 have inv0:HeadInv .any l.toArray n (Array.replicate l.toArray.size false) :=
  ⟨by simp,fun j oj _ hl=>(by rw[getD_replicate_false]at hl;cases hl),fun t _ ht=>getD_in (by simpa using ht) (getD_replicate_false _ _)⟩
 have H:=any_rg (ks:=ks) hK (P:=P) (ops:=l.toArray) (R:=R) (w0:=w0) (a0:=a0) (Q:=Q) (n:=n) (g:=l.length-n) hok hsc' hn' hks hst (fun i o hi ho=>step_of_userG hok hlk hi hn' ho (by
  have:=UsersRG.get (l.take n) 0 i o hsteps (by rw[List.getElem?_take,if_pos hi];simpa using ho)
  rwa [Nat.zero_add]at this)) (fun listed a w inv hall hb hsame hR=>by
  have hlst:listed=((List.range l.length).map fun i=>decide (i<n)).toArray:=by
   apply Array.ext
   · simp[inv.size]
   · intro i h1 h2;have hi:i<l.length:=by simpa using h2
     simp only[List.getElem_toArray,List.getElem_map,List.getElem_range]
     rcases Nat.lt_or_ge i n with h|h
     · have:=hall i h;simp [Array.getD_eq_getD_getElem?,h1]at this
       simp[h,this]
     · have:=inv.tail i h (by simpa using hi);simp [Array.getD_eq_getD_getElem?,h1]at this
       simp[this];omega
  have hfr:a=putAll (slotV l.toArray a) 0 (l.take n) a0:=by
   have hsz:=putAll_size (slotV l.toArray a) (l.take n) 0 a0
   have key:a.tmps=(putAll (slotV l.toArray a) 0 (l.take n) a0).tmps:=by
    apply Array.ext
    · rw[hsz.1,hsame.2.1]
    · intro t h1 h2;have e1:a.tmps[t]=a.tmps.getD t undef:=by simp[Array.getD_eq_getD_getElem?,h1]
      have e2:(putAll (slotV l.toArray a) 0 (l.take n) a0).tmps[t]=(putAll (slotV l.toArray a) 0 (l.take n) a0).tmps.getD t undef:=by simp[Array.getD_eq_getD_getElem?,h2]
      rw[e1,e2];by_cases hw:∃(j:Nat) (oj:Oper),j<n/\l.toArray[j]? = some oj/\oj.dst=some t
      · obtain⟨j,oj,hjn,hj,hd⟩:=hw;have hsp:=okRG_spec hok hj;rw [putAll_eq (slotV l.toArray a) t (l.take n) 0 j oj a0 (by rw[List.getElem?_take,if_pos hjn];simpa using hj) hd (fun k o' hjk hk hd'=>hsp.2.2 k o' t t (by omega) (by simpa using (take_get' hk).2) hd' hd rfl) (hsp.2.1 t hd)];have hj':l[j]? = some oj:=by simpa using hj
        simp[slotV,hj',hd]
      · have hno:∀(j:Nat) (oj:Oper),j<n->l.toArray[j]? = some oj->oj.dst≠some t:=fun j oj hjn hj hd=>hw ⟨j,oj,hjn,hj,hd⟩
        rw[hsame.2.2 t hno];refine (putAll_ne _ _ _ _ _ fun o ho=>?_).symm;obtain ⟨j,hj⟩:=List.mem_iff_getElem?.1 ho;exact hno j o (take_get' hj).1 (by simpa using (take_get' hj).2)
   have kd:a.defers=(putAll (slotV l.toArray a) 0 (l.take n) a0).defers:=by rw[hsz.2,hsame.1]
   exact act_ext key kd
  have h2:=hfin (slotV l.toArray a) w hb hR;rw [←hfr]at h2;have h3:=wpAny_of_seq (P:=P) (ops:=l.toArray) (md:=.any) (Q':=Q) (l.drop n) n listed a w (fun j=>by simp[List.getElem?_drop]) (by rw[hlst];simpa using hseq) h2
  simpa using h3) n (Array.replicate l.toArray.size false) a0 { w0 with drawn:=w0.drawn+1 } inv0 (by
   have:(List.range n).countP (fun i=> !(Array.replicate l.toArray.size false).getD i true)=(List.range n).length:=List.countP_eq_length.2 fun i hi=>by
    have:=List.mem_range.1 hi;simp [Array.getD_eq_getD_getElem?,show i<l.length by omega]
   simpa using this) hb0 ⟨rfl,rfl,fun _ _=>rfl⟩ (fun i _ h=>by rw[getD_replicate_false]at h;cases h)
 rw[show n+(l.length-n)=l.toArray.size by simp;omega]at H;exact H
end
abbrev Rl:=Value->Value->World->Prop
def Stab (K:World->World->Prop) (p:Rl):Prop:=∀x v w w',p x v w->K w w'->p x v w'
def Eqv (u:Value):Rl:=fun _ v _=>v=u
def Anyv:Rl:=fun _ _ _=>True
theorem stab_eqv {K:World->World->Prop} (u:Value):Stab K (Eqv u):=fun _ _ _ _ h _=>h
theorem stab_any {K:World->World->Prop}:Stab K Anyv:=fun _ _ _ _ _ _=>trivial
def rel (ps:List Rl) (i:Nat):Rl:=ps.getD i Anyv
def AllS (K:World->World->Prop):List Rl->Prop
 | []=>True
 | p :: l=>Stab K p/\AllS K l
def AllR (ks:Nat->Option Nat) (vs:Nat->Value) (w:World):Nat->List Rl->Prop
 | _,[]=>True
 | k,p :: l=>p (argV ks vs k) (vs k) w/\AllR ks vs w (k+1) l
theorem AllS.get {K:World->World->Prop}:∀(ps:List Rl) (i:Nat),AllS K ps->Stab K (ps.getD i Anyv)
 | [],i,_=>by simpa using stab_any
 | p :: l,0,h=>by simpa using h.1
 | p :: l,i+1,h=>by simpa using AllS.get l i h.2
theorem AllR_of {ks:Nat->Option Nat} {vs:Nat->Value} {w:World}:∀(ps:List Rl) (k:Nat),(∀i,i<ps.length->(ps.getD i Anyv) (argV ks vs (k+i)) (vs (k+i)) w)->AllR ks vs w k ps
 | [],_,_=>trivial
 | p :: l,k,h=>⟨by simpa using h 0 (by simp),AllR_of l (k+1) fun i hi=>by
  have:=h (i+1) (by simp;omega)
  rw[show k+1+i=k+(i+1) by omega];simpa using this⟩
def depB (o:Oper) (j:Nat):Bool:=o.after.toList.any fun e=>Region.binds .any e&&e.on==j
def putD (vs:Nat->Value):Nat->List (Option Tmp)->Act->Act
 | _,[],a=>a
 | k,d :: rest,a=>putD vs (k+1) rest (a.put d (vs k))
theorem putAll_D (vs:Nat->Value):∀(l:List Oper) (k:Nat) (a:Act),putAll vs k l a=putD vs k (l.map (·.dst)) a
 | [],_,_=>rfl
 | o :: l,k,a=>putAll_D vs l (k+1) _
def UsersG (K:World->World->Prop) (ks:Nat->Option Nat) (P:Program) (ops:Array Oper) (ps:List Rl) (w0:World) (a0:Act):Nat->List (Option Tmp)->List Oper->List Rl->Prop
 | k,pre,o :: l,q :: qs=>(∀(vs:Nat->Value) (w:World),K w0 w->(∀j,depB o j=true->rel ps j (argV ks vs j) (vs j) w) ->
  wpList P ops (fun e a' w'=>e=.normal/\a'.defers=a0.defers/\K w w'/\q (argV ks vs k) (dstV o a') w') [o] (putD vs 0 pre a0) w)/\UsersG K ks P ops ps w0 a0 (k+1) (pre++[o.dst]) l qs
 | _,_,_,_=>True
theorem AllE_get {ks:Nat->Option Nat} {R:Nat->Value->Value->World->Prop} {vs:Nat->Value} {w:World}:∀(l:List Edge),AllE ks R vs w l->∀e∈l,Region.binds .any e=true->R e.on (argV ks vs e.on) (vs e.on) w
 | [],_,e,he,_=>by cases he
 | x :: l,h,e,he,hb=>by
  rcases List.mem_cons.1 he with rfl|he
  · exact h.1 hb
  · exact AllE_get l h.2 e he hb
theorem UsersG.rg {K:World->World->Prop} {ks:Nat->Option Nat} {P:Program} {ps:List Rl} {w0:World} {a0:Act} {L:List Oper} {n:Nat} (hnp:n<=ps.length):∀(l:List Oper) (k:Nat),(∀j,l[j]? = (L.take n)[k+j]?)->UsersG K ks P L.toArray ps w0 a0 k ((L.take k).map (·.dst)) l (ps.drop k)->UsersRG K ks P L.toArray (rel ps) w0 a0 k l
 | [],_,_,_=>trivial
 | o :: l,k,hl,h=>by
  have h0:(L.take n)[k]? = some o:=by simpa using (hl 0).symm
  obtain⟨hkn,hLo⟩:=take_get' h0;have hkp:k<ps.length:=by omega
  rw[List.drop_eq_getElem_cons hkp]at h;refine ⟨fun vs w hb hE=>?_,UsersG.rg hnp l (k+1) (fun j=>by have:=hl (j+1);simpa [Nat.add_assoc,Nat.add_comm 1 j] using this) ?_⟩
  · have hu:=h.1 vs w hb fun j hj=>by
     obtain⟨e,he,hej⟩:=List.any_eq_true.1 hj;simp only[Bool.and_eq_true,beq_iff_eq]at hej;have:=AllE_get _ hE e he hej.1
     rwa [hej.2]at this
    have hfr:seen L.toArray vs k a0=putD vs 0 ((L.take k).map (·.dst)) a0:=putAll_D vs _ 0 a0;rw [hfr];have hq:ps[k]=rel ps k:=by simp[rel,List.getD_eq_getElem?_getD,hkp]
    rw[hq]at hu;exact hu
  · have h2:=h.2
    have e1:(L.take k).map (·.dst)++[o.dst]=(L.take (k+1)).map (·.dst):=by
     rw[List.take_add_one,hLo];simp
    rw[e1]at h2;exact h2
def ksOf (l:List (Nat × Nat)) (i:Nat):Option Nat:=(l.find? (·.1==i)).map (·.2)
def ksB (L:List Oper) (l:List (Nat × Nat)):Bool:=l.all fun p=>match L[p.1]? with|some o=>depB o p.2|none=>true
theorem ksB_spec {L:List Oper} {l:List (Nat × Nat)} (h:ksB L l=true) (i:Nat) (o:Oper) (k:Nat) (ho:L.toArray[i]? = some o) (hk:ksOf l i=some k):∃e∈o.after,Region.binds .any e=true/\e.on=k:=by
 unfold ksOf at hk
 cases hf:l.find? (·.1==i) with
 | none=>rw[hf]at hk;cases hk
 | some p =>
  rw[hf]at hk;have hp:=List.find?_some hf;have hm:=List.mem_of_find?_eq_some hf;have h1:=List.all_eq_true.1 h p hm;have e1:p.1=i:=by simpa using hp
  have e2:p.2=k:=by simpa using hk
  have ho':L[i]? = some o:=by simpa using ho
  rw[e1,ho']at h1;simp only[e2]at h1;obtain ⟨e,he,hej⟩:=List.any_eq_true.1 h1;simp only[Bool.and_eq_true,beq_iff_eq]at hej;exact ⟨e,by simpa using he,hej.1,hej.2⟩
theorem any_region_rgl {K:World->World->Prop} (hK:Cls K) (kl:List (Nat × Nat)) {P:Program} {l:List Oper} {Q:Exit->Act->World->Prop} {a0:Act} {w0:World} (ps:List Rl) (n sz:Nat) (hnp:ps.length=n) (hsz:a0.tmps.size=sz)
 (hB:(okRG l.toArray sz&&looksG l.toArray n&&(decide (l.length<=n)||(Region.sinkB .any l.toArray n&&Region.chainB .any l.toArray n))&&decide (n<=l.length)&&Region.seqB .any l.toArray (l.length-n) n ((List.range l.length).map fun i=>decide (i<n)).toArray)=true)
 (hkl:ksB l kl=true) (hst:AllS K ps) (hsteps:UsersG K (ksOf kl) P l.toArray ps w0 a0 0 [] (l.take n) ps)
 (hfin:∀vs w',K w0 w'->AllR (ksOf kl) vs w' 0 ps->wpList P l.toArray Q (l.drop n) (putD vs 0 ((l.take n).map (·.dst)) a0) w'):wpAny P .any l.toArray Q l.toArray.size (Array.replicate l.toArray.size false) a0 { w0 with drawn:=w0.drawn+1 }:=by
 subst hnp hsz;refine any_region_rg hK (ksOf kl) ps.length (rel ps) hB (ksB_spec hkl) (fun i x v w w' h hb=>AllS.get ps i hst x v w w' h hb) (UsersG.rg (Nat.le_refl _) (l.take ps.length) 0 (fun j=>by simp) hsteps) fun vs w' hb hR=>by rw[putAll_D];exact hfin vs w' hb (AllR_of ps 0 fun i hi=>by rw[Nat.zero_add];exact hR i hi)
theorem wp_region_rgl {K:World->World->Prop} (hK:Cls K) (kl:List (Nat × Nat)) {P:Program} {id:Nat} {l:List Oper} {Q:Exit->Act->World->Prop} {a0:Act} {w0:World} (ps:List Rl) (n sz:Nat) (hm:P.follows .mixedOrders=true) (hnp:ps.length=n) (hsz:a0.tmps.size=sz)
 (hB:(okRG l.toArray sz&&looksG l.toArray n&&(decide (l.length<=n)||(Region.sinkB .any l.toArray n&&Region.chainB .any l.toArray n))&&decide (n<=l.length)&&Region.seqB .any l.toArray (l.length-n) n ((List.range l.length).map fun i=>decide (i<n)).toArray)=true)
 (hkl:ksB l kl=true) (hst:AllS K ps) (hsteps:UsersG K (ksOf kl) P l.toArray ps w0 a0 0 [] (l.take n) ps)
 (hfin:∀vs w',K w0 w'->AllR (ksOf kl) vs w' 0 ps->wpList P l.toArray Q (l.drop n) (putD vs 0 ((l.take n).map (·.dst)) a0) w'):(Code.region id l.toArray true).wp P Q a0 w0 :=
 wp_region_any hm (any_region_rgl hK kl ps n sz hnp hsz hB hkl hst hsteps hfin)
def KF (B:Nat) (t:TypeId) (cs:Array Value) (w w':World):Prop:=Below B w w'/\w.heap.size<=w'.heap.size/\∀g c,B<=g->Bx w g t c->c.size=cs.size->Bx w' g t c∨Bx w' g t cs
theorem KF.of {B:Nat} {t:TypeId} {cs:Array Value} {w w':World} (hB:B<=w.heap.size) (h:Below w.heap.size w w'):KF B t cs w w':=⟨h.mono hB,h.size,fun g c _ hb _=>.inl (hb.call h)⟩
theorem cls_KF (B:Nat) (t:TypeId) (cs:Array Value):Cls (KF B t cs) :=
 ⟨fun w=>⟨Below.refl _ _,Nat.le_refl _,fun g c _ h _=>.inl h⟩,
  fun h1 h2=>⟨h1.1.trans h2.1,Nat.le_trans h1.2.1 h2.2.1,fun g c hg h hc=>by
   rcases h1.2.2 g c hg h hc with h3|h3
   · exact h2.2.2 g c hg h3 hc
   · rcases h2.2.2 g cs hg h3 rfl with h4|h4 <;> exact .inr h4⟩,
  fun w n=>⟨⟨rfl,rfl,rfl,Nat.le_refl _,fun _ _=>rfl⟩,Nat.le_refl _,fun g c _ h _=>.inl h⟩⟩
def PtrR (B:Nat) (t:TypeId) (cs:Array Value):Rl:=fun _ v w=>∃g c,v=.pointer (some ⟨g,0,none⟩)/\B<=g/\c.size=cs.size/\Bx w g t c
def StoR (B:Nat) (t:TypeId) (cs:Array Value):Rl:=fun x _ w=>∃g,x=.pointer (some ⟨g,0,none⟩)/\B<=g/\Bx w g t cs
end Go.Proofs.YtelljijajgiabaaGreatDoor.RS
namespace Go.Proofs.YtelljijajgiabaaGreatDoor.RS
open Go.RowKit
variable {B:Nat} {t:TypeId} {cs:Array Value} {W w w':World}
theorem KF.rf (B:Nat) (t:TypeId) (cs:Array Value) (w:World):KF B t cs w w:=(cls_KF B t cs).refl w
theorem KF.call (h:KF B t cs W w) (hB:B<=W.heap.size) (hb:Below w.heap.size w w'):KF B t cs w w':=KF.of (Nat.le_trans hB h.2.1) hb
theorem KF.new (h:KF B t cs W w) (hB:B<=W.heap.size) (z:Array Value) (hz:z.size=cs.size) (x:Value):KF B t cs w (w.alloc (.cells z t))/\PtrR B t cs x (.pointer (some ⟨w.heap.size,0,none⟩)) (w.alloc (.cells z t)) :=
 ⟨h.call hB (bNew (Below.refl w.heap.size w) _),_,z,rfl,Nat.le_trans hB h.2.1,hz,Bx.mk w t z⟩
theorem two_cells {c:Array Value} (h:c.size=2):∃a b,c=#[a,b]:=by
 refine⟨c[0],c[1],?_⟩;apply Array.ext
 · simp[h]
 · intro i h1 h2;have:i=0∨i=1:=by omega
   rcases this with rfl|rfl <;> rfl
theorem KF.store2 {x y a b:Value} {g:Nat} (hg:B<=g) (hB:Bx w g t #[a,b]) (u:Value) (hu:u=.pointer (some ⟨g,0,none⟩)) (z:Value) :
 KF B t #[x,y] w ((w.setCell ⟨g,0,none⟩ x).setCell ⟨g,1,none⟩ y)/\StoR B t #[x,y] u z ((w.setCell ⟨g,0,none⟩ x).setCell ⟨g,1,none⟩ y):=by
 have h2:Bx ((w.setCell ⟨g,0,none⟩ x).setCell ⟨g,1,none⟩ y) g t #[x,y]:=by simpa using (hB.set 0 x).set 1 y
 refine⟨⟨((Below.refl B w).setCell (p:=⟨g,0,none⟩) hg x).setCell (p:=⟨g,1,none⟩) hg y,?_,fun g' c hg' h hc=>?_⟩,g,hu,hg,h2⟩
 · have:=((Below.refl B w).setCell (p:=⟨g,0,none⟩) hg x).setCell (p:=⟨g,1,none⟩) hg y;exact this.size
 · by_cases e:g'=g
   · subst e;have ht:c.size=2/\True:=⟨hc,trivial⟩
     right
     exact h2
   · left
     exact (h.far (p:=⟨g,0,none⟩) e x).far (p:=⟨g,1,none⟩) e y
end Go.Proofs.YtelljijajgiabaaGreatDoor.RS
namespace Go.Proofs.YtelljijajgiabaaGreatDoor
open Go.RowKit Go.Shelf
theorem fOf_walk (n d:Int) (s0 s1 r1 r2:List UInt8) (code:Int) (w:World)
 (hF1:∀w0,Calls Tryz.prog 75 #[.int .i64 n] w0 fun e w'=>e=.returned (.string ⟨s0.toArray⟩)/\Below w0.heap.size w0 w')
 (hF2:∀w0,Calls Tryz.prog 75 #[.int .i64 d] w0 fun e w'=>e=.returned (.string ⟨s1.toArray⟩)/\Below w0.heap.size w0 w')
 (hM:∀w0,Calls Tryz.prog 74 #[.string ⟨s0.toArray⟩,.string ⟨s1.toArray⟩] w0 fun e w'=>e=.returned (.tuple #[.agg #[.string ⟨r1.toArray⟩,.string ⟨r2.toArray⟩],.int .i64 code])/\Below w0.heap.size w0 w') :
 Calls Tryz.prog 45 #[.int .i64 n,.int .i64 d] w fun e w'=>e=.returned (.tuple #[.agg #[.string ⟨r1.toArray⟩,.string ⟨r2.toArray⟩],.int .i64 code])/\Below w.heap.size w w':=by
 have hb:=bNewW w (.cells #[.string ⟨#[]⟩,.string ⟨#[]⟩] 51);have BR:=Bx.mk w 51 #[.string ⟨#[]⟩,.string ⟨#[]⟩]
 go_enter Tryz.func45,Tryz.ntmps45
 go_wp2_with fail;refine (hF1 _).mono ?_;rintro _ w1 ⟨rfl,hb1⟩;replace hb:=bCall hb hb1;replace BR:=BR.call hb1;clear hF1 hb1;go_wp2_with fail;refine (hF2 _).mono ?_;rintro _ w2 ⟨rfl,hb1⟩;replace hb:=bCall hb hb1;replace BR:=BR.call hb1;clear hF2 hb1;go_wp2_with fail;refine (hM _).mono ?_;rintro _ w3 ⟨rfl,hb1⟩;replace hb:=bCall hb hb1;replace BR:=BR.call hb1;clear hM hb1;have kr0:=BR.cell 0 rfl;have kr1:=BR.cell 1 rfl;have f0:=BR.frozen 0;have f1:=BR.frozen 1;have BR2:=(BR.set 0 (.string ⟨r1.toArray⟩)).set 1 (.string ⟨r2.toArray⟩);have hb2:=bSet (bSet hb (p:=⟨w.heap.size,0,none⟩) (Nat.le_refl _) (.string ⟨r1.toArray⟩)) (p:=⟨w.heap.size,1,none⟩) (Nat.le_refl _) (.string ⟨r2.toArray⟩);go_wp2;first|exact bodyPost_ret (results_Q rfl _ _ rfl rfl BR2) rfl ⟨rfl,hb2⟩|exact bodyPost_ret (results_Q rfl _ _ rfl rfl BR) rfl ⟨rfl,hb⟩
theorem fOf_ok (n d:Int) (w:World) (hn:I64 n) (hd:I64 d) (h0:d≠0) :
 Calls Tryz.prog 45 #[.int .i64 n,.int .i64 d] w fun e w'=>e=.returned (.tuple #[QV (Rat.divInt n d),.int .i64 0])/\Below w.heap.size w w' :=
 fOf_walk n d _ _ _ _ 0 w (fun w0=>rFromInt_any n w0 hn.1 hn.2) (fun w0=>rFromInt_any d w0 hd.1 hd.2) (fun w0=>fMake_ok n d w0 (i64_fits' hn) (i64_fits' hd) h0)
end Go.Proofs.YtelljijajgiabaaGreatDoor
namespace Tb
end Tb
namespace Go.Proofs.YtelljijajgiabaaGreatDoor
open Go.RowKit Go.Shelf
theorem ratI:∃i z,Tryz.prog.info? 51=some i/\i.zero=some z/\i.size=2/\z.cells.size=2/\i.bytes=32:=by
 have h:(Tryz.prog.info? 51).map (fun i=>(i.size,i.bytes,i.zero.map (·.cells.size)))=some (2,32,some 2):=by kernel_rfl
 cases hi:Tryz.prog.info? 51 with
 | none=>rw[hi]at h;cases h
 | some i =>
  rw[hi]at h;simp only[Option.map_some,Option.some.injEq,Prod.mk.injEq]at h;obtain ⟨h1,h2,h3⟩:=h
  cases hz:i.zero with
  | none=>rw[hz]at h3;cases h3
  | some z=>rw[hz]at h3;exact⟨i,z,rfl,hz,h1,by simpa using h3,h2⟩
def ratV (q:Rat):List Value:=ratC (txQ q)
theorem ratV_len (q:Rat):(ratV q).length=2:=rfl
theorem ratV_is {q:Rat} {a b:List UInt8} (h:LQ q a b):ratV q=[.string ⟨a.toArray⟩,.string ⟨b.toArray⟩]:=by
 unfold ratV ratC txQ;rw[h.out.1,h.out.2]
theorem at_ratV {w:World} {B:Nat} {A:Option Addr} {l:List Rat} (h:At 2 ratV w B A l):At 2 ratC w B A (l.map txQ):=fun h0=>by
 rw[List.length_map]at h0;obtain ⟨b,off,rfl,hb,hc⟩:=h h0;refine ⟨b,off,rfl,hb,fun i c hi=>?_⟩;rw [List.getElem?_map]at hi;obtain ⟨q,hq,rfl⟩:=Option.map_eq_some_iff.1 hi;exact hc i q hq
theorem SE.set {w0 w:World} (h:SE w0 w) (hE:Env w0) {p:Addr} (hp:w0.heap.size<=p.block) (u:Value):SE w0 (w.setCell p u):=⟨bSet h.bl hp u,hE.below (bSet h.bl hp u)⟩
end Go.Proofs.YtelljijajgiabaaGreatDoor

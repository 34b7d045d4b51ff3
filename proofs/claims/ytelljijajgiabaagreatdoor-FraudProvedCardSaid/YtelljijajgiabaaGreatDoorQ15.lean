import Derived.Test.YtelljijajgiabaaGreatDoorQ14
import Derived.Test.YtelljijajgiabaaGreatDoorQ12
set_option linter.unusedVariables false
set_option linter.unusedSimpArgs false
set_option maxRecDepth 100000
set_option maxHeartbeats 8000000
namespace Go.Proofs.YtelljijajgiabaaGreatDoor
open Go.RowKit Go.Shelf
theorem MV {z:Int} {b:Bool} {n:Nat} (h:dM b n=z) (hz:Ig.fits z):(Dx.grp n).length<=200:=by
 have h1:=iP hz;rw [←h,kG]at h1;exact h1
theorem YP (W:World):eH (W.alloc (.cells #[.int .i64 1] 3)) 1 (.slice (some ⟨W.heap.size,0,none⟩) 1 1):=by
 have hg:Dx.grp 1=[1]:=by rw[Dx.dQ (by decide),show 1 / 10=0 from rfl,Dx.aP];rfl
 have hB:=Bx.mk W 3 #[.int .i64 1];refine ⟨some ⟨W.heap.size,0,none⟩,1,by rw[hg];rfl,?_,by rw[hg];exact Nat.le_refl 1,by decide⟩;rw [hg];intro _;refine ⟨W.heap.size,0,rfl,hB.lt,fun i c hi j u hj=>?_⟩
 obtain rfl:i=0:=by
  rcases i with _|i;· rfl
  · simp at hi
 obtain rfl:c=1:=by simpa using hi.symm
 obtain rfl:j=0:=by
  rcases j with _|j;· rfl
  · simp[aO]at hj
 obtain rfl:u=.int .i64 1:=by simpa [aO] using hj.symm
 exact hB.cell 0 rfl
theorem FW (neg:Bool) (n:Nat) (v:Value) (w:World) (h:eH w n v) (hl:(Dx.grp n).length<=1000000) :
 aW 119 #[.bool neg,v] w (.tuple #[.string ⟨(Lib.itoa (dM neg n)).toArray⟩,.bool (decide (Lib.nDigits n<=200))]):=by
 obtain⟨A,c,rfl,hA,hn,-⟩:=h.out;exact rO neg n A c w hA hn hl
theorem QE {y:Int}:Lib.itoa y=[48]↔y=0:=by
 constructor
 · intro h;have h0:Lib.itoa 0=[48]:=by decide +kernel
   exact Ig.dH (h.trans h0.symm)
 · rintro rfl;decide +kernel
theorem og (x y:Int) (w:World) (hx:Ig.fits x) (hy:Ig.fits y) (hy0:y≠0) :
 aW 118 #[.string ⟨(Lib.itoa x).toArray⟩,.string ⟨(Lib.itoa y).toArray⟩] w (.tuple #[.string ⟨(Lib.itoa (x / y)).toArray⟩,.string ⟨(Lib.itoa (x % y)).toArray⟩,.int .i64 0]):=by
 have hV1:=fun w0=>fP hx w0
 have hV2:=fun w0=>fP hy w0
 have hD1:=fun w0=>fQ x w0 (by have:=iQ hx;omega)
 have hD2:=fun w0=>fQ y w0 (by have:=iQ hy;omega)
 have la:=iP hx;have lb:=iP hy;have hyp:0<y.natAbs:=by omega
 have hne:(Lib.itoa y==[48])=false:=by
  rw[beq_eq_false_iff_ne];exact fun h=>hy0 (QE.1 h)
 have hkeep:=fun h=>H6 (x:=x) hy0 h
 have hturn:=fun h h'=>HY (x:=x) hy0 h h'
 have Zh:Kp (Ig.iq (x / y)=Lib.itoa (x / y)/\Ig.resE (x / y)=0):=⟨Ig.dh (gJ y hx),Ig.dO (gJ y hx)⟩
 have hfq:=fun b n (h:dM b n=x / y)=>Kp.mk (MV h (gJ y hx))
 have hr0:Kp (∀n:Nat,(n:Int)=x % y->dM false n=x % y):=⟨fun n h=>h⟩
 generalize x / y=q at *;generalize x % y=r at *;generalize decide (x<0)=nx at *;generalize decide (y<0)=ny at *;generalize x.natAbs=ax at *;generalize y.natAbs=ay at *;generalize Lib.itoa x=sx at *;generalize Lib.itoa y=sy at *;clear hx hy hy0;have hml:(Dx.grp (ax % ay)).length<=200:=Nat.le_trans (Dx.fG (Nat.lt_trans (Nat.mod_lt _ hyp) (Dx.iZ ay))) lb;have hdl:(Dx.grp (ax / ay)).length<=200:=Nat.le_trans (lI (Nat.div_le_self _ _)) la
 go_enter Tryz.func118,Tryz.ntmps118
 go_wp2_with fail;refine (hV1 _).mono ?_;rintro _ _ ⟨rfl,rfl⟩;go_wp2_with fail;refine (hV2 _).mono ?_;rintro _ _ ⟨rfl,rfl⟩;clear hV1 hV2;go_wp2_with fail;refine (hD1 _).mono ?_;rintro _ w1 ⟨v1,rfl,k1,hb1⟩;obtain ⟨A1,c1,rfl,-⟩:=id k1.out;clear hD1;go_wp2_with fail;refine (hD2 _).mono ?_;rintro _ w2 ⟨v2,rfl,k2,hb2⟩;obtain ⟨A2,c2,rfl,-⟩:=id k2.out;clear hD2;have k1':=k1.call hb2;have hb:=aj hb1 hb2;clear k1 hb1 hb2;have hX:=uP ax ay _ _ _ k1' k2 hyp (by omega) (by omega);clear k1';go_wp2_with fail;refine hX.mono ?_;rintro _ w3 ⟨v3,v4,rfl,k3,k4,hb3⟩;obtain ⟨A3,c3,rfl,-⟩:=id k3.out;obtain ⟨A4,c4,rfl,-⟩:=id k4.out;have k2':=k2.call hb3;have hb':=aj hb hb3;clear hX hb hb3 k2 hne;obtain ⟨neg,hneg⟩:=jH (nx != ny);rw [hneg.out]at hkeep hturn;by_cases hcase:nx=false∨ax % ay=0
 · obtain⟨hq,hr⟩:=hkeep hcase;have hC:=dN neg (ax / ay) _ w3 k3 (by omega);rw [hq,Zh.out.1,Zh.out.2]at hC;have hT:=fun w0 h0=>FW false (ax % ay) (.slice A4 (Dx.grp (ax % ay)).length c4) w0 h0 (by omega)
   rw[hr0.out _ hr]at hT
   have hS:Kp (nx=true->(Dx.grp (ax % ay)).length=0):=⟨fun h=>by
    rcases hcase with h1|h1
    · rw[h1]at h;cases h
    · exact Dx.qO.2 h1⟩
   clear hkeep hturn hq hr hcase hfq Zh hr0 hdl k2' k3;generalize (Dx.grp (ax % ay)).length=ln at *;generalize (Dx.grp (ax / ay)).length=lq at *;cases nx <;> cases ny
   all_goals
    first
     | (obtain rfl:neg=true:=hneg.out.symm)
     | (obtain rfl:neg=false:=hneg.out.symm)
    first
     | (obtain rfl:ln=0:=hS.out rfl)
     | skip
    clear hS hneg;go_wp2_with fail;refine hC.mono ?_;rintro _ w5 ⟨rfl,hb5⟩;have k6:=k4.call hb5;have hb6:=aj hb' hb5;clear hC k4 hb5;go_wp2_with fail;refine (hT _ k6).mono ?_;rintro _ w6 ⟨rfl,hb7⟩;have hb8:=aj hb6 hb7;clear hT k6 hb7 hb6;go_wp2
    go_ret3
    exact⟨rfl,hb8⟩
 · have hnx:nx=true:=by
    cases nx
    · exact absurd (.inl rfl) hcase
    · rfl
   have hm:ax % ay≠0:=fun h=>hcase (.inr h)
   obtain⟨hq,hr⟩:=hturn hnx hm;subst hnx;have hln:(Dx.grp (ax % ay)).length≠0:=fun h=>hm (Dx.qO.1 h)
   have t1:decide (((Dx.grp (ax % ay)).length:Int) > 0)=true:=decide_eq_true (by omega);have t2:decide (0<(Dx.grp (ax % ay)).length)=true:=decide_eq_true (by omega);have t3:0<(Dx.grp (ax % ay)).length:=by omega
   have hbn:=au w3 (.cells #[.int .i64 1] 3);have hP:=wJ (ax / ay) 1 _ _ _ (k3.call hbn) (YP w3) (by omega) (by rw[Dx.wY (by decide) (by decide)];exact Nat.le_trans (Nat.le_refl 1) (by decide));have hb4:=aj hb' hbn;have k2n:=k2'.call hbn;have k4n:=k4.call hbn;have hpl:=oU (a:=ax / ay) (b:=1) (n:=200) hdl (by rw[Dx.wY (by decide) (by decide)];exact Nat.le_trans (Nat.le_refl 1) (by decide));have hC:=fun w0 v h0=>dN neg (ax / ay+1) v w0 h0 (by omega)
   rw[hq,Zh.out.1,Zh.out.2]at hC;have hsl:(Dx.grp (ay-ax % ay)).length<=200:=Nat.le_trans (lI (Nat.sub_le _ _)) lb;have hT:=fun w0 v h0=>FW false (ay-ax % ay) v w0 h0 (by omega)
   rw[hr0.out _ hr]at hT;have hle:ax % ay<=ay:=Nat.le_of_lt (Nat.mod_lt _ hyp);have hM:=fun w0 u v h0 h1=>mG ay (ax % ay) u v w0 h0 h1 hle (by omega)
   clear hkeep hturn hq hr hcase hfq Zh hr0 k2' k3 k4 hbn hm hle;cases ny
   all_goals
    first
     | (obtain rfl:neg=true:=hneg.out.symm)
     | (obtain rfl:neg=false:=hneg.out.symm)
    clear hneg;go_wp2_with fail;refine hP.mono ?_;rintro _ w5 ⟨v5,rfl,k5,hb5⟩;obtain ⟨A5,c5,rfl,-⟩:=id k5.out;have k2m:=k2n.call hb5;have k4m:=k4n.call hb5;have hb6:=aj hb4 hb5;clear hP k2n k4n hb4 hb5;go_wp2_with fail;refine (hM _ _ _ k2m k4m).mono ?_;rintro _ w6 ⟨v6,rfl,k6,hb7⟩;obtain ⟨A6,c6,rfl,-⟩:=id k6.out;have k5m:=k5.call hb7;have hb8:=aj hb6 hb7;clear hM k2m k4m k5 hb6 hb7;go_wp2_with fail;refine (hC _ _ k5m).mono ?_;rintro _ w7 ⟨rfl,aY⟩;have k6m:=k6.call aY;have JL:=aj hb8 aY;clear hC k5m k6 hb8 aY;go_wp2_with fail;refine (hT _ _ k6m).mono ?_;rintro _ w8 ⟨rfl,Vk⟩;have oC:=aj JL Vk;clear hT k6m JL Vk;go_wp2
    go_ret3
    exact⟨rfl,oC⟩
theorem zn (x y:Int) (w:World) (hx:Ig.fits x) (hy:Ig.fits y) :
 aW 117 #[.string ⟨(Lib.itoa x).toArray⟩,.string ⟨(Lib.itoa y).toArray⟩] w (.tuple #[.string ⟨(Lib.itoa ((Nat.gcd x.natAbs y.natAbs:Nat):Int)).toArray⟩,.int .i64 0]):=by
 have hV1:=fun w0=>fP hx w0
 have hV2:=fun w0=>fP hy w0
 have hD1:=fun w0=>fQ x w0 (by have:=iQ hx;omega)
 have hD2:=fun w0=>fQ y w0 (by have:=iQ hy;omega)
 have la:=iP hx;have lb:=iP hy;have fg:=oG hx hy
 have hres:∀k,k=Nat.gcd x.natAbs y.natAbs->Kp (Ig.iq (dM false k)=Lib.itoa ((Nat.gcd x.natAbs y.natAbs:Nat):Int)/\Ig.resE (dM false k)=0):=fun k h=>⟨by
  rw[h,show dM false (Nat.gcd x.natAbs y.natAbs)=((Nat.gcd x.natAbs y.natAbs:Nat):Int) from rfl]
  exact⟨Ig.dh fg,Ig.dO fg⟩⟩
 clear fg;generalize Lib.itoa ((Nat.gcd x.natAbs y.natAbs:Nat):Int)=SG at *;generalize decide (x<0)=nx at *;generalize decide (y<0)=ny at *;generalize x.natAbs=ax at *;generalize y.natAbs=ay at *;generalize Lib.itoa x=sx at *;generalize Lib.itoa y=sy at *;clear hx hy
 go_enter Tryz.func117,Tryz.ntmps117
 go_wp2_with fail;refine (hV1 _).mono ?_;rintro _ _ ⟨rfl,rfl⟩;go_wp2_with fail;refine (hV2 _).mono ?_;rintro _ _ ⟨rfl,rfl⟩;clear hV1 hV2;go_wp2_with fail;refine (hD1 _).mono ?_;rintro _ w1 ⟨v1,rfl,k1,hb1⟩;obtain ⟨A1,c1,rfl,-⟩:=id k1.out;clear hD1;go_wp2_with fail;refine (hD2 _).mono ?_;rintro _ w2 ⟨v2,rfl,k2,hb2⟩;obtain ⟨A2,c2,rfl,-⟩:=id k2.out;clear hD2;have k1':=k1.call hb2;have hb:=aj hb1 hb2;clear k1 hb1 hb2;go_wp2_with fail
 go_loopw [7,9,10,11] (fun s7 s9 s10 s11 wr=>∃k l,eH wr k s7/\eH wr l s9/\(Dx.grp k).length<=200/\(Dx.grp l).length<=200/\Nat.gcd k l=Nat.gcd ax ay/\Below w.heap.size w wr) (fun s7 s9 s10 s11 wr=>Classical.epsilon (fun k=>eH wr k s9))
 case atStart=>exact⟨ax,ay,k1',k2,la,lb,rfl,hb⟩
 case round =>
  clear k1' k2 hb la lb;obtain ⟨k,l,hk,hl,lk,ll,hg,hb⟩:=hrel;have hm:=EM hl;obtain ⟨A3,c3,rfl,-⟩:=id hk.out;obtain ⟨A4,c4,rfl,-⟩:=id hl.out;by_cases h0:l=0
  · subst h0;have hl0:(Dx.grp 0).length=0:=by rw[Dx.aP];rfl
    have hr:=hres k (by rw[←hg,Nat.gcd_zero_right]);have hT:=dN false k _ wr hk (by omega);rw [hr.out.1,hr.out.2]at hT;simp only[hl0];clear hres hm hg hl hr hk;go_wp2_with fail;refine hT.mono ?_;rintro _ w5 ⟨rfl,hb5⟩;clear hT;go_wp2
    go_ret2
    exact⟨rfl,aj hb hb5⟩
  · have hl0:(Dx.grp l).length≠0:=fun e=>h0 (Dx.qO.1 e)
    have t0:decide (((Dx.grp l).length:Int) > 0)=true:=decide_eq_true (by omega);have hO:=uP k l _ _ wr hk hl (by omega) (by omega) (by omega);go_wp2_with fail;refine hO.mono ?_;rintro _ w5 ⟨q,r,rfl,hq,hr,hb5⟩;clear hO t0;have hl5:=hl.call hb5;have Vf:=EM hr;obtain ⟨A5,c5,rfl,-⟩:=id hq.out;obtain ⟨A6,c6,rfl,-⟩:=id hr.out;go_wp2;refine ⟨⟨l,k % l,hl5,hr,ll,Nat.le_trans (lI (Nat.mod_le _ _)) lk,by rw[←hg,Nat.gcd_comm k l,Nat.gcd_rec l k,Nat.gcd_comm],aj hb hb5⟩,?_⟩;rw [hm,Vf];exact Nat.mod_lt _ (by omega)
theorem yg (n d:List UInt8) (b1 b2:Bool) (w:World) (hn:n.length<=1000000) (hd:d.length<=1000000) (h1:Ig.bF n=b1) (h2:Ig.bF d=b2) (hb:b1=false∨b2=false) :
 aW 79 #[.agg #[.string ⟨n.toArray⟩,.string ⟨d.toArray⟩]] w (.bool false):=by
 have hV:=fun w0=>fZ n w0 hn
 have hV':=fun w0=>fZ d w0 hd
 rw[h1]at hV;rw [h2]at hV';have hb1:=au w (.cells #[.string ⟨n.toArray⟩,.string ⟨d.toArray⟩] 51);have hB:=Bx.mk w 51 #[.string ⟨n.toArray⟩,.string ⟨d.toArray⟩];have c0:=hB.cell 0 rfl;have c1:=hB.cell 1 rfl;clear h1 h2 hn hd
 go_enter Tryz.func79,Tryz.ntmps79
 go_wp2_with fail;refine (hV _).mono ?_;rintro _ _ ⟨rfl,rfl⟩;go_wp2_with fail;refine (hV' _).mono ?_;rintro _ _ ⟨rfl,rfl⟩;clear hV hV';cases b1
 · clear hb;go_wp2;go_ret;exact ⟨rfl,hb1⟩
 · cases b2
   · clear hb;go_wp2;go_ret;exact ⟨rfl,hb1⟩
   · rcases hb with h|h <;> cases h
theorem xZ (x y:Int) (w:World) (hx:Ig.fits x) (hy:Ig.fits y) :
 aW 79 #[.agg #[.string ⟨(Lib.itoa x).toArray⟩,.string ⟨(Lib.itoa y).toArray⟩]] w (.bool (decide (0<y)&&decide (Nat.gcd x.natAbs y.natAbs=1))):=by
 have hV:=fun w0=>fZ (Lib.itoa x) w0 (aV hx)
 have hV':=fun w0=>fZ (Lib.itoa y) w0 (aV hy)
 rw[Ig.bQ hx]at hV;rw [Ig.bQ hy]at hV';have hC:=fun w0=>f_ y 0 w0 hy ji
 rw[jy]at hC;have hG:=fun w0=>zn x y w0 hx hy
 have h1:=GR ((Nat.gcd x.natAbs y.natAbs:Nat):Int);have h2:decide (((Nat.gcd x.natAbs y.natAbs:Nat):Int)=1)=decide (Nat.gcd x.natAbs y.natAbs=1):=decide_eq_decide.2 (by omega);rw [h2]at h1
 have hc:decide (dA y 0<=0)= !decide (0<y):=by
  unfold dA
  by_cases h:0<y
  · rw[if_neg (by omega),if_pos h];simp[h]
  · by_cases h':y<0
    · rw[if_pos h'];simp[h]
    · rw[if_neg h',if_neg h];simp[h]
 generalize dA y 0=cc at *;generalize Lib.itoa ((Nat.gcd x.natAbs y.natAbs:Nat):Int)=sg at *;generalize decide (Nat.gcd x.natAbs y.natAbs=1)=bg at *;generalize Lib.itoa x=n at *;generalize Lib.itoa y=d at *;generalize decide (0<y)=by0 at *;clear hx hy h2;have hb:=au w (.cells #[.string ⟨n.toArray⟩,.string ⟨d.toArray⟩] 51);have hB:=Bx.mk w 51 #[.string ⟨n.toArray⟩,.string ⟨d.toArray⟩];have c0:=hB.cell 0 rfl;have c1:=hB.cell 1 rfl
 go_enter Tryz.func79,Tryz.ntmps79
 go_wp2_with fail;refine (hV _).mono ?_;rintro _ _ ⟨rfl,rfl⟩;go_wp2_with fail;refine (hV' _).mono ?_;rintro _ _ ⟨rfl,rfl⟩;clear hV hV';go_wp2_with fail;refine (hC _).mono ?_;rintro _ w3 ⟨rfl,hb1⟩;replace hb:=aj hb hb1;replace hB:=hB.call hb1;have c0:=hB.cell 0 rfl;have c1:=hB.cell 1 rfl;clear hC;cases by0
 · have t:decide (cc<=0)=true:=hc;clear hc hG;go_wp2;go_ret;exact ⟨rfl,hb⟩
 · have t:decide (cc<=0)=false:=hc;have hG2:=hG w3;clear hc hG;go_wp2_with fail;refine hG2.mono ?_;rintro _ w4 ⟨rfl,hb1⟩;replace hb:=aj hb hb1;clear hG2;go_wp2;go_ret;exact ⟨rfl,hb⟩
theorem Hg (n d:List UInt8) (w:World) (hn:n.length<=1000000) (hd:d.length<=1000000) :
 aW 79 #[.agg #[.string ⟨n.toArray⟩,.string ⟨d.toArray⟩]] w (.bool (Rq.okB n d)):=by
 by_cases h1:Ig.bF n=true
 · by_cases h2:Ig.bF d=true
   · obtain⟨x,rfl,hx⟩:=Ig.jm h1;obtain ⟨y,rfl,hy⟩:=Ig.jm h2;have h:=xZ x y w hx hy;by_cases hq:0<y/\Nat.gcd x.natAbs y.natAbs=1
     · obtain⟨q,e1,e2⟩:=Rq.uG hq.1 hq.2;rw [Rq.qL ⟨q,⟨by rw[e1];exact hx,by rw[e2];exact hy⟩,by rw[e1],by rw[e2]⟩];rw [decide_eq_true hq.1,decide_eq_true hq.2]at h;exact h
     · have h3:¬Rq.IX (Lib.itoa x) (Lib.itoa y):=by
        rintro ⟨q,-,e1,e2⟩;have e1:=Ig.dH e1;have e2:=Ig.dH e2;subst e1;subst e2;exact hq ⟨Rq.iG q,Rq.KT q⟩
       rw[Rq.dV h3]
       have h4:(decide (0<y)&&decide (Nat.gcd x.natAbs y.natAbs=1))=false:=by
        by_cases h5:0<y
        · rw[decide_eq_false (fun h6=>hq ⟨h5,h6⟩),Bool.and_false]
        · rw[decide_eq_false h5,Bool.false_and]
       rw[h4]at h;exact h
   · have h3:¬Rq.IX n d:=by
      rintro ⟨q,hf,-,rfl⟩;exact h2 (Ig.bQ hf.den)
     rw[Rq.dV h3];exact yg n d true false w hn hd h1 (by simpa using h2) (.inr rfl)
 · have h3:¬Rq.IX n d:=by
    rintro ⟨q,hf,rfl,-⟩;exact h1 (Ig.bQ hf.num)
   rw[Rq.dV h3];exact yg n d false (Ig.bF d) w hn hd (by simpa using h1) rfl (.inl rfl)
theorem NR (n d:Int) (w:World) (hn:Ig.fits n) (hf:Ig.fits d) (hd:0<d) :
 aW 74 #[.string ⟨(Lib.itoa n).toArray⟩,.string ⟨(Lib.itoa d).toArray⟩] w (.tuple #[QV (Rat.divInt n d),.int .i64 0]):=by
 have hV1:=fun w0=>fZ (Lib.itoa n) w0 (aV hn)
 have hV2:=fun w0=>fZ (Lib.itoa d) w0 (aV hf)
 rw[Ig.bQ hn]at hV1;rw [Ig.bQ hf]at hV2;have hC:=fun w0=>f_ d 0 w0 hf ji
 rw[jy]at hC;have hz:=iE d;rw [decide_eq_false (by omega)]at hz;rw [ng hd]at hC;have hn':=hn;have hf':=hf;have hd':=hd;have hG:=fun w0=>zn n d w0 hn' hf'
 have hg0:=nP (n:=n) (d:=d) (by omega);have hgf:=oG hn' hf';have hD1:=fun w0=>og n _ w0 hn' hgf hg0
 have hD2:=fun w0=>og d _ w0 hf' hgf hg0
 obtain⟨e1,e2⟩:=Rq.mP (n:=n) (d:=d) hd';rw [←e1]at hD1;rw [←e2]at hD2
 unfold QV
 generalize Lib.itoa (Rat.divInt n d).num=sa at *;generalize Lib.itoa ((Rat.divInt n d).den:Int)=sb at *;generalize Lib.itoa (n % ((Nat.gcd n.natAbs d.natAbs:Nat):Int))=m1 at *;generalize Lib.itoa (d % ((Nat.gcd n.natAbs d.natAbs:Nat):Int))=m2 at *;generalize Lib.itoa ((Nat.gcd n.natAbs d.natAbs:Nat):Int)=sg at *;generalize Lib.itoa n=sn at *;generalize Lib.itoa d=sd at *;clear e1 e2 hg0 hgf hn' hf' hd' hn hf hd;have hb:=au w (.cells #[.string ⟨#[]⟩,.string ⟨#[]⟩] 51);have BR:=Bx.mk w 51 #[.string ⟨#[]⟩,.string ⟨#[]⟩]
 go_enter Tryz.func74,Tryz.ntmps74
 go_wp2_with fail;refine (hV1 _).mono ?_;rintro _ _ ⟨rfl,rfl⟩;clear hV1;go_wp2_with fail;refine (hV2 _).mono ?_;rintro _ _ ⟨rfl,rfl⟩;clear hV2;go_wp2_with fail;refine (hC _).mono ?_;rintro _ w3 ⟨rfl,hb1⟩;replace hb:=aj hb hb1;replace BR:=BR.call hb1;clear hC hb1;go_wp2_with fail;refine (hG _).mono ?_;rintro _ w4 ⟨rfl,hb1⟩;replace hb:=aj hb hb1;replace BR:=BR.call hb1;clear hG hb1;go_wp2_with fail;refine (hD1 _).mono ?_;rintro _ w5 ⟨rfl,hb1⟩;replace hb:=aj hb hb1;replace BR:=BR.call hb1;clear hD1 hb1;go_wp2_with fail;refine (hD2 _).mono ?_;rintro _ w6 ⟨rfl,hb1⟩;replace hb:=aj hb hb1;replace BR:=BR.call hb1;clear hD2 hb1;have r0:=BR.cell 0 rfl;have r1:=BR.cell 1 rfl;have f0:=BR.frozen 0;have f1:=BR.frozen 1;have BR2:=(BR.set 0 (.string ⟨sa.toArray⟩)).set 1 (.string ⟨sb.toArray⟩);have hb2:=aJ (aJ hb (p:=⟨w.heap.size,0,none⟩) (Nat.le_refl _) (.string ⟨sa.toArray⟩)) (p:=⟨w.heap.size,1,none⟩) (Nat.le_refl _) (.string ⟨sb.toArray⟩);go_wp2;first|exact bodyPost_ret (aU rfl _ _ rfl rfl BR2) rfl ⟨rfl,hb2⟩|exact bodyPost_ret (aU rfl _ _ rfl rfl BR) rfl ⟨rfl,hb⟩
theorem NS (n d:Int) (w:World) (hn:Ig.fits n) (hf:Ig.fits d) (hd:d<0) :
 aW 74 #[.string ⟨(Lib.itoa n).toArray⟩,.string ⟨(Lib.itoa d).toArray⟩] w (.tuple #[QV (Rat.divInt n d),.int .i64 0]):=by
 have hV1:=fun w0=>fZ (Lib.itoa n) w0 (aV hn)
 have hV2:=fun w0=>fZ (Lib.itoa d) w0 (aV hf)
 rw[Ig.bQ hn]at hV1;rw [Ig.bQ hf]at hV2;have hC:=fun w0=>f_ d 0 w0 hf ji
 rw[jy]at hC;have hz:=iE d;rw [decide_eq_false (by omega)]at hz;rw [m_ hd]at hC;have hn':Ig.fits (0-n):=by unfold Ig.fits at *;omega
 have hf':Ig.fits (0-d):=by unfold Ig.fits at *;omega
 have hd':0<0-d:=by omega
 have hS1:=fun w0=>Gn 0 n w0 ji hn
 have hS2:=fun w0=>Gn 0 d w0 ji hf
 rw[Ig.dh hn',Ig.dO hn',jy]at hS1;rw [Ig.dh hf',Ig.dO hf',jy]at hS2;rw [Rq.zC];generalize hx:(0-n)=x at *;generalize hy:(0-d)=y at *;have hG:=fun w0=>zn x y w0 hn' hf'
 have hg0:=nP (n:=x) (d:=y) (by omega);have hgf:=oG hn' hf';have hD1:=fun w0=>og x _ w0 hn' hgf hg0
 have hD2:=fun w0=>og y _ w0 hf' hgf hg0
 obtain⟨e1,e2⟩:=Rq.mP (n:=x) (d:=y) hd';rw [←e1]at hD1;rw [←e2]at hD2
 unfold QV
 generalize Lib.itoa (Rat.divInt x y).num=sa at *;generalize Lib.itoa ((Rat.divInt x y).den:Int)=sb at *;generalize Lib.itoa (x % ((Nat.gcd x.natAbs y.natAbs:Nat):Int))=m1 at *;generalize Lib.itoa (y % ((Nat.gcd x.natAbs y.natAbs:Nat):Int))=m2 at *;generalize Lib.itoa ((Nat.gcd x.natAbs y.natAbs:Nat):Int)=sg at *;generalize Lib.itoa x=sx at *;generalize Lib.itoa y=sy at *;generalize Lib.itoa n=sn at *;generalize Lib.itoa d=sd at *;clear e1 e2 hg0 hgf hn' hf' hd' hn hf hd hx hy;have hb:=au w (.cells #[.string ⟨#[]⟩,.string ⟨#[]⟩] 51);have BR:=Bx.mk w 51 #[.string ⟨#[]⟩,.string ⟨#[]⟩]
 go_enter Tryz.func74,Tryz.ntmps74
 go_wp2_with fail;refine (hV1 _).mono ?_;rintro _ _ ⟨rfl,rfl⟩;clear hV1;go_wp2_with fail;refine (hV2 _).mono ?_;rintro _ _ ⟨rfl,rfl⟩;clear hV2;go_wp2_with fail;refine (hC _).mono ?_;rintro _ w3 ⟨rfl,hb1⟩;replace hb:=aj hb hb1;replace BR:=BR.call hb1;clear hC hb1;go_wp2_with fail;refine (hS1 _).mono ?_;rintro _ w4 ⟨rfl,hb1⟩;replace hb:=aj hb hb1;replace BR:=BR.call hb1;clear hS1 hb1;go_wp2_with fail;refine (hS2 _).mono ?_;rintro _ w5 ⟨rfl,hb1⟩;replace hb:=aj hb hb1;replace BR:=BR.call hb1;clear hS2 hb1;go_wp2_with fail;refine (hG _).mono ?_;rintro _ w6 ⟨rfl,hb1⟩;replace hb:=aj hb hb1;replace BR:=BR.call hb1;clear hG hb1;go_wp2_with fail;refine (hD1 _).mono ?_;rintro _ w7 ⟨rfl,hb1⟩;replace hb:=aj hb hb1;replace BR:=BR.call hb1;clear hD1 hb1;go_wp2_with fail;refine (hD2 _).mono ?_;rintro _ w8 ⟨rfl,hb1⟩;replace hb:=aj hb hb1;replace BR:=BR.call hb1;clear hD2 hb1;have r0:=BR.cell 0 rfl;have r1:=BR.cell 1 rfl;have f0:=BR.frozen 0;have f1:=BR.frozen 1;have BR2:=(BR.set 0 (.string ⟨sa.toArray⟩)).set 1 (.string ⟨sb.toArray⟩);have hb2:=aJ (aJ hb (p:=⟨w.heap.size,0,none⟩) (Nat.le_refl _) (.string ⟨sa.toArray⟩)) (p:=⟨w.heap.size,1,none⟩) (Nat.le_refl _) (.string ⟨sb.toArray⟩);go_wp2;first|exact bodyPost_ret (aU rfl _ _ rfl rfl BR2) rfl ⟨rfl,hb2⟩|exact bodyPost_ret (aU rfl _ _ rfl rfl BR) rfl ⟨rfl,hb⟩
theorem RI (n d:Int) (w:World) (hn:Ig.fits n) (hf:Ig.fits d) (hd:d≠0) :
 aW 74 #[.string ⟨(Lib.itoa n).toArray⟩,.string ⟨(Lib.itoa d).toArray⟩] w (.tuple #[QV (Rat.divInt n d),.int .i64 0]):=by
 rcases Int.lt_or_lt_of_ne hd with h|h
 · exact NS n d w hn hf h
 · exact NR n d w hn hf h
end Go.Proofs.YtelljijajgiabaaGreatDoor
namespace Go.Proofs.YtelljijajgiabaaGreatDoor.RS
open Go.RowKit
abbrev Rl:=Value->Value->World->Prop
def eP (K:World->World->Prop) (p:Rl):Prop:=∀x v w w',p x v w->K w w'->p x v w'
def ak (u:Value):Rl:=fun _ v _=>v=u
def jJ:Rl:=fun _ _ _=>True
theorem aF {K:World->World->Prop} (u:Value):eP K (ak u):=fun _ _ _ _ h _=>h
theorem jo {K:World->World->Prop}:eP K jJ:=fun _ _ _ _ _ _=>trivial
def rel (ps:List Rl) (i:Nat):Rl:=ps.getD i jJ
def bV (K:World->World->Prop):List Rl->Prop
 | []=>True
 | p :: l=>eP K p/\bV K l
def cZ (ks:Nat->Option Nat) (vs:Nat->Value) (w:World):Nat->List Rl->Prop
 | _,[]=>True
 | k,p :: l=>p (jG ks vs k) (vs k) w/\cZ ks vs w (k+1) l
theorem bV.get {K:World->World->Prop}:∀(ps:List Rl) (i:Nat),bV K ps->eP K (ps.getD i jJ)
 | [],i,_=>by simpa using jo
 | p :: l,0,h=>by simpa using h.1
 | p :: l,i+1,h=>by simpa using bV.get l i h.2
theorem ig {ks:Nat->Option Nat} {vs:Nat->Value} {w:World}:∀(ps:List Rl) (k:Nat),(∀i,i<ps.length->(ps.getD i jJ) (jG ks vs (k+i)) (vs (k+i)) w)->cZ ks vs w k ps
 | [],_,_=>trivial
 | p :: l,k,h=>⟨by simpa using h 0 (by simp),ig l (k+1) fun i hi=>by
  have:=h (i+1) (by simp;omega)
  rw[show k+1+i=k+(i+1) by omega];simpa using this⟩
def zZ (o:Oper) (j:Nat):Bool:=o.after.toList.any fun e=>Region.binds .any e&&e.on==j
def aQ (vs:Nat->Value):Nat->List (Option Tmp)->Act->Act
 | _,[],a=>a
 | k,d :: rest,a=>aQ vs (k+1) rest (a.put d (vs k))
theorem dK (vs:Nat->Value):∀(l:List Oper) (k:Nat) (a:Act),dR vs k l a=aQ vs k (l.map (·.dst)) a
 | [],_,_=>rfl
 | o :: l,k,a=>dK vs l (k+1) _
def bG (K:World->World->Prop) (ks:Nat->Option Nat) (P:Program) (ops:Array Oper) (ps:List Rl) (w0:World) (a0:Act):Nat->List (Option Tmp)->List Oper->List Rl->Prop
 | k,pre,o :: l,q :: qs=>(∀(vs:Nat->Value) (w:World),K w0 w->(∀j,zZ o j=true->rel ps j (jG ks vs j) (vs j) w) ->
  wpList P ops (fun e a' w'=>e=.normal/\a'.defers=a0.defers/\K w w'/\q (jG ks vs k) (qV o a') w') [o] (aQ vs 0 pre a0) w)/\bG K ks P ops ps w0 a0 (k+1) (pre++[o.dst]) l qs
 | _,_,_,_=>True
theorem bG.rg {K:World->World->Prop} {ks:Nat->Option Nat} {P:Program} {ps:List Rl} {w0:World} {a0:Act} {L:List Oper} {n:Nat} (hnp:n<=ps.length):∀(l:List Oper) (k:Nat),(∀j,l[j]? = (L.take n)[k+j]?)->bG K ks P L.toArray ps w0 a0 k ((L.take k).map (·.dst)) l (ps.drop k)->dw K ks P L.toArray (rel ps) w0 a0 k l
 | [],_,_,_=>trivial
 | o :: l,k,hl,h=>by
  have h0:(L.take n)[k]? = some o:=by simpa using (hl 0).symm
  obtain⟨hkn,hLo⟩:=fC h0;have hkp:k<ps.length:=by omega
  rw[List.drop_eq_getElem_cons hkp]at h;refine ⟨fun vs w hb hE=>?_,bG.rg hnp l (k+1) (fun j=>by have:=hl (j+1);simpa [Nat.add_assoc,Nat.add_comm 1 j] using this) ?_⟩
  · have hu:=h.1 vs w hb fun j hj=>by
     obtain⟨e,he,t_⟩:=List.any_eq_true.1 hj;simp only[Bool.and_eq_true,beq_iff_eq]at t_;have:=iH _ hE e he t_.1
     rwa [t_.2]at this
    have hfr:seen L.toArray vs k a0=aQ vs 0 ((L.take k).map (·.dst)) a0:=dK vs _ 0 a0;rw [hfr];have hq:ps[k]=rel ps k:=by simp[rel,List.getD_eq_getElem?_getD,hkp]
    rw[hq]at hu;exact hu
  · have h2:=h.2
    have e1:(L.take k).map (·.dst)++[o.dst]=(L.take (k+1)).map (·.dst):=by
     rw[List.take_add_one,hLo];simp
    rw[e1]at h2;exact h2
def tV (l:List (Nat × Nat)) (i:Nat):Option Nat:=(l.find? (·.1==i)).map (·.2)
def XY (L:List Oper) (l:List (Nat × Nat)):Bool:=l.all fun p=>match L[p.1]? with|some o=>zZ o p.2|none=>true
theorem zF {L:List Oper} {l:List (Nat × Nat)} (h:XY L l=true) (i:Nat) (o:Oper) (k:Nat) (ho:L.toArray[i]? = some o) (hk:tV l i=some k):∃e∈o.after,Region.binds .any e=true/\e.on=k:=by
 unfold tV at hk
 cases hf:l.find? (·.1==i) with
 | none=>rw[hf]at hk;cases hk
 | some p =>
  rw[hf]at hk;have hp:=List.find?_some hf;have hm:=List.mem_of_find?_eq_some hf;have h1:=List.all_eq_true.1 h p hm;have e1:p.1=i:=by simpa using hp
  have e2:p.2=k:=by simpa using hk
  have ho':L[i]? = some o:=by simpa using ho
  rw[e1,ho']at h1;simp only[e2]at h1;obtain ⟨e,he,t_⟩:=List.any_eq_true.1 h1;simp only[Bool.and_eq_true,beq_iff_eq]at t_;exact ⟨e,by simpa using he,t_.1,t_.2⟩
theorem dJ {K:World->World->Prop} (hK:Cls K) (kl:List (Nat × Nat)) {P:Program} {l:List Oper} {Q:Exit->Act->World->Prop} {a0:Act} {w0:World} (ps:List Rl) (n sz:Nat) (hnp:ps.length=n) (hsz:a0.tmps.size=sz)
 (hB:(nH l.toArray sz&&mQ l.toArray n&&(decide (l.length<=n)||(Region.sinkB .any l.toArray n&&Region.chainB .any l.toArray n))&&decide (n<=l.length)&&Region.seqB .any l.toArray (l.length-n) n ((List.range l.length).map fun i=>decide (i<n)).toArray)=true)
 (hkl:XY l kl=true) (hst:bV K ps) (hsteps:bG K (tV kl) P l.toArray ps w0 a0 0 [] (l.take n) ps)
 (hfin:∀vs w',K w0 w'->cZ (tV kl) vs w' 0 ps->wpList P l.toArray Q (l.drop n) (aQ vs 0 ((l.take n).map (·.dst)) a0) w'):wpAny P .any l.toArray Q l.toArray.size (Array.replicate l.toArray.size false) a0 { w0 with drawn:=w0.drawn+1 }:=by
 subst hnp hsz;refine eu hK (tV kl) ps.length (rel ps) hB (zF hkl) (fun i x v w w' h hb=>bV.get ps i hst x v w w' h hb) (bG.rg (Nat.le_refl _) (l.take ps.length) 0 (fun j=>by simp) hsteps) fun vs w' hb hR=>by rw[dK];exact hfin vs w' hb (ig ps 0 fun i hi=>by rw[Nat.zero_add];exact hR i hi)
theorem aA {K:World->World->Prop} (hK:Cls K) (kl:List (Nat × Nat)) {P:Program} {id:Nat} {l:List Oper} {Q:Exit->Act->World->Prop} {a0:Act} {w0:World} (ps:List Rl) (n sz:Nat) (hm:P.follows .mixedOrders=true) (hnp:ps.length=n) (hsz:a0.tmps.size=sz)
 (hB:(nH l.toArray sz&&mQ l.toArray n&&(decide (l.length<=n)||(Region.sinkB .any l.toArray n&&Region.chainB .any l.toArray n))&&decide (n<=l.length)&&Region.seqB .any l.toArray (l.length-n) n ((List.range l.length).map fun i=>decide (i<n)).toArray)=true)
 (hkl:XY l kl=true) (hst:bV K ps) (hsteps:bG K (tV kl) P l.toArray ps w0 a0 0 [] (l.take n) ps)
 (hfin:∀vs w',K w0 w'->cZ (tV kl) vs w' 0 ps->wpList P l.toArray Q (l.drop n) (aQ vs 0 ((l.take n).map (·.dst)) a0) w'):(Code.region id l.toArray true).wp P Q a0 w0 :=
 wp_region_any hm (dJ hK kl ps n sz hnp hsz hB hkl hst hsteps hfin)
def KF (B:Nat) (t:TypeId) (cs:Array Value) (w w':World):Prop:=Below B w w'/\w.heap.size<=w'.heap.size/\∀g c,B<=g->Bx w g t c->c.size=cs.size->Bx w' g t c∨Bx w' g t cs
theorem KF.of {B:Nat} {t:TypeId} {cs:Array Value} {w w':World} (hB:B<=w.heap.size) (h:Below w.heap.size w w'):KF B t cs w w':=⟨h.mono hB,h.size,fun g c _ hb _=>.inl (hb.call h)⟩
theorem xC (B:Nat) (t:TypeId) (cs:Array Value):Cls (KF B t cs) :=
 ⟨fun w=>⟨Below.refl _ _,Nat.le_refl _,fun g c _ h _=>.inl h⟩,
  fun h1 h2=>⟨h1.1.trans h2.1,Nat.le_trans h1.2.1 h2.2.1,fun g c hg h hc=>by
   rcases h1.2.2 g c hg h hc with h3|h3
   · exact h2.2.2 g c hg h3 hc
   · rcases h2.2.2 g cs hg h3 rfl with h4|h4 <;> exact .inr h4⟩,
  fun w n=>⟨⟨rfl,rfl,rfl,Nat.le_refl _,fun _ _=>rfl⟩,Nat.le_refl _,fun g c _ h _=>.inl h⟩⟩
def PtrR (B:Nat) (t:TypeId) (cs:Array Value):Rl:=fun _ v w=>∃g c,v=.pointer (some ⟨g,0,none⟩)/\B<=g/\c.size=cs.size/\Bx w g t c
def StoR (B:Nat) (t:TypeId) (cs:Array Value):Rl:=fun x _ w=>∃g,x=.pointer (some ⟨g,0,none⟩)/\B<=g/\Bx w g t cs
end Go.Proofs.YtelljijajgiabaaGreatDoor.RS
namespace Go.Proofs.YtelljijajgiabaaGreatDoor.RS
open Go.RowKit
variable {B:Nat} {t:TypeId} {cs:Array Value} {W w w':World}
theorem KF.rf (B:Nat) (t:TypeId) (cs:Array Value) (w:World):KF B t cs w w:=(xC B t cs).refl w
theorem KF.call (h:KF B t cs W w) (hB:B<=W.heap.size) (hb:Below w.heap.size w w'):KF B t cs w w':=KF.of (Nat.le_trans hB h.2.1) hb
theorem KF.new (h:KF B t cs W w) (hB:B<=W.heap.size) (z:Array Value) (hz:z.size=cs.size) (x:Value):KF B t cs w (w.alloc (.cells z t))/\PtrR B t cs x (.pointer (some ⟨w.heap.size,0,none⟩)) (w.alloc (.cells z t)) :=
 ⟨h.call hB (bNew (Below.refl w.heap.size w) _),_,z,rfl,Nat.le_trans hB h.2.1,hz,Bx.mk w t z⟩
theorem Cb {c:Array Value} (h:c.size=2):∃a b,c=#[a,b]:=by
 refine⟨c[0],c[1],?_⟩;apply Array.ext
 · simp[h]
 · intro i h1 h2;have:i=0∨i=1:=by omega
   rcases this with rfl|rfl <;> rfl
theorem KF.store2 {x y a b:Value} {g:Nat} (hg:B<=g) (hB:Bx w g t #[a,b]) (u:Value) (hu:u=.pointer (some ⟨g,0,none⟩)) (z:Value) :
 KF B t #[x,y] w ((w.setCell ⟨g,0,none⟩ x).setCell ⟨g,1,none⟩ y)/\StoR B t #[x,y] u z ((w.setCell ⟨g,0,none⟩ x).setCell ⟨g,1,none⟩ y):=by
 have h2:Bx ((w.setCell ⟨g,0,none⟩ x).setCell ⟨g,1,none⟩ y) g t #[x,y]:=by simpa using (hB.set 0 x).set 1 y
 refine⟨⟨((Below.refl B w).setCell (p:=⟨g,0,none⟩) hg x).setCell (p:=⟨g,1,none⟩) hg y,?_,fun g' c hg' h hc=>?_⟩,g,hu,hg,h2⟩
 · have:=((Below.refl B w).setCell (p:=⟨g,0,none⟩) hg x).setCell (p:=⟨g,1,none⟩) hg y;exact this.size
 · by_cases e:g'=g
   · subst e;have ht:c.size=2/\True:=⟨hc,trivial⟩
     right
     exact h2
   · left
     exact (h.far (p:=⟨g,0,none⟩) e x).far (p:=⟨g,1,none⟩) e y
end Go.Proofs.YtelljijajgiabaaGreatDoor.RS
namespace Go.Proofs.YtelljijajgiabaaGreatDoor
open Go.RowKit Go.Shelf
theorem RH (n d:Int) (s0 s1 r1 r2:List UInt8) (code:Int) (w:World)
 (hF1:∀w0,aW 75 #[.int .i64 n] w0 (.string ⟨s0.toArray⟩))
 (hF2:∀w0,aW 75 #[.int .i64 d] w0 (.string ⟨s1.toArray⟩))
 (hM:∀w0,aW 74 #[.string ⟨s0.toArray⟩,.string ⟨s1.toArray⟩] w0 (.tuple #[.agg #[.string ⟨r1.toArray⟩,.string ⟨r2.toArray⟩],.int .i64 code])) :
 aW 45 #[.int .i64 n,.int .i64 d] w (.tuple #[.agg #[.string ⟨r1.toArray⟩,.string ⟨r2.toArray⟩],.int .i64 code]):=by
 have hb:=au w (.cells #[.string ⟨#[]⟩,.string ⟨#[]⟩] 51);have BR:=Bx.mk w 51 #[.string ⟨#[]⟩,.string ⟨#[]⟩]
 go_enter Tryz.func45,Tryz.ntmps45
 go_wp2_with fail;refine (hF1 _).mono ?_;rintro _ w1 ⟨rfl,hb1⟩;replace hb:=aj hb hb1;replace BR:=BR.call hb1;clear hF1 hb1;go_wp2_with fail;refine (hF2 _).mono ?_;rintro _ w2 ⟨rfl,hb1⟩;replace hb:=aj hb hb1;replace BR:=BR.call hb1;clear hF2 hb1;go_wp2_with fail;refine (hM _).mono ?_;rintro _ w3 ⟨rfl,hb1⟩;replace hb:=aj hb hb1;replace BR:=BR.call hb1;clear hM hb1;have kr0:=BR.cell 0 rfl;have kr1:=BR.cell 1 rfl;have f0:=BR.frozen 0;have f1:=BR.frozen 1;have BR2:=(BR.set 0 (.string ⟨r1.toArray⟩)).set 1 (.string ⟨r2.toArray⟩);have hb2:=aJ (aJ hb (p:=⟨w.heap.size,0,none⟩) (Nat.le_refl _) (.string ⟨r1.toArray⟩)) (p:=⟨w.heap.size,1,none⟩) (Nat.le_refl _) (.string ⟨r2.toArray⟩);go_wp2;first|exact bodyPost_ret (aU rfl _ _ rfl rfl BR2) rfl ⟨rfl,hb2⟩|exact bodyPost_ret (aU rfl _ _ rfl rfl BR) rfl ⟨rfl,hb⟩
theorem YH (n d:Int) (w:World) (hn:I64 n) (hd:I64 d) (h0:d≠0) :
 aW 45 #[.int .i64 n,.int .i64 d] w (.tuple #[QV (Rat.divInt n d),.int .i64 0]) :=
 RH n d _ _ _ _ 0 w (fun w0=>uQ n w0 hn.1 hn.2) (fun w0=>uQ d w0 hd.1 hd.2) (fun w0=>RI n d w0 (jV hn) (jV hd) h0)
end Go.Proofs.YtelljijajgiabaaGreatDoor
namespace Tb
end Tb
namespace Go.Proofs.YtelljijajgiabaaGreatDoor
open Go.RowKit Go.Shelf
theorem PX:∃i z,Tryz.prog.info? 51=some i/\i.zero=some z/\i.size=2/\z.cells.size=2/\i.bytes=32:=by
 have h:(Tryz.prog.info? 51).map (fun i=>(i.size,i.bytes,i.zero.map (·.cells.size)))=some (2,32,some 2):=by kernel_rfl
 cases hi:Tryz.prog.info? 51 with
 | none=>rw[hi]at h;cases h
 | some i =>
  rw[hi]at h;simp only[Option.map_some,Option.some.injEq,Prod.mk.injEq]at h;obtain ⟨h1,h2,h3⟩:=h
  cases hz:i.zero with
  | none=>rw[hz]at h3;cases h3
  | some z=>rw[hz]at h3;exact⟨i,z,rfl,hz,h1,by simpa using h3,h2⟩
def qp (q:Rat):List Value:=nD (iy q)
theorem PW (q:Rat):(qp q).length=2:=rfl
theorem KQ {q:Rat} {a b:List UInt8} (h:LQ q a b):qp q=[.string ⟨a.toArray⟩,.string ⟨b.toArray⟩]:=by
 unfold qp nD iy;rw[h.out.1,h.out.2]
theorem VD {w:World} {B:Nat} {A:Option Addr} {l:List Rat} (h:At 2 qp w B A l):At 2 nD w B A (l.map iy):=fun h0=>by
 rw[List.length_map]at h0;obtain ⟨b,off,rfl,hb,hc⟩:=h h0;refine ⟨b,off,rfl,hb,fun i c hi=>?_⟩;rw [List.getElem?_map]at hi;obtain ⟨q,hq,rfl⟩:=Option.map_eq_some_iff.1 hi;exact hc i q hq
theorem SE.set {w0 w:World} (h:SE w0 w) (hE:Env w0) {p:Addr} (hp:w0.heap.size<=p.block) (u:Value):SE w0 (w.setCell p u):=⟨aJ h.bl hp u,hE.below (aJ h.bl hp u)⟩
theorem YS {x y:Rat} {c:Int} (hc:Kp (Rq.kY x y=c)) (h:x<=y):decide (c > 0)=false:=by
 rcases Rq.iU x y with ⟨e,_⟩|⟨e,_⟩|⟨e,h1⟩
 · rw[←hc.out,e];rfl
 · rw[←hc.out,e];rfl
 · exact absurd h (Rat.not_le.2 h1)
end Go.Proofs.YtelljijajgiabaaGreatDoor

import Derived.Test.YtelljijajgiabaaGreatDoorQ15
set_option linter.unusedVariables false
set_option linter.unusedSimpArgs false
set_option maxRecDepth 100000
set_option maxHeartbeats 8000000
namespace Go.Proofs.YtelljijajgiabaaGreatDoor
open Go.RowKit Go.Shelf
theorem Nv:Lib.itoa 1=[49]:=by decide +kernel
theorem xY (z:Int) (w:World) :
 Calls Tryz.prog 120 #[.string ⟨(Lib.itoa z).toArray⟩] w fun e w'=>e=.returned (.string ⟨(Lib.itoa (if z=0 then 0 else 1)).toArray⟩)/\w=w':=by
 have hz:=iE z;have h1:Lib.itoa 1=[49]:=Nv;by_cases h:z=0
 · rw[if_pos h,jy];rw [decide_eq_true h]at hz;have hz':=beq_iff_eq.1 hz;rw [hz'];clear hz hz' h h1
   go_enter Tryz.func120,Tryz.ntmps120
   go_wp2;go_ret;exact ⟨rfl,rfl⟩
 · rw[if_neg h,h1];rw [decide_eq_false h]at hz;generalize Lib.itoa z=s at *;clear h h1
   go_enter Tryz.func120,Tryz.ntmps120
   go_wp2;go_ret;exact ⟨rfl,rfl⟩
theorem Hw {q:Rat} (hq:Rq.Fq q) (w0:World) :
 aW 79 #[QV q] w0 (.bool true):=by
 have h:=Hg (Lib.itoa q.num) (Lib.itoa (q.den:Int)) w0 (aV hq.num) (aV hq.den);rw [Rq.oq hq]at h;exact h
section
variable (a b:Rat) (w:World)
end
theorem LP {d:Int} {sd:List UInt8} (hd:0<d) (e0:Lib.itoa d=sd):Classical.epsilon (fun k:Nat=>(Value.string ⟨sd.toArray⟩)=.string ⟨(Lib.itoa (k:Int)).toArray⟩)=d.toNat:=by
 have he:∃k:Nat,(Value.string ⟨sd.toArray⟩)=.string ⟨(Lib.itoa (k:Int)).toArray⟩:=⟨d.toNat,by rw[Int.toNat_of_nonneg (by omega),e0]⟩
 have h:=Classical.epsilon_spec he;generalize Classical.epsilon (fun k:Nat=>(Value.string ⟨sd.toArray⟩)=.string ⟨(Lib.itoa (k:Int)).toArray⟩)=y at *;simp only[Value.string.injEq,ByteArray.mk.injEq,Array.mk.injEq]at h;have h2:sd=Lib.itoa (y:Int):=by simpa using h
 have:=Ig.dH (e0.trans h2);omega
theorem Bh (a1 a2 b1 b2:List UInt8) (n d m c:Int) (w:World) (hd0:0<d) (hc0:0<c) (hfit:Kp (Ig.fits n/\Ig.fits d/\Ig.fits m/\Ig.fits c)) (hst:Kp (Lib.itoa n=a1/\Lib.itoa d=a2/\Lib.itoa m=b1/\Lib.itoa c=b2))
 (hV1:∀w0,aW 79 #[.agg #[.string ⟨a1.toArray⟩,.string ⟨a2.toArray⟩]] w0 (.bool true)) (hV2:∀w0,aW 79 #[.agg #[.string ⟨b1.toArray⟩,.string ⟨b2.toArray⟩]] w0 (.bool true)) :
 aW 80 #[.agg #[.string ⟨a1.toArray⟩,.string ⟨a2.toArray⟩],.agg #[.string ⟨b1.toArray⟩,.string ⟨b2.toArray⟩]] w (.int .i64 (dA (n*c) (m*d))):=by
 obtain⟨ans,Ri⟩:=jH (dA (n*c) (m*d));have hans:Kp ((1:Int)*dA (n*c) (m*d)=ans):=⟨by rw[Int.one_mul];exact Ri.out⟩
 rw[Ri.out];clear Ri;have hb:=bNew (au w (.cells #[.string ⟨a1.toArray⟩,.string ⟨a2.toArray⟩] 51)) (.cells #[.string ⟨b1.toArray⟩,.string ⟨b2.toArray⟩] 51);have BA:=(Bx.mk w 51 #[.string ⟨a1.toArray⟩,.string ⟨a2.toArray⟩]).new (.cells #[.string ⟨b1.toArray⟩,.string ⟨b2.toArray⟩] 51);have BB:=Bx.mk (w.alloc (.cells #[.string ⟨a1.toArray⟩,.string ⟨a2.toArray⟩] 51)) 51 #[.string ⟨b1.toArray⟩,.string ⟨b2.toArray⟩];rw [ah]at BB;have DF:=BA.cell 0 rfl;have DC:=BA.cell 1 rfl;have cB0:=BB.cell 0 rfl;have cB1:=BB.cell 1 rfl
 go_enter Tryz.func80,Tryz.ntmps80
 go_wp2_with fail;refine (hV1 _).mono ?_;rintro _ w1 ⟨rfl,hb1⟩;replace hb:=aj hb hb1;replace BA:=BA.call hb1;replace BB:=BB.call hb1;have DF:=BA.cell 0 rfl;have DC:=BA.cell 1 rfl;have cB0:=BB.cell 0 rfl;have cB1:=BB.cell 1 rfl;clear hV1 hb1;go_wp2_with fail;refine (hV2 _).mono ?_;rintro _ w2 ⟨rfl,hb1⟩;replace hb:=aj hb hb1;replace BA:=BA.call hb1;replace BB:=BB.call hb1;have DF:=BA.cell 0 rfl;have DC:=BA.cell 1 rfl;have cB0:=BB.cell 0 rfl;have cB1:=BB.cell 1 rfl;clear hV2 hb1;go_wp2_with fail
 go_loopw [7,8,9,10,11] (fun s7 s8 s9 s10 s11 wr=>∃(n d m c sg:Int) (sn sd sm sc:List UInt8),s7=.int .i64 sg/\s8=.string ⟨sn.toArray⟩/\s9=.string ⟨sd.toArray⟩/\s10=.string ⟨sm.toArray⟩/\s11=.string ⟨sc.toArray⟩/\(sg=1∨sg= -1)/\0<d/\0<c/\Kp (Lib.itoa n=sn/\Lib.itoa d=sd/\Lib.itoa m=sm/\Lib.itoa c=sc)/\Kp (Ig.fits n/\Ig.fits d/\Ig.fits m/\Ig.fits c)/\Kp (sg*dA (n*c) (m*d)=ans)/\Below w.heap.size w wr) (fun s7 s8 s9 s10 s11 wr=>Classical.epsilon (fun k:Nat=>s9=.string ⟨(Lib.itoa (k:Int)).toArray⟩))
 case atStart=>exact⟨n,d,m,c,1,a1,a2,b1,b2,rfl,rfl,rfl,rfl,rfl,.inl rfl,hd0,hc0,hst,hfit,hans,hb⟩
 case round =>
  clear BA BB DF DC cB0 cB1 hst hfit hans hd0 hc0 hb;obtain ⟨n,d,m,c,sg,sn,sd,sm,sc,rfl,rfl,rfl,rfl,rfl,hsg,hd0,hc0,hst,hfit,hans,hb⟩:=hrel;obtain ⟨hn,hd,hm,hc⟩:=hfit.out;have hD1:=fun w0=>og n d w0 hn hd (by omega)
  have hD2:=fun w0=>og m c w0 hm hc (by omega)
  have yB:=fun w0=>f_ (n / d) (m / c) w0 (gJ d hn) (gJ c hm)
  have fr:=mY n (show d≠0 by omega) hd;have fs:=mY m (show c≠0 by omega) hc;have tr:=iE (n % d);have ts:=iE (m % c);have hz1:=fun w0=>xY (n % d) w0
  have hz2:=fun w0=>xY (m % c) w0
  have hlt:=fun h=>SX (n:=n) (m:=m) hd0 hc0 h
  have hgt:=fun h=>SY (n:=n) (m:=m) hd0 hc0 h
  have h00:=fun h h1 h2=>S_ (n:=n) (d:=d) (m:=m) (c:=c) h h1 h2
  have zQ:=fun h h1 h2=>S9 (n:=n) (m:=m) hd0 hc0 h h1 h2
  have hr0:=fun h h1 h2=>SV (n:=n) (m:=m) hd0 hc0 h h1 h2
  have htn:=fun h=>ET (n:=n) (d:=d) (m:=m) (c:=c) h
  have hsd:=fun h=>jZ (n:=n) hd0 h
  have hsc:=fun h=>jZ (n:=m) hc0 h
  obtain⟨sp,RQ⟩:=jH (Lib.itoa (n / d));obtain ⟨sr,JV⟩:=jH (Lib.itoa (n % d));obtain ⟨sq,RP⟩:=jH (Lib.itoa (m / c));obtain ⟨ss,ess⟩:=jH (Lib.itoa (m % c));rw [hst.out.1,hst.out.2.1,RQ.out,JV.out]at hD1;rw [hst.out.2.2.1,hst.out.2.2.2,RP.out,ess.out]at hD2;rw [RQ.out,RP.out]at yB;rw [JV.out]at tr hz1;rw [ess.out]at ts hz2;replace RQ:=trivial;replace RP:=trivial;have hdd:=LP hd0 hst.out.2.1;generalize hv:dA (n*c) (m*d)=val at *;generalize n / d=p at *;generalize m / c=q at *;generalize n % d=r at *;generalize m % c=s at *;replace hv:=Kp.mk hv;go_wp2_with fail;refine (hD1 _).mono ?_;rintro _ w1 ⟨rfl,hb1⟩;replace hb:=aj hb hb1;clear hb1 hD1;go_wp2_with fail;refine (hD2 _).mono ?_;rintro _ w2 ⟨rfl,hb1⟩;replace hb:=aj hb hb1;clear hb1 hD2;go_wp2_with fail;refine (yB _).mono ?_;rintro _ w3 ⟨rfl,hb1⟩;replace hb:=aj hb hb1;clear hb1 yB
  rcases Int.lt_trichotomy p q with hpq|hpq|hpq
  · have e:=hlt hpq;rw [m_ hpq];replace e:=Kp.mk e;clear hlt hgt h00 zQ hr0 htn hsd hsc tr ts hz1 hz2 hdd
    rcases hsg with rfl|rfl
    all_goals
     go_wp2;go_ret;exact ⟨by rw[←hans.out,e.out];first|rfl|decide,hb⟩
  · subst hpq;rw [oI];clear hlt hgt;by_cases hr:r=0
    · by_cases hs:s=0
      · have e:=Kp.mk (h00 rfl hr hs);rw [decide_eq_true hr]at tr;rw [decide_eq_true hs]at ts;rw [if_pos hr]at hz1;rw [if_pos hs]at hz2;have hC2:=fun w0=>f_ 0 0 w0 ji ji
        rw[oI]at hC2;clear h00 zQ hr0 htn hsd hsc hdd;replace hr:=Kp.mk hr;replace hs:=Kp.mk hs;generalize Lib.itoa 0=z0 at *;generalize Lib.itoa 1=z1 at *;go_wp2_with fail;refine (hz1 _).mono ?_;rintro _ _ ⟨rfl,rfl⟩;go_wp2_with fail;refine (hz2 _).mono ?_;rintro _ _ ⟨rfl,rfl⟩;clear hz1 hz2;go_wp2_with fail;refine (hC2 _).mono ?_;rintro _ w6 ⟨rfl,hb1⟩;replace hb:=aj hb hb1;clear hb1 hC2
        rcases hsg with rfl|rfl
        all_goals
         go_wp2;go_ret;exact ⟨by rw[←hans.out,e.out];first|rfl|decide,hb⟩
      · have e:=Kp.mk (zQ rfl hr hs);rw [decide_eq_true hr]at tr;rw [decide_eq_false hs]at ts;rw [if_pos hr]at hz1;rw [if_neg hs]at hz2;have hC2:=fun w0=>f_ 0 1 w0 ji xu
        rw[m_ (by decide)]at hC2;clear h00 zQ hr0 htn hsd hsc hdd;replace hr:=Kp.mk hr;replace hs:=Kp.mk hs;generalize Lib.itoa 0=z0 at *;generalize Lib.itoa 1=z1 at *;go_wp2_with fail;refine (hz1 _).mono ?_;rintro _ _ ⟨rfl,rfl⟩;go_wp2_with fail;refine (hz2 _).mono ?_;rintro _ _ ⟨rfl,rfl⟩;clear hz1 hz2;go_wp2_with fail;refine (hC2 _).mono ?_;rintro _ w6 ⟨rfl,hb1⟩;replace hb:=aj hb hb1;clear hb1 hC2
        rcases hsg with rfl|rfl
        all_goals
         go_wp2;go_ret;exact ⟨by rw[←hans.out,e.out];first|rfl|decide,hb⟩
    · by_cases hs:s=0
      · have e:=Kp.mk (hr0 rfl hr hs);rw [decide_eq_false hr]at tr;rw [decide_eq_true hs]at ts;rw [if_neg hr]at hz1;rw [if_pos hs]at hz2;have hC2:=fun w0=>f_ 1 0 w0 xu ji
        rw[ng (by decide)]at hC2;clear h00 zQ hr0 htn hsd hsc hdd;replace hr:=Kp.mk hr;replace hs:=Kp.mk hs;generalize Lib.itoa 0=z0 at *;generalize Lib.itoa 1=z1 at *;go_wp2_with fail;refine (hz1 _).mono ?_;rintro _ _ ⟨rfl,rfl⟩;go_wp2_with fail;refine (hz2 _).mono ?_;rintro _ _ ⟨rfl,rfl⟩;clear hz1 hz2;go_wp2_with fail;refine (hC2 _).mono ?_;rintro _ w6 ⟨rfl,hb1⟩;replace hb:=aj hb hb1;clear hb1 hC2
        rcases hsg with rfl|rfl
        all_goals
         go_wp2;go_ret;exact ⟨by rw[←hans.out,e.out];first|rfl|decide,hb⟩
      · have e:=Kp.mk (htn rfl);rw [decide_eq_false hr]at tr;rw [decide_eq_false hs]at ts;obtain ⟨hr1,hr2⟩:=hsd hr;obtain ⟨hs1,hs2⟩:=hsc hs;have hmu:=LP hr1 JV.out;have hst2:Kp (Lib.itoa d=sd/\Lib.itoa r=sr/\Lib.itoa c=sc/\Lib.itoa s=ss):=⟨⟨hst.out.2.1,JV.out,hst.out.2.2.2,ess.out⟩⟩
        have WS:Kp (Ig.fits d/\Ig.fits r/\Ig.fits c/\Ig.fits s):=⟨⟨hd,fr,hc,fs⟩⟩
        clear h00 zQ hr0 htn hsd hsc hz1 hz2;replace hdd:=Kp.mk hdd;replace hmu:=Kp.mk hmu
        rcases hsg with rfl|rfl
        · go_wp2;refine ⟨⟨d,r,c,s,-1,sd,sr,sc,ss,by first|rfl|go_num,rfl,rfl,rfl,rfl,.inr rfl,hr1,hs1,hst2,WS,⟨by rw[←hans.out,e.out];omega⟩,hb⟩,?_⟩
          show Classical.epsilon _<Classical.epsilon _
          rw[hdd.out,hmu.out];exact hr2
        · go_wp2;refine ⟨⟨d,r,c,s,1,sd,sr,sc,ss,by first|rfl|go_num,rfl,rfl,rfl,rfl,.inl rfl,hr1,hs1,hst2,WS,⟨by rw[←hans.out,e.out];omega⟩,hb⟩,?_⟩
          show Classical.epsilon _<Classical.epsilon _
          rw[hdd.out,hmu.out];exact hr2
  · have e:=hgt hpq;rw [ng hpq];replace e:=Kp.mk e;clear hlt hgt h00 zQ hr0 htn hsd hsc tr ts hz1 hz2 hdd
    rcases hsg with rfl|rfl
    all_goals
     go_wp2;go_ret;exact ⟨by rw[←hans.out,e.out];first|rfl|decide,hb⟩
theorem EI (x y:Rat) (w:World) (hx:Rq.Fq x) (hy:Rq.Fq y) :
 aW 80 #[QV x,QV y] w (.int .i64 (dA (x.num*y.den) (y.num*x.den))) :=
 Bh _ _ _ _ x.num x.den y.num y.den w (Rq.iG x) (Rq.iG y) ⟨⟨hx.num,hx.den,hy.num,hy.den⟩⟩ ⟨⟨rfl,rfl,rfl,rfl⟩⟩ (fun w0=>Hw hx w0) (fun w0=>Hw hy w0)
end Go.Proofs.YtelljijajgiabaaGreatDoor
namespace Tb
end Tb
namespace Go.Proofs.YtelljijajgiabaaGreatDoor
open Go.RowKit Go.Shelf
theorem xw {x y:Rat} {xa xb ya yb:List UInt8} (w:World) (lx:LQ x xa xb) (ly:LQ y ya yb) (hx:Rq.Fq x) (hy:Rq.Fq y) {c:Int} (hc:Kp (Rq.kY x y=c)) :
 aW 80 #[.agg #[.string ⟨xa.toArray⟩,.string ⟨xb.toArray⟩],.agg #[.string ⟨ya.toArray⟩,.string ⟨yb.toArray⟩]] w (.int .i64 c):=by
 have h:=EI x y w hx hy;rw [lx.eq,ly.eq]at h;rw [←hc.out];exact h
theorem PZ (c e:Int) (w:World) :
 aW 78 #[.agg #[.int .i64 c,.int .i64 e]] w (.bool (ES c e)):=by
 have B:=Bx.mk w 29 #[.int .i64 c,.int .i64 e];have hb:=au w (.cells #[.int .i64 c,.int .i64 e] 29);have c0:=B.cell 0 rfl;have c1:=B.cell 1 rfl
 have hd:Kp (ES c e=(decide (e ≥ 1)&&decide (e<=1000)&&decide (c ≥ 0)&&decide (c<=e))):=⟨by
  rw[Bool.eq_iff_iff,nS];simp only[Bool.and_eq_true,decide_eq_true_eq]
  omega⟩
 go_enter Tryz.func78,Tryz.ntmps78
 by_cases h1:e ≥ 1
 · have t1:decide (e ≥ 1)=true:=decide_eq_true h1;by_cases h2:e<=1000
   · have t2:decide (e<=1000)=true:=decide_eq_true h2;by_cases h3:c ≥ 0
     · have t3:decide (c ≥ 0)=true:=decide_eq_true h3;rw [t1,t2,t3]at hd;go_wp2;go_ret;exact ⟨aH (by rw[hd.out];simp),hb⟩
     · have t3:decide (c ≥ 0)=false:=decide_eq_false h3;rw [t1,t2,t3]at hd;go_wp2;go_ret;exact ⟨aH (by rw[hd.out];simp),hb⟩
   · have t2:decide (e<=1000)=false:=decide_eq_false h2;rw [t1,t2]at hd;go_wp2;go_ret;exact ⟨aH (by rw[hd.out];simp),hb⟩
 · have t1:decide (e ≥ 1)=false:=decide_eq_false h1;rw [t1]at hd;go_wp2;go_ret;exact ⟨aH (by rw[hd.out];simp),hb⟩
theorem PN {g k m:Nat} {cells:Array Value} {W:World} {l:List (List UInt8)} {s:List UInt8} (hB:Bx W g 9 cells) (hf:cells.toList.take (m*1)=l.flatMap uK) (hk:l[k]? = some s) (hkm:k<m):W.cell? ⟨g,k,none⟩=some (.string ⟨s.toArray⟩):=by
 refine hB.cell k ?_
 have h2:(cells.toList.take (m*1))[k]? = some (.string ⟨s.toArray⟩):=by
  rw[hf];have:=flat_get (f:=uK) (size:=1) yZ l k 0 _ hk (by decide);rw [Nat.mul_one,Nat.add_zero]at this;rw [this];rfl
 rw[List.getElem?_take,if_pos (by omega)]at h2;simpa using h2
end Go.Proofs.YtelljijajgiabaaGreatDoor

import Derived.Test.YtohgjenaclfegaaGreatDoorQA04
import Derived.Deep.DeepCutAuto
import Derived.Deep.RegionWith
import Derived.Test.YtohgjenaclfegaaGreatDoorQI01
import Derived.Lib.Builder
import Derived.Lib.AppendStr
import Derived.Lib.UnsafeStr
import Derived.Lib.OthersKept
import Derived.Shelf.RegionOpenPlain
import Derived.Stop.RegionWithIn
import Derived.Sort.CutIn
set_option linter.unusedVariables false
set_option linter.unusedSimpArgs false
set_option maxRecDepth 100000
set_option maxHeartbeats 8000000
namespace Go.Proofs.YtohgjenaclfegaaGreatDoor
open Go.RowKit Go.Shelf
def uV (n:Int):List Value:=[.int .i64 n]
def lg.dl (x:lg):Sh.Dl:=⟨Sh.pk x.a 100,Sh.pk x.b 100,Sh.pk x.c 1000,Sh.pk x.e 100⟩
theorem XP (x:lg):(0<=x.dl.r/\x.dl.r<=99999999)/\(0<=x.dl.d/\x.dl.d<=99999999)/\(0<=x.dl.t/\x.dl.t<=10000000)/\(0<=x.dl.n/\x.dl.n<=1000000):=by
 have h1:=Sh.iW x.a (n:=100) (by decide);have h2:=Sh.iW x.b (n:=100) (by decide);have h3:=Sh.iW x.c (n:=1000) (by decide);have h4:=Sh.iW x.e (n:=100) (by decide)
 unfold lg.dl
 dsimp only;omega
theorem EP (AK:Option Addr) (cK set:Nat) (w:World) (hK:At 1 h_ w w.heap.size AK keysA) (hc:8<=cK) (hset:set<=1000000):Calls Tryz.prog 6 #[.slice AK 8 cK,.int .i64 set] w fun e w'=>(∃A c,e=.returned (.slice A 8 c)/\At 1 h_ w' w'.heap.size A (f_ keysA set)/\8<=c)/\Below w.heap.size w w':=by
 have h:=GI keysA AK cK set w hK (by rw[cu];exact hc) (by rw[cu];decide) hset;rw [cu]at h;refine h.mono ?_;rintro e w' ⟨⟨v,rfl,hr⟩,hb⟩;have hl:=lI set;rw [←hl]at hr;obtain ⟨A,c,rfl,h1,h2,-⟩:=aF.at (f:=h_) (fun _=>rfl) hr;rw [hl]at h2 ⊢;exact ⟨⟨A,c,rfl,h1,h2⟩,hb⟩
theorem RI (w:World):Calls Tryz.prog 7 #[] w fun e w'=>(∃A c,e=.returned (.slice A 8 c)/\At 1 h_ w' w'.heap.size A keysA/\8<=c)/\Below w.heap.size w w':=by
 refine (xE w).mono ?_;rintro e w' ⟨⟨v,rfl,hr⟩,hb⟩;rw [←cu]at hr;obtain ⟨A,c,rfl,h1,h2,-⟩:=aF.at (f:=h_) (fun _=>rfl) hr;rw [cu]at h2 ⊢;exact ⟨⟨A,c,rfl,h1,h2⟩,hb⟩
theorem rQ (x:lg):x.jk.length=8:=rfl
theorem Tm (x:lg):∀k∈x.jk,k<=1000000:=fun k hk=>by
 obtain⟨y,-,rfl⟩:=List.mem_map.1 hk;have:=Sh.iW y (n:=256) (by decide);omega
theorem Px (x:lg) (A:Option Addr) (n c:Nat) (w:World) (hx:BQ x):Calls Tryz.prog 13 #[.agg (zO x (.slice A n c))] w fun e w'=>(∃A' c',e=.returned (.slice A' 8 c')/\At 1 jo w' w'.heap.size A' x.jk/\8<=c')/\Below w.heap.size w w':=by
 refine (qP x _ ⟨_,_,_,rfl⟩ w hx).mono ?_;rintro e w' ⟨⟨v,rfl,hr⟩,hb⟩;rw [←rQ x]at hr;obtain ⟨A,c,rfl,h1,h2,-⟩:=aF.at (f:=jo) (fun _=>rfl) hr;rw [rQ]at h2 ⊢;exact ⟨⟨A,c,rfl,h1,h2⟩,hb⟩
def KnR (ks:List (List UInt8)):RS.Rl:=fun _ v w=>∃A c,v=.slice A 8 c/\At 1 h_ w w.heap.size A ks/\8<=c
theorem Jf {ks:List (List UInt8)}:RS.b_ (fun w w'=>Below w.heap.size w w') (KnR ks):=fun x v w w' ⟨A,c,h1,h2,h3⟩ hK=>⟨A,c,h1,h2.aU hK,h3⟩
def Yj (d:Sh.Dl) (hs:List Sh.Hn) (n B:Nat):RS.Rl:=fun _ v w=>∃A c,v=.tuple #[.agg #[.int .i64 d.r,.int .i64 d.d,.int .i64 d.t,.int .i64 d.n,.slice A n c],.int .i64 0]/\dN d hs B (.slice A n c) w
theorem Je {d:Sh.Dl} {hs:List Sh.Hn} {n B:Nat}:RS.b_ (fun w w'=>Below w.heap.size w w') (Yj d hs n B):=fun x v w w' ⟨A,c,h1,h2⟩ hK=>⟨A,c,h1,h2.call hK⟩
set_option maxHeartbeats 16000000 in
theorem Jv (x:lg) (A:Option Addr) (cap:Nat) (w:World) (hX:At 1 uV w w.heap.size A x.cs) (hn:x.cs.length<=cap) (hl:x.cs.length<=maxLen) (hx:BQ x) :
 Calls Tryz.prog 5 #[.agg (zO x (.slice A x.cs.length cap))] w fun e w'=>(∃hs A' c',e=.returned (.agg (dD x.dl (.slice A' hs.length c')))/\dN x.dl hs w.heap.size (.slice A' hs.length c') w'/\yY x.dl x.jk hs)/\Below w.heap.size w w':=by
 have hb:=bY w (.cells (zO x (.slice A x.cs.length cap)) 26);have BA:=Bx.mk w 26 (zO x (.slice A x.cs.length cap));have hbn:=bY (w.alloc (.cells (zO x (.slice A x.cs.length cap)) 26)) (.cells #[.int .i64 0,.int .i64 0,.int .i64 0,.int .i64 0,.slice none 0 0] 32);have BR:=Bx.mk (w.alloc (.cells (zO x (.slice A x.cs.length cap)) 26)) 32 #[.int .i64 0,.int .i64 0,.int .i64 0,.int .i64 0,.slice none 0 0];replace BA:=BA.call hbn;replace hb:=ah hb hbn;rw [World.size_alloc]at BR;have hKn:=fun w0=>Px x A x.cs.length cap w0 hx
 have fE:∀w0,bP 23 #[.agg #[.int .i64 x.a,.int .i64 x.b,.int .i64 x.c,.int .i64 x.e]] w0 (.agg #[.int .i64 x.dl.r,.int .i64 x.dl.d,.int .i64 x.dl.t,.int .i64 x.dl.n]):=fun w0=>D6 x.a x.b x.c x.e w0 hx.ka hx.kb hx.kc hx.ke
 have G_:=Kp.mk (XP x);have ZW:=rQ x;have TK:=Kp.mk (Tm x);have hcs:=hx.kcs;have hpl:=fun w0=>eu x.lv 4 (by decide) hx.kl w0
 have KU:=Kp.mk (Sh.iW x.lv (n:=4) (by decide));obtain ⟨lv,hlv⟩:∃lv,Kp (Sh.pk x.lv 4=lv):=⟨_,⟨rfl⟩⟩
 rw[hlv.out]at hpl KU;generalize x.dl=d at *;generalize x.jk=kn at *;obtain ⟨xa,xb,xc,xe,xl,k0,k1,k2,k3,k4,k5,k6,k7,cs⟩:=x;dsimp only at hX hn hl hcs hpl hlv fE hb BA BR hKn ⊢
 unfold zO at hb BA BR hKn ⊢
 dsimp only at hb BA BR hKn ⊢;have hlK:=Kp.mk hl;obtain ⟨w2,hw2⟩:∃w2,Kp ((w.alloc (.cells #[.int .i64 xa,.int .i64 xb,.int .i64 xc,.int .i64 xe,.int .i64 xl,.slice A cs.length cap,.int .i64 k0,.int .i64 k1,.int .i64 k2,.int .i64 k3,.int .i64 k4,.int .i64 k5,.int .i64 k6,.int .i64 k7] 26)).alloc (.cells #[.int .i64 0,.int .i64 0,.int .i64 0,.int .i64 0,.slice none 0 0] 32)=w2):=⟨_,⟨rfl⟩⟩
 rw[hw2.out]at hb BA BR;clear hx hbn hlv;have XD:=RI w2
 go_enter Tryz.func5,Tryz.ntmps5
 go_upto_region 1 with fail;rw [hw2.out];clear hw2;go_wp2_with fail;refine XD.mono ?_;rintro _ w3 ⟨⟨AK,cK,rfl,IU,hcK⟩,hb1⟩;replace hb:=ah hb hb1;replace BA:=BA.call hb1;replace BR:=BR.call hb1;clear hb1 XD;have b0:=BA.cell 0 (v:=.int .i64 xa) rfl;have b1:=BA.cell 1 (v:=.int .i64 xb) rfl;have b2:=BA.cell 2 (v:=.int .i64 xc) rfl;have b3:=BA.cell 3 (v:=.int .i64 xe) rfl;have b4:=BA.cell 4 (v:=.int .i64 xl) rfl;have b5:=BA.cell 5 (v:=.slice A cs.length cap) rfl;have b6:=BA.cell 6 (v:=.int .i64 k0) rfl;have b7:=BA.cell 7 (v:=.int .i64 k1) rfl;have b8:=BA.cell 8 (v:=.int .i64 k2) rfl;have b9:=BA.cell 9 (v:=.int .i64 k3) rfl;have b10:=BA.cell 10 (v:=.int .i64 k4) rfl;have b11:=BA.cell 11 (v:=.int .i64 k5) rfl;have b12:=BA.cell 12 (v:=.int .i64 k6) rfl;have b13:=BA.cell 13 (v:=.int .i64 k7) rfl;have Xw:=hKn w3;go_wp2_with fail;refine Xw.mono ?_;rintro _ w4 ⟨⟨AN,cN,rfl,P6,YN⟩,hb1⟩;replace hb:=ah hb hb1;replace BA:=BA.call hb1;replace BR:=BR.call hb1;replace IU:=IU.aU hb1;clear hb1 Xw hKn b0 b1 b2 b3 b4 b5 b6 b7 b8 b9 b10 b11 b12 b13;have b5:=BA.cell 5 (v:=.slice A cs.length cap) rfl
 go_upto_if 15 with fail
 go_cut [5] from 15 to 20 (fun s wx=>∃c:Int,0<=c/\c<=7/\s=.int .i64 c/\Below w4.heap.size w4 wx)
 case first =>
  by_cases h0:0<cs.length
  · obtain⟨p,off,rfl,hp,hcell⟩:=hX h0;obtain ⟨y,hy⟩:∃y,cs[0]? = some y:=⟨_,List.getElem?_eq_getElem h0⟩
    have c0:w4.cell? ⟨p,off,none⟩=some (.int .i64 y):=by
     have h9:=(hb.cell (p:=⟨p,off,none⟩) hp).trans (hcell 0 y hy 0 _ rfl);exact h9
    have hC:=eu y 8 (by decide) (hcs y (List.mem_of_getElem? hy)) w4;have hpi:=Sh.iW y (n:=8) (by decide);go_wp2_with fail;refine hC.mono ?_;rintro _ w5 ⟨rfl,hb5⟩;go_wp2_with fail
    go_meet
    exact⟨Sh.pk y 8,hpi.1,by omega,rfl,hb5⟩
  · go_wp2_with fail
    go_meet
    exact⟨0,by omega,by omega,rfl,Below.refl _ _⟩
 case rest =>
  obtain⟨cI,hc0,II,rfl,hb5⟩:=hcut;obtain ⟨cn,rfl⟩:=Int.eq_ofNat_of_zero_le hc0;replace hb:=ah hb hb5;replace BA:=BA.call hb5;replace BR:=BR.call hb5;replace IU:=IU.aU hb5;replace P6:=P6.aU hb5;clear hb5 b5;obtain ⟨pK,oK,rfl,hpK,Xh⟩:=IU (by rw[cu];decide);obtain ⟨pN,oN,rfl,hpN,Xg⟩:=P6 (by rw[ZW];decide)
  have fA:∀W,Below wc.heap.size wc W->∀k,k<8->W.cell? ⟨pK,oK+k,none⟩=some (.string ⟨(key1 k).toArray⟩):=fun W hW k hk=>by
   have h9:=(hW.cell (p:=⟨pK,oK+k*1+0,none⟩) hpK).trans (Xh k _ (lJ hk) 0 _ rfl)
   rwa [Nat.mul_one,Nat.add_zero]at h9
  have EK:∀W,Below wc.heap.size wc W->∀k,k<8->W.cell? ⟨pN,oN+k,none⟩=some (.int .i64 (kn.getD k 0:Nat)):=fun W hW k hk=>by
   have hg:kn[k]? = some (kn.getD k 0):=by rw[List.getD_eq_getElem?_getD,List.getElem?_eq_getElem (by omega)];rfl
   have h9:=(hW.cell (p:=⟨pN,oN+k*1+0,none⟩) hpN).trans (Xg k _ hg 0 _ rfl)
   rwa [Nat.mul_one,Nat.add_zero]at h9
  clear Xh Xg;obtain ⟨Xc,Lh⟩:=Gz (kn:=kn) (c:=(cn:Int)) (l:=lv) G_.out.1 G_.out.2.1 G_.out.2.2.1 G_.out.2.2.2 ⟨hc0,II⟩ ⟨KU.out.1,by have:=KU.out.2;omega⟩;rw [Int.toNat_natCast]at Lh;have jq:=fun w0=>Gl (key1 cn) d cn lv w0 (jM _) Xc
  have hn1:(nX (key1 cn) d [] cn lv).length=1:=rfl;have DL:(nX (key1 cn) d [] cn lv)[0]? = some ⟨cn,lv,Sh.sg (key1 cn) (Sh.cont d ((([]:List Sh.Hn).length:Nat):Int) cn lv (bf [] ([]:List Sh.Hn).length))⟩:=rfl;have uj:=Kp.mk Lh;have TT:cn<8:=by omega
  obtain⟨ky,hky⟩:∃ky,Kp (key1 cn=ky):=⟨_,⟨rfl⟩⟩
  generalize nX (key1 cn) d [] cn lv=hs1 at *;rw [hky.out]at jq;have hS:RS.b_ (KH wc.heap.size 70 (1*3) []) (y9 70 3 wc.heap.size 1 (hs1.flatMap dw)):=sO (by rw[lV (f:=dw) (size:=3) (fun _=>rfl),hn1])
  unfold dD at jq
  clear Lh Xc;go_upto_region 6 with fail;refine RS.au (Ef (wc.heap.size) (1*3) [] d 1 (hs1.flatMap dw) hS) [(16,15)] [RS.ak (.slice (some ⟨pK,oK,none⟩) 8 cK),RS.ak (.int .i64 (cn:Nat)),RS.ak (.pointer (some ⟨pK,oK+cn,none⟩)),RS.ak (.string ⟨ky.toArray⟩),RS.ak (.pointer (some ⟨w.heap.size,0,none⟩)),RS.ak (.agg #[.int .i64 xa,.int .i64 xb,.int .i64 xc,.int .i64 xe]),RS.ak (.agg #[.int .i64 d.r,.int .i64 d.d,.int .i64 d.t,.int .i64 d.n]),RS.ak (.int .i64 (cn:Nat)),RS.ak (.pointer (some ⟨w.heap.size,4,none⟩)),RS.ak (.int .i64 xl),RS.ak (.int .i64 lv),UM (wc.heap.size) d 1 (hs1.flatMap dw),UM (wc.heap.size) d 1 (hs1.flatMap dw),Qy (wc.heap.size) d 1 (hs1.flatMap dw),RS.ak (.int .i64 0),Yi (wc.heap.size),Yd (wc.heap.size) d 1 (hs1.flatMap dw),RS.ak (.int .i64 0)] 18 74 (by kernel_rfl) rfl rfl (by kernel_rfl) (by kernel_rfl) ?_ ?_ ?_
  · simp only[RS.aY]
    and_intros <;> first|exact RS.aI _|exact zu hS|exact sQ hS|exact zy|exact zx hS|trivial
  · simp only[RS.aT,List.take,List.length];refine ⟨?_,?_,?_,?_,?_,?_,?_,?_,?_,?_,?_,?_,?_,?_,?_,?_,?_,?_,trivial⟩;all_goals (intro vs w2 hb2 hd;simp only[RS.aN,Act.put,List.nil_append,List.cons_append,List.setIfInBounds_toArray,List.set_cons_succ,List.set_cons_zero,Nat.reduceAdd];clear BR IU P6 hX hb EK)
    · clear hd BA fA jq fE hpl;go_wp2;first|exact⟨KW.rf _ _ _ _ _ _ _,rfl⟩|exact⟨KW.rf _ _ _ _ _ _ _,by simp[RS.ak]⟩|exact KW.rf _ _ _ _ _ _ _|rfl|(simp [RS.ak])
    · clear hd BA fA jq fE hpl;go_wp2;first|exact⟨KW.rf _ _ _ _ _ _ _,rfl⟩|exact⟨KW.rf _ _ _ _ _ _ _,by simp[RS.ak]⟩|exact KW.rf _ _ _ _ _ _ _|rfl|(simp [RS.ak])
    · have e0:vs 0=_:=hd 0 rfl;have e1:vs 1=_:=hd 1 rfl;clear hd BA fA jq fE hpl;rw [e0,e1];go_wp2;first|exact⟨KW.rf _ _ _ _ _ _ _,rfl⟩|exact⟨KW.rf _ _ _ _ _ _ _,by simp[RS.ak]⟩|exact KW.rf _ _ _ _ _ _ _|rfl|(simp [RS.ak])
    · have e2:vs 2=_:=hd 2 rfl;have x0:=fA w2 hb2.bl cn TT;rw[hky.out]at x0;clear hd BA fA jq fE hpl;rw [e2];go_wp2;first|exact⟨KW.rf _ _ _ _ _ _ _,rfl⟩|exact⟨KW.rf _ _ _ _ _ _ _,by simp[RS.ak]⟩|exact KW.rf _ _ _ _ _ _ _|rfl|(simp [RS.ak])
    · clear hd BA fA jq fE hpl;go_wp2;first|exact⟨KW.rf _ _ _ _ _ _ _,rfl⟩|exact⟨KW.rf _ _ _ _ _ _ _,by simp[RS.ak]⟩|exact KW.rf _ _ _ _ _ _ _|rfl|(simp [RS.ak])
    · have e4:vs 4=_:=hd 4 rfl;have x0:=(BA.below hb2.bl BA.lt).cell 0 rfl;have x1:=(BA.below hb2.bl BA.lt).cell 1 rfl;have x2:=(BA.below hb2.bl BA.lt).cell 2 rfl;have x3:=(BA.below hb2.bl BA.lt).cell 3 rfl;clear hd BA fA jq fE hpl;rw [e4];go_wp2;first|exact⟨KW.rf _ _ _ _ _ _ _,rfl⟩|exact⟨KW.rf _ _ _ _ _ _ _,by simp[RS.ak]⟩|exact KW.rf _ _ _ _ _ _ _|rfl|(simp [RS.ak])
    · have e5:vs 5=_:=hd 5 rfl;have w_:=fE w2;clear hd BA fA jq fE hpl;rw [e5];go_wp2_with fail;refine w_.mono ?_;rintro _ w9 ⟨rfl,aX⟩;clear w_;have hK9:=hb2.call (Nat.le_refl _) aX;go_wp2;first|exact⟨hK9,rfl⟩|exact hK9|rfl
    · clear hd BA fA jq fE hpl;go_wp2;first|exact⟨KW.rf _ _ _ _ _ _ _,rfl⟩|exact⟨KW.rf _ _ _ _ _ _ _,by simp[RS.ak]⟩|exact KW.rf _ _ _ _ _ _ _|rfl|(simp [RS.ak])
    · clear hd BA fA jq fE hpl;go_wp2;first|exact⟨KW.rf _ _ _ _ _ _ _,rfl⟩|exact⟨KW.rf _ _ _ _ _ _ _,by simp[RS.ak]⟩|exact KW.rf _ _ _ _ _ _ _|rfl|(simp [RS.ak])
    · have e8:vs 8=_:=hd 8 rfl;have x4:=(BA.below hb2.bl BA.lt).cell 4 rfl;clear hd BA fA jq fE hpl;rw [e8];go_wp2;first|exact⟨KW.rf _ _ _ _ _ _ _,rfl⟩|exact⟨KW.rf _ _ _ _ _ _ _,by simp[RS.ak]⟩|exact KW.rf _ _ _ _ _ _ _|rfl|(simp [RS.ak])
    · have e9:vs 9=_:=hd 9 rfl;have w_:=hpl w2;clear hd BA fA jq fE hpl;rw [e9];go_wp2_with fail;refine w_.mono ?_;rintro _ w9 ⟨rfl,aX⟩;clear w_;have hK9:=hb2.call (Nat.le_refl _) aX;go_wp2;first|exact⟨hK9,rfl⟩|exact hK9|rfl
    · have e3:vs 3=_:=hd 3 rfl;have e6:vs 6=_:=hd 6 rfl;have e7:vs 7=_:=hd 7 rfl;have e10:vs 10=_:=hd 10 rfl;have w_:=jq w2;have N7:wc.heap.size<=w2.heap.size:=hb2.size;clear hd BA fA jq fE hpl;rw [e3,e6,e7,e10];go_wp2_with fail;refine w_.mono ?_;rintro _ w9 ⟨⟨A9,c9,rfl,LY⟩,aX⟩;clear w_;have hK9:=hb2.call (Nat.le_refl _) aX;have Ci:UM (wc.heap.size) d 1 (hs1.flatMap dw) undef (.tuple #[.agg (dD d (.slice A9 1 c9)),.int .i64 0]) w9:=⟨_,rfl,by have h8:=LY.mono N7;unfold dN at h8;rwa [hn1]at h8⟩
      unfold dD at Ci
      clear LY aX;go_wp2;first|exact⟨hK9,Ci⟩|exact Ci
    · obtain⟨v9,e6,vN⟩:=hd 11 rfl;change vs 11=_ at e6;have E8:UM (wc.heap.size) d 1 (hs1.flatMap dw) undef (.tuple #[.agg (dD d v9),.int .i64 0]) w2:=⟨_,rfl,vN⟩
      clear hd vN BA fA jq fE hpl;rw [e6];go_wp2;first|exact⟨KW.rf _ _ _ _ _ _ _,E8⟩|exact E8
    · obtain⟨v9,e6,vN⟩:=hd 12 rfl;change vs 12=_ at e6;obtain ⟨A9,c9,e8⟩:=aF.U2 vN;subst e8;have E8:Qy (wc.heap.size) d 1 (hs1.flatMap dw) undef (.agg (dD d (.slice A9 1 c9))) w2:=⟨_,rfl,vN⟩
      unfold dD at E8 e6
      clear hd vN BA fA jq fE hpl;rw [e6];go_wp2;first|exact⟨KW.rf _ _ _ _ _ _ _,E8⟩|exact E8
    · obtain⟨v9,e6,vN⟩:=hd 12 rfl;change vs 12=_ at e6
      unfold dD at e6
      clear hd vN BA fA jq fE hpl;rw [e6];go_wp2;first|exact⟨KW.rf _ _ _ _ _ _ _,rfl⟩|exact KW.rf _ _ _ _ _ _ _|rfl
    · have hsz:=hb2.size;have hK9:=hb2.call (Nat.le_refl _) (bY w2 (.cells #[.int .i64 0,.int .i64 0,.int .i64 0,.int .i64 0,.slice none 0 0] 32));have pI:Yi (wc.heap.size) undef (.pointer (some ⟨w2.heap.size,0,none⟩)) (w2.alloc (.cells #[.int .i64 0,.int .i64 0,.int .i64 0,.int .i64 0,.slice none 0 0] 32)):=⟨w2.heap.size,_,rfl,hsz,rfl,Bx.mk w2 32 #[.int .i64 0,.int .i64 0,.int .i64 0,.int .i64 0,.slice none 0 0]⟩
      clear hd BA fA jq fE hpl;go_wp2;first|exact⟨hK9,pI⟩|exact pI
    · obtain⟨g8,c8,e8,U7,hc8,rW⟩:=hd 15 rfl;change vs 15=_ at e8;obtain ⟨v9,e13,hrow1⟩:Qy (wc.heap.size) d 1 (hs1.flatMap dw) undef (vs 13) w2:=hd 13 rfl;have hK9:=KW.put (B:=wc.heap.size) (pos:=1*3) (news:=[]) (d:=d) hS U7 rW hc8 v9 hrow1 (vs 15) e8 undef
      obtain⟨x0,x1,x2,x3,x4,rfl⟩:∃x0 x1 x2 x3 x4,c8=#[x0,x1,x2,x3,x4]:=by
       rcases c8 with ⟨l8⟩
       match l8,hc8 with
       | [x0,x1,x2,x3,x4],_=>exact⟨x0,x1,x2,x3,x4,rfl⟩
      obtain⟨b0,b1,b2,b3,b4⟩:=rW.p5;have f0:=rW.frozen 0;have f1:=rW.frozen 1;have f2:=rW.frozen 2;have f3:=rW.frozen 3;have f4:=rW.frozen 4;obtain ⟨A9,c9,e7⟩:=aF.U2 hrow1;subst e7
      unfold dD at e13
      unfold jl at hK9
      clear hd hb2 hrow1 rW BA fA jq fE hpl;rw [e8,e13];obtain ⟨hK8,Rf⟩:=hK9;clear e8 e13;go_wp2;first|exact Rf|exact⟨hK8,Rf⟩
    · have e14:vs 14=_:=hd 14 rfl;clear hd BA fA jq fE hpl;rw [e14];go_wp2;first|exact⟨KW.rf _ _ _ _ _ _ _,rfl⟩|exact⟨KW.rf _ _ _ _ _ _ _,by simp[RS.ak]⟩|exact KW.rf _ _ _ _ _ _ _|rfl|(simp [RS.ak])
  · intro vs wa hba hR2;simp only[RS.bV,RS.ak]at hR2;obtain ⟨-,-,-,-,-,-,-,-,-,-,-,-,-,-,-,⟨gP,cP,e15,-,-,-⟩,⟨gA,cA,e16,hgA,BT,hGW⟩,e17,-⟩:=hR2;simp only[List.drop,List.take,List.map,RS.aN,Act.put,List.setIfInBounds_toArray,List.set_cons_succ,List.set_cons_zero,Nat.reduceAdd];change vs 15=_ at e15;replace e16:vs 15=.pointer (some ⟨gA,0,none⟩):=e16;change vs 17=_ at e17;rw [e16,e17];clear e15 e16 e17 cP gP;obtain ⟨vT,rfl,hrT⟩:=hGW
    rcases (show aF 70 3 wc.heap.size 1 (hs1.flatMap dw) vT wa from hrT) with ⟨-,h0,-⟩|⟨cap1,⟨g1,Ns,rfl,hg1,kT,Ve,hs9,YL⟩,vJ⟩
    · cases h0
    have hM1:dN d hs1 wc.heap.size (.slice (some ⟨g1,0,none⟩) 1 cap1) wa:=by unfold dN;rw[hn1];exact .inr ⟨cap1,⟨g1,Ns,rfl,hg1,kT,Ve,hs9,YL⟩,vJ⟩
    have hbase:w.heap.size+1<wc.heap.size:=BR.lt;replace hba:=hba.bl;have hBR:∀W,Below wc.heap.size wc W->Bx W (w.heap.size+1) 32 #[.int .i64 0,.int .i64 0,.int .i64 0,.int .i64 0,.slice none 0 0]:=fun W hW=>BR.below hW BR.lt
    have hBA:∀W,Below wc.heap.size wc W->Bx W w.heap.size 26 #[.int .i64 xa,.int .i64 xb,.int .i64 xc,.int .i64 xe,.int .i64 xl,.slice A cs.length cap,.int .i64 k0,.int .i64 k1,.int .i64 k2,.int .i64 k3,.int .i64 k4,.int .i64 k5,.int .i64 k6,.int .i64 k7]:=fun W hW=>BA.below hW BA.lt
    clear BR BA
    unfold dD at BT
    clear hrT hg1 kT Ve hs9 YL vJ Ns jq fE hpl hS;have Ue:∀W,Below wc.heap.size wc W->At 1 uV W w.heap.size A cs:=fun W hW=>(hX.below hb).below (hW.mono hb.size)
    clear hX;have hK0:yY d kn hs1/\hs1[0]? = some ⟨cn,lv,Sh.sg (key1 cn) (Sh.cont d ((([]:List Sh.Hn).length:Nat):Int) cn lv (bf [] ([]:List Sh.Hn).length))⟩:=⟨uj.out,DL⟩
    have hgoal:∀i:Nat,i<=6->True:=fun _ _=>trivial
    generalize hl9:(⟨cn,lv,Sh.sg (key1 cn) (Sh.cont d ((([]:List Sh.Hn).length:Nat):Int) cn lv (bf [] ([]:List Sh.Hn).length))⟩:Sh.Hn)=l9 at hK0 DL;have hlc:l9.c=(cn:Int):=by rw[←hl9]
    have hK9:=Kp.mk hK0;clear hl9 uj DL hK0 hgoal;go_wp2_with fail
    go_loopw [5,8] (fun s5 s8 wr=>∃(i cN':Nat) (hs:List Sh.Hn) (g:Sh.Hn) (A':Option Addr) (c':Nat),s8=.int .i64 i/\s5=.int .i64 cN'/\Kp (hs.length=i/\hs[i-1]? = some g/\g.c=(cN':Int)/\yY d kn hs)/\1<=i/\i<=6/\cN'<8/\dN d hs wc.heap.size (.slice A' i c') wr/\Bx wr gA 32 #[.int .i64 d.r,.int .i64 d.d,.int .i64 d.t,.int .i64 d.n,.slice A' i c']/\Below wc.heap.size wc wr) (fun s5 s8 _=>6-(intOf s8).toNat)
    case atStart=>exact⟨1,cn,hs1,l9,_,_,rfl,rfl,⟨hn1,hK9.out.2,hlc,hK9.out.1⟩,by omega,by omega,TT,hM1,BT,hba⟩
    case round =>
     clear hM1 BT hba hK9 hlc hn1 TT;obtain ⟨i,cc,hs,g,A',c',rfl,rfl,G8,hi1,hi6,hcc8,hM,BT,hbr⟩:=hrel;have b5:=(hBA wr hbr).cell 5 (v:=.slice A cs.length cap) rfl;have hex:(i<cs.length/\i<6)∨¬(i<cs.length/\i<6):=by omega
     rcases hex with ⟨hlt,PL⟩|hno
     · obtain⟨y,hy⟩:∃y,cs[i]? = some y:=⟨_,List.getElem?_eq_getElem hlt⟩
       obtain⟨p,off,rfl,hp,hcell⟩:=Ue wr hbr (by omega)
       have c0:wr.cell? ⟨p,off+i,none⟩=some (.int .i64 y):=by
        have h9:=hcell i y hy 0 _ rfl
        rwa [Nat.mul_one,Nat.add_zero]at h9
       have hC:=eu y 7 (by decide) (hcs y (List.mem_of_getElem? hy)) wr;have hpi:=Sh.iW y (n:=7) (by decide);obtain ⟨q,hq⟩:∃q:Nat,Sh.pk y 7=(q:Int):=Int.eq_ofNat_of_zero_le hpi.1
       rw[hq]at hC hpi;clear hcell hp hcs hy hq;go_wp2_with fail;refine hC.mono ?_;rintro _ w6 ⟨rfl,hb6⟩;replace hM:=hM.call hb6;replace BT:=BT.call hb6;replace hbr:=ah hbr hb6;clear hC hb6 c0 b5;go_upto_region 11 with fail;obtain ⟨c2,hc2⟩:∃c2:Nat,((cc:Int)+1+(q:Int)) % 8=(c2:Int):=Int.eq_ofNat_of_zero_le (Int.emod_nonneg _ (by decide))
       have TU:c2<8:=by omega
       have Xi:(c2:Int)≠g.c:=by have:=G8.out.2.2.1;omega
       rw[hc2];obtain ⟨hil,hgi,hgc,TB⟩:=G8.out;obtain ⟨TP,Ld⟩:=Ko (c:=(c2:Int)) TB hgi (by omega) (by omega) ⟨by omega,by omega⟩ Xi;rw [Int.toNat_natCast]at TP Ld;have Lm:=TK.out;have kc:=fA w6 hbr c2 TU;have nc:=EK w6 hbr c2 TU
       have WH:kn.getD c2 0<=1000000:=by
        rw[List.getD_eq_getElem?_getD,List.getElem?_eq_getElem (by omega)];exact Lm _ (List.getElem_mem _)
       generalize kn.getD c2 0=lH at *;obtain ⟨A9,c9,e9,Me,ZQ,-⟩:=aF.at (p:=hs) (f:=dw) (fun _=>rfl) (show aF 70 3 wc.heap.size hs.length (hs.flatMap dw) (.slice A' i c') w6 from hM);rw [hil]at e9 ZQ;simp only[Value.slice.injEq,true_and]at e9;obtain ⟨rfl,rfl⟩:=e9;have DK:(nX (key1 c2) d hs c2 (y7 (f_ keysA lH) d hs (i-1) g))[i]? = some ⟨c2,y7 (f_ keysA lH) d hs (i-1) g,Sh.sg (key1 c2) (Sh.cont d (hs.length:Nat) c2 (y7 (f_ keysA lH) d hs (i-1) g) (bf hs hs.length))⟩:=by unfold nX;rw[List.getElem?_append_right (by omega),hil,Nat.sub_self];rfl
       have hlen2:(nX (key1 c2) d hs c2 (y7 (f_ keysA lH) d hs (i-1) g)).length=i+1:=by rw[oW,hil]
       have nC:∀W,Below wc.heap.size wc W->Calls Tryz.prog 6 #[.slice (some ⟨pK,oK,none⟩) 8 cK,.int .i64 lH] W fun e w'=>(∃A c,e=.returned (.slice A 8 c)/\At 1 h_ w' w'.heap.size A (f_ keysA lH)/\8<=c)/\Below W.heap.size W w':=fun W hW=>EP _ cK lH W (IU.aU hW) hcK WH
       have Cj:∀(W:World) (AQ:Option Addr) (cQ:Nat),Below w6.heap.size w6 W->At 1 h_ W W.heap.size AQ (f_ keysA lH)->8<=cQ->Calls Tryz.prog 24 #[.string ⟨(key1 c2).toArray⟩,.slice AQ 8 cQ,.agg #[.int .i64 d.r,.int .i64 d.d,.int .i64 d.t,.int .i64 d.n,.slice A' i c'],.int .i64 c2] W fun e w'=>(∃A2 RG,e=.returned (.tuple #[.agg #[.int .i64 d.r,.int .i64 d.d,.int .i64 d.t,.int .i64 d.n,.slice A2 (i+1) RG],.int .i64 0])/\dN d (nX (key1 c2) d hs c2 (y7 (f_ keysA lH) d hs (i-1) g)) W.heap.size (.slice A2 (i+1) RG) w')/\Below W.heap.size W w':=fun W AQ cQ hW hQ hQ8=>by
        have h9:=Jq (key1 c2) (f_ keysA lH) AQ cQ d hs (i-1) g c2 A' c' W (jM _) hQ (lI _) hQ8 (rP _) (Me.aU hW) (by omega) hgi (by omega) TB.fm TP;rw [hil]at h9;exact h9
       have uj:=Kp.mk (⟨hlen2,DK,Ld⟩:_/\_/\_);generalize nX (key1 c2) d hs c2 (y7 (f_ keysA lH) d hs (i-1) g)=hs2 at *;generalize hl2:(⟨c2,y7 (f_ keysA lH) d hs (i-1) g,Sh.sg (key1 c2) (Sh.cont d (hs.length:Nat) c2 (y7 (f_ keysA lH) d hs (i-1) g) (bf hs hs.length))⟩:Sh.Hn)=h2 at uj DK;have ZU:Kp (h2.c=(c2:Int)):=⟨by rw[←hl2]⟩
       clear hl2 DK hlen2 Ld TP TB hgc hgi hil Lm TK G8 hc2 Xi Me hM;generalize key1 c2=ky2 at *;have t0:=BT.cell 0 (v:=.int .i64 d.r) rfl;have t1:=BT.cell 1 (v:=.int .i64 d.d) rfl;have t2:=BT.cell 2 (v:=.int .i64 d.t) rfl;have t3:=BT.cell 3 (v:=.int .i64 d.n) rfl;have t4:=BT.cell 4 (v:=.slice A' i c') rfl;have fB:∀W,Below w6.heap.size w6 W->W.cell? ⟨pK,oK+c2,none⟩=some (.string ⟨ky2.toArray⟩):=fun W hW=>(hW.cell (p:=⟨pK,oK+c2,none⟩) (Nat.lt_of_lt_of_le hpK hbr.size)).trans kc
       have S_:∀W,Below w6.heap.size w6 W->W.cell? ⟨pN,oN+c2,none⟩=some (.int .i64 (lH:Nat)):=fun W hW=>(hW.cell (p:=⟨pN,oN+c2,none⟩) (Nat.lt_of_lt_of_le hpN hbr.size)).trans nc
       clear Ue hBA hBR fA EK IU P6 G_;clear kc nc t0 t1 t2 t3 t4;refine RS.u_ Nl [] [RS.ak (.slice (some ⟨pK,oK,none⟩) 8 cK),RS.ak (.int .i64 (c2:Nat)),RS.ak (.pointer (some ⟨pK,oK+c2,none⟩)),RS.ak (.string ⟨ky2.toArray⟩),RS.ak (.slice (some ⟨pK,oK,none⟩) 8 cK),RS.ak (.slice (some ⟨pN,oN,none⟩) 8 cN),RS.ak (.int .i64 (c2:Nat)),RS.ak (.pointer (some ⟨pN,oN+c2,none⟩)),RS.ak (.int .i64 (lH:Nat)),KnR (f_ keysA lH),RS.ak (.agg #[.int .i64 d.r,.int .i64 d.d,.int .i64 d.t,.int .i64 d.n,.slice A' i c']),RS.ak (.int .i64 (c2:Nat)),Yj d hs2 (i+1) w6.heap.size,Yj d hs2 (i+1) w6.heap.size] 14 74 (by kernel_rfl) rfl rfl (by kernel_rfl) (by kernel_rfl) ?_ ?_ #[true,true,true,true,true,true,true,true,true,true,true,true,true,true,false,false,false] (by kernel_rfl) 3 rfl ?_
       · simp only[RS.aY]
         and_intros <;> first|exact RS.aI _|exact Jf|exact Je|trivial
       · simp only[RS.aT,List.take,List.length];refine ⟨?_,?_,?_,?_,?_,?_,?_,?_,?_,?_,?_,?_,?_,?_,trivial⟩;all_goals (intro vs w2 hb2 hd;simp only[RS.aN,Act.put,List.nil_append,List.cons_append,List.setIfInBounds_toArray,List.set_cons_succ,List.set_cons_zero,Nat.reduceAdd])
         · clear hd BT hbr fB nC Cj;go_wp2;first|exact⟨Below.refl _ _,rfl⟩|exact⟨Below.refl _ _,by simp[RS.ak]⟩|exact Below.refl _ _|rfl|(simp [RS.ak])
         · clear hd BT hbr fB nC Cj;go_wp2;first|exact⟨Below.refl _ _,rfl⟩|exact⟨Below.refl _ _,by simp[RS.ak]⟩|exact Below.refl _ _|rfl|(simp [RS.ak])
         · have e0:vs 0=_:=hd 0 rfl;have e1:vs 1=_:=hd 1 rfl;clear hd BT hbr fB nC Cj;rw [e0,e1];go_wp2;first|exact⟨Below.refl _ _,rfl⟩|exact⟨Below.refl _ _,by simp[RS.ak]⟩|exact Below.refl _ _|rfl|(simp [RS.ak])
         · have e2:vs 2=_:=hd 2 rfl;have x0:=fB w2 hb2;clear hd BT hbr fB nC Cj;rw [e2];go_wp2;first|exact⟨Below.refl _ _,rfl⟩|exact⟨Below.refl _ _,by simp[RS.ak]⟩|exact Below.refl _ _|rfl|(simp [RS.ak])
         · clear hd BT hbr fB nC Cj;go_wp2;first|exact⟨Below.refl _ _,rfl⟩|exact⟨Below.refl _ _,by simp[RS.ak]⟩|exact Below.refl _ _|rfl|(simp [RS.ak])
         · clear hd BT hbr fB nC Cj;go_wp2;first|exact⟨Below.refl _ _,rfl⟩|exact⟨Below.refl _ _,by simp[RS.ak]⟩|exact Below.refl _ _|rfl|(simp [RS.ak])
         · clear hd BT hbr fB nC Cj;go_wp2;first|exact⟨Below.refl _ _,rfl⟩|exact⟨Below.refl _ _,by simp[RS.ak]⟩|exact Below.refl _ _|rfl|(simp [RS.ak])
         · have e5:vs 5=_:=hd 5 rfl;have e6:vs 6=_:=hd 6 rfl;clear hd BT hbr fB nC Cj;rw [e5,e6];go_wp2;first|exact⟨Below.refl _ _,rfl⟩|exact⟨Below.refl _ _,by simp[RS.ak]⟩|exact Below.refl _ _|rfl|(simp [RS.ak])
         · have e7:vs 7=_:=hd 7 rfl;have x0:=S_ w2 hb2;clear hd BT hbr fB nC Cj;rw [e7];go_wp2;first|exact⟨Below.refl _ _,rfl⟩|exact⟨Below.refl _ _,by simp[RS.ak]⟩|exact Below.refl _ _|rfl|(simp [RS.ak])
         · have e4:vs 4=_:=hd 4 rfl;have e8:vs 8=_:=hd 8 rfl;have w_:=nC w2 (ah hbr hb2);clear hd BT hbr fB nC Cj;rw [e4,e8];go_wp2_with fail;refine w_.mono ?_;rintro _ w9 ⟨⟨A9,c9,rfl,Me,h89⟩,aX⟩;clear w_;have Ci:KnR (f_ keysA lH) undef (.slice A9 8 c9) w9:=⟨A9,c9,rfl,Me,h89⟩
           clear Me h89;go_wp2;first|exact⟨aX,Ci⟩|exact Ci
         · have x0:=(BT.call hb2).cell 0 rfl;have x1:=(BT.call hb2).cell 1 rfl;have x2:=(BT.call hb2).cell 2 rfl;have x3:=(BT.call hb2).cell 3 rfl;have x4:=(BT.call hb2).cell 4 rfl;clear hd BT hbr fB nC Cj;go_wp2;first|exact⟨Below.refl _ _,rfl⟩|exact⟨Below.refl _ _,by simp[RS.ak]⟩|exact Below.refl _ _|rfl|(simp [RS.ak])
         · clear hd BT hbr fB nC Cj;go_wp2;first|exact⟨Below.refl _ _,rfl⟩|exact⟨Below.refl _ _,by simp[RS.ak]⟩|exact Below.refl _ _|rfl|(simp [RS.ak])
         · have e3:vs 3=_:=hd 3 rfl;have e10:vs 10=_:=hd 10 rfl;have e11:vs 11=_:=hd 11 rfl;obtain ⟨AQ,cQ,e9,hQ,hQ8⟩:=hd 9 rfl;change vs 9=_ at e9;have w_:=Cj w2 AQ cQ hb2 hQ hQ8;have N7:=hb2.size;clear hd hQ BT hbr fB nC Cj;rw [e3,e9,e10,e11];go_wp2_with fail;refine w_.mono ?_;rintro _ w9 ⟨⟨A9,c9,rfl,LY⟩,aX⟩;clear w_;have Ci:Yj d hs2 (i+1) w6.heap.size undef (.tuple #[.agg #[.int .i64 d.r,.int .i64 d.d,.int .i64 d.t,.int .i64 d.n,.slice A9 (i+1) c9],.int .i64 0]) w9:=⟨A9,c9,rfl,LY.mono N7⟩
           clear LY;go_wp2;first|exact⟨aX,Ci⟩|exact Ci
         · obtain⟨A9,c9,e12,LY⟩:=hd 12 rfl;change vs 12=_ at e12;have Ci:Yj d hs2 (i+1) w6.heap.size undef (.tuple #[.agg #[.int .i64 d.r,.int .i64 d.d,.int .i64 d.t,.int .i64 d.n,.slice A9 (i+1) c9],.int .i64 0]) w2:=⟨A9,c9,rfl,LY⟩
           clear hd LY BT hbr fB nC Cj;rw [e12];go_wp2;first|exact⟨Below.refl _ _,Ci⟩|exact Ci
       · intro vs wa hba hR2;simp only[RS.bV,RS.ak]at hR2;obtain ⟨-,-,-,-,-,-,-,-,-,-,-,-,-,⟨A2,RG,e13,hM8⟩,-⟩:=hR2;simp only[List.drop,List.take,List.map,RS.aN,Act.put,List.setIfInBounds_toArray,List.set_cons_succ,List.set_cons_zero,Nat.reduceAdd];change vs 13=_ at e13;rw [e13];have IX:=BT.call hba;have hBN:=oL (d:=d) IX rfl (.slice A2 (i+1) RG);have hbN:=(ah hbr hba).trans (iU (d:=d) (B:=wc.heap.size) (w:=wa) (g:=gA) hgA (.slice A2 (i+1) RG));have hMN:=(dN.jl (d':=d) (v':=.slice A2 (i+1) RG) (g:=gA) hM8 BT.lt).mono (B':=wc.heap.size) hbr.size;have r0:=IX.cell 0 (v:=.int .i64 d.r) rfl;have r1:=IX.cell 1 (v:=.int .i64 d.d) rfl;have r2:=IX.cell 2 (v:=.int .i64 d.t) rfl;have r3:=IX.cell 3 (v:=.int .i64 d.n) rfl;have r4:=IX.cell 4 (v:=.slice A' i c') rfl;have f0:=IX.frozen 0;have f1:=IX.frozen 1;have f2:=IX.frozen 2;have f3:=IX.frozen 3;have f4:=IX.frozen 4
         unfold jl at hBN hbN hMN
         unfold dD at hBN
         clear e13 hM8 IX BT hbr hba fB nC Cj;refine wpAny_take (i:=14) (v:=.agg #[.int .i64 d.r,.int .i64 d.d,.int .i64 d.t,.int .i64 d.n,.slice A2 (i+1) RG]) rfl (by kernel_rfl) (by kernel_rfl) (by kernel_rfl) (fun _ _ _ h=>h) (Or.inl ⟨by rfl,by intro w;go_simp⟩) ?_;refine wpAny_take (i:=15) (v:=.int .i64 0) rfl (by kernel_rfl) (by kernel_rfl) (by kernel_rfl) (fun _ _ _ h=>h) (Or.inl ⟨by rfl,by intro w;go_simp⟩) ?_;refine wpAny_ready (rs:=[16]) (by kernel_rfl) (by simp) (AllReady.cons rfl (fun K hK=>?_) AllReady.nil)
         go_simp
         refine hK _ _ ?_;clear hK K;refine wpAny_done (by kernel_rfl) ?_ _;clear r0 r1 r2 r3 r4 f0 f1 f2 f3 f4;go_wp2;exact ⟨⟨i+1,c2,hs2,h2,A2,RG,by go_num,rfl,⟨uj.out.1,uj.out.2.1,ZU.out,uj.out.2.2⟩,by omega,by omega,TU,hMN,hBN,hbN⟩,by simp[intOf];omega⟩
     · have hfin:Kp (yY d kn hs/\hs.length=i):=⟨G8.out.2.2.2,G8.out.1⟩
       have BR:=hBR wr hbr;have Xo:=(hb.trans (hbr.mono (by omega))).trans (iU (d:=d) (B:=w.heap.size) (w:=wr) (g:=w.heap.size+1) (by omega) (.slice A' i c'));have hMF:=(dN.jl (d':=d) (v':=.slice A' i c') (g:=w.heap.size+1) hM hbase).mono (B':=w.heap.size) (by omega);have NT:=oL (d:=d) BR rfl (.slice A' i c');have r0:=BT.cell 0 (v:=.int .i64 d.r) rfl;have r1:=BT.cell 1 (v:=.int .i64 d.d) rfl;have r2:=BT.cell 2 (v:=.int .i64 d.t) rfl;have r3:=BT.cell 3 (v:=.int .i64 d.n) rfl;have r4:=BT.cell 4 (v:=.slice A' i c') rfl;have s0:=BR.cell 0 (v:=.int .i64 0) rfl;have s1:=BR.cell 1 (v:=.int .i64 0) rfl;have s2:=BR.cell 2 (v:=.int .i64 0) rfl;have s3:=BR.cell 3 (v:=.int .i64 0) rfl;have s4:=BR.cell 4 (v:=.slice none 0 0) rfl;have f0:=fun i=>BR.frozen i
       unfold jl at NT Xo hMF
       unfold dD at NT
       have hcas:(i<cs.length/\¬i<6)∨¬i<cs.length:=by omega
       clear hM BR BT hbr hBA hBR Ue hb G8 hno fA EK IU P6 G_ TK
       rcases hcas with ⟨h1,h2⟩|h1
       · go_wp2;exact bodyPost_ret (tu rfl _ _ rfl NT) rfl ⟨⟨hs,A',c',by rw[hfin.out.2];rfl,by rw[hfin.out.2];exact hMF,hfin.out.1⟩,Xo⟩
       · go_wp2;exact bodyPost_ret (tu rfl _ _ rfl NT) rfl ⟨⟨hs,A',c',by rw[hfin.out.2];rfl,by rw[hfin.out.2];exact hMF,hfin.out.1⟩,Xo⟩
theorem iE (a b c:Int) (w:World) (h:b<=a/\a<=c):bP 42 #[.int .i64 a,.int .i64 b,.int .i64 c] w (.bool true):=by
 obtain⟨h1,h2⟩:=h;have hb:=aP w;have t1:decide (b<=a)=true:=decide_eq_true h1;have t2:decide (a<=c)=true:=decide_eq_true h2
 go_enter Tryz.func42,Tryz.ntmps42
 go_wp2;go_ret;exact ⟨by simp_all,hb⟩
theorem wU (s:List UInt8) (w:World) (h32:s.length=32):bP 40 #[.string ⟨s.toArray⟩] w (.bool true):=by
 have hb:=aP w
 go_enter Tryz.func40,Tryz.ntmps40
 go_wp2;go_ret;exact ⟨rfl,hb⟩
theorem Bj (s:List UInt8) (w:World) (h:mg s):bP 80 #[.string ⟨s.toArray⟩] w (.bool false):=by
 have hb:=aP w
 rcases h with h|rfl
 · have hC:=wU s w h;have hne:s≠[]:=fun e=>by rw[e]at h;cases h
   have t0:(s==[])=false:=beq_eq_false_iff_ne.2 hne;have t1:decide (s=[])=false:=decide_eq_false hne;have t2:(s != [])=true:=bne_iff_ne.2 hne;clear h hne
   go_enter Tryz.func80,Tryz.ntmps80
   go_wp2_with fail;refine hC.mono ?_;rintro _ w1 ⟨rfl,hb1⟩;clear hC;go_wp2;go_ret;exact ⟨rfl,hb1⟩
 · go_enter Tryz.func80,Tryz.ntmps80
   go_wp2;go_ret;exact ⟨rfl,hb⟩
theorem Ar (a b c:Int) (w:World) (h:b<=a/\a<=c):bP 53 #[.int .i64 a,.int .i64 b,.int .i64 c] w (.bool true):=by
 obtain⟨h1,h2⟩:=h;have hb:=aP w;have t1:decide (b<=a)=true:=decide_eq_true h1;have t2:decide (a<=c)=true:=decide_eq_true h2
 go_enter Tryz.func53,Tryz.ntmps53
 go_wp2;go_ret;exact ⟨by simp_all,hb⟩
theorem En (n:Int) (w:World) (h:0<=n/\n<=7):bP 52 #[.int .i64 n] w (.bool false):=by
 have hC:=Ar n 0 7 w h;clear h
 go_enter Tryz.func52,Tryz.ntmps52
 go_wp2_with fail;refine hC.mono ?_;rintro _ w1 ⟨rfl,hb1⟩;clear hC;go_wp2;go_ret;exact ⟨rfl,hb1⟩
theorem Iu (s:List UInt8) (w:World) (h:s.length=32):bP 39 #[.string ⟨s.toArray⟩] w (.bool false):=by
 have hC:=wU s w h;clear h
 go_enter Tryz.func39,Tryz.ntmps39
 go_wp2_with fail;refine hC.mono ?_;rintro _ w1 ⟨rfl,hb1⟩;clear hC;go_wp2;go_ret;exact ⟨rfl,hb1⟩
theorem Ir (n:Int) (w:World) (h:0<=n/\n<=255):bP 41 #[.int .i64 n] w (.bool false):=by
 have hC:=iE n 0 255 w h;clear h
 go_enter Tryz.func41,Tryz.ntmps41
 go_wp2_with fail;refine hC.mono ?_;rintro _ w1 ⟨rfl,hb1⟩;clear hC;go_wp2;go_ret;exact ⟨rfl,hb1⟩
theorem GR (l:List (List UInt8)) (A:Option Addr) (cap:Nat) (w:World) (hA:At 1 h_ w w.heap.size A l) (hn:l.length<=cap) (hl:l.length<=1000000) (hp:∀x∈l,mg x) :
 bP 85 #[.slice A l.length cap,.func (.func 80) #[] #[]] w (.int .i64 (-1)):=by
 go_enter Tryz.func85,Tryz.ntmps85
 have hb0:=aP w;go_wp2_with fail
 go_loopw [8] (fun s8 wr=>∃k:Nat,k<=l.length/\s8=.int .i64 k/\Below w.heap.size w wr) (fun s8 _=>l.length-(intOf s8).toNat)
 case atStart=>exact⟨0,Nat.zero_le _,rfl,hb0⟩
 case round =>
  clear hb0;obtain ⟨k,hk,rfl,hb⟩:=hrel;by_cases hlt:k<l.length
  · obtain⟨b,off,rfl,hbB,hcell⟩:=hA (by omega);obtain ⟨x0,hck⟩:∃x,l[k]? = some x:=⟨_,List.getElem?_eq_getElem hlt⟩
    have hP:=Bj x0 wr (hp x0 (List.mem_of_getElem? hck));have c0:wr.cell? ⟨b,off+k,none⟩=some (.string ⟨x0.toArray⟩):=(hb.cell (p:=⟨b,_,none⟩) hbB).trans (by have:=hcell k _ hck 0 _ rfl;rwa [Nat.mul_one,Nat.add_zero]at this);clear hcell hA hck hp;go_wp2_with fail;refine hP.mono ?_;rintro _ w1 ⟨rfl,hb1⟩;replace hb:=ah hb hb1;clear hP hb1 c0;go_wp2;exact ⟨⟨k+1,by omega,by go_num,hb⟩,by simp[intOf];omega⟩
  · clear hp;go_wp2;go_ret;exact ⟨rfl,hb⟩
theorem H8 (l:List (List UInt8)) (A:Option Addr) (cap:Nat) (w:World) (hA:At 1 h_ w w.heap.size A l) (hn:l.length<=cap) (hl:l.length<=1000000) (hp:∀x∈l,mg x) :
 bP 43 #[.slice A l.length cap,.func (.func 80) #[] #[]] w (.bool false):=by
 have hI:=GR l A cap w hA hn hl hp;clear hA hp
 go_enter Tryz.func43,Tryz.ntmps43
 go_wp2_with fail;refine hI.mono ?_;rintro _ w1 ⟨rfl,hb1⟩;clear hI;go_wp2;go_ret;exact ⟨rfl,hb1⟩
theorem KL (l:List (Int)) (A:Option Addr) (cap:Nat) (w:World) (hA:At 1 uV w w.heap.size A l) (hn:l.length<=cap) (hl:l.length<=1000000) (hp:∀x∈l,0<=x/\x<=7) :
 bP 86 #[.slice A l.length cap,.func (.func 52) #[] #[]] w (.int .i64 (-1)):=by
 go_enter Tryz.func86,Tryz.ntmps86
 have hb0:=aP w;go_wp2_with fail
 go_loopw [8] (fun s8 wr=>∃k:Nat,k<=l.length/\s8=.int .i64 k/\Below w.heap.size w wr) (fun s8 _=>l.length-(intOf s8).toNat)
 case atStart=>exact⟨0,Nat.zero_le _,rfl,hb0⟩
 case round =>
  clear hb0;obtain ⟨k,hk,rfl,hb⟩:=hrel;by_cases hlt:k<l.length
  · obtain⟨b,off,rfl,hbB,hcell⟩:=hA (by omega);obtain ⟨x0,hck⟩:∃x,l[k]? = some x:=⟨_,List.getElem?_eq_getElem hlt⟩
    have hP:=En x0 wr (hp x0 (List.mem_of_getElem? hck));have c0:wr.cell? ⟨b,off+k,none⟩=some (.int .i64 x0):=(hb.cell (p:=⟨b,_,none⟩) hbB).trans (by have:=hcell k _ hck 0 _ rfl;rwa [Nat.mul_one,Nat.add_zero]at this);clear hcell hA hck hp;go_wp2_with fail;refine hP.mono ?_;rintro _ w1 ⟨rfl,hb1⟩;replace hb:=ah hb hb1;clear hP hb1 c0;go_wp2;exact ⟨⟨k+1,by omega,by go_num,hb⟩,by simp[intOf];omega⟩
  · clear hp;go_wp2;go_ret;exact ⟨rfl,hb⟩
theorem MX (l:List (Int)) (A:Option Addr) (cap:Nat) (w:World) (hA:At 1 uV w w.heap.size A l) (hn:l.length<=cap) (hl:l.length<=1000000) (hp:∀x∈l,0<=x/\x<=7) :
 bP 44 #[.slice A l.length cap,.func (.func 52) #[] #[]] w (.bool false):=by
 have hI:=KL l A cap w hA hn hl hp;clear hA hp
 go_enter Tryz.func44,Tryz.ntmps44
 go_wp2_with fail;refine hI.mono ?_;rintro _ w1 ⟨rfl,hb1⟩;clear hI;go_wp2;go_ret;exact ⟨rfl,hb1⟩
theorem PE (l:List (List UInt8)) (A:Option Addr) (cap:Nat) (w:World) (hA:At 1 h_ w w.heap.size A l) (hn:l.length<=cap) (hl:l.length<=1000000) (hp:∀x∈l,x.length=32) :
 bP 85 #[.slice A l.length cap,.func (.func 39) #[] #[]] w (.int .i64 (-1)):=by
 go_enter Tryz.func85,Tryz.ntmps85
 have hb0:=aP w;go_wp2_with fail
 go_loopw [8] (fun s8 wr=>∃k:Nat,k<=l.length/\s8=.int .i64 k/\Below w.heap.size w wr) (fun s8 _=>l.length-(intOf s8).toNat)
 case atStart=>exact⟨0,Nat.zero_le _,rfl,hb0⟩
 case round =>
  clear hb0;obtain ⟨k,hk,rfl,hb⟩:=hrel;by_cases hlt:k<l.length
  · obtain⟨b,off,rfl,hbB,hcell⟩:=hA (by omega);obtain ⟨x0,hck⟩:∃x,l[k]? = some x:=⟨_,List.getElem?_eq_getElem hlt⟩
    have hP:=Iu x0 wr (hp x0 (List.mem_of_getElem? hck));have c0:wr.cell? ⟨b,off+k,none⟩=some (.string ⟨x0.toArray⟩):=(hb.cell (p:=⟨b,_,none⟩) hbB).trans (by have:=hcell k _ hck 0 _ rfl;rwa [Nat.mul_one,Nat.add_zero]at this);clear hcell hA hck hp;go_wp2_with fail;refine hP.mono ?_;rintro _ w1 ⟨rfl,hb1⟩;replace hb:=ah hb hb1;clear hP hb1 c0;go_wp2;exact ⟨⟨k+1,by omega,by go_num,hb⟩,by simp[intOf];omega⟩
  · clear hp;go_wp2;go_ret;exact ⟨rfl,hb⟩
theorem Qc (l:List (List UInt8)) (A:Option Addr) (cap:Nat) (w:World) (hA:At 1 h_ w w.heap.size A l) (hn:l.length<=cap) (hl:l.length<=1000000) (hp:∀x∈l,x.length=32) :
 bP 43 #[.slice A l.length cap,.func (.func 39) #[] #[]] w (.bool false):=by
 have hI:=PE l A cap w hA hn hl hp;clear hA hp
 go_enter Tryz.func43,Tryz.ntmps43
 go_wp2_with fail;refine hI.mono ?_;rintro _ w1 ⟨rfl,hb1⟩;clear hI;go_wp2;go_ret;exact ⟨rfl,hb1⟩
theorem PD (l:List (Int)) (A:Option Addr) (cap:Nat) (w:World) (hA:At 1 uV w w.heap.size A l) (hn:l.length<=cap) (hl:l.length<=1000000) (hp:∀x∈l,0<=x/\x<=255) :
 bP 86 #[.slice A l.length cap,.func (.func 41) #[] #[]] w (.int .i64 (-1)):=by
 go_enter Tryz.func86,Tryz.ntmps86
 have hb0:=aP w;go_wp2_with fail
 go_loopw [8] (fun s8 wr=>∃k:Nat,k<=l.length/\s8=.int .i64 k/\Below w.heap.size w wr) (fun s8 _=>l.length-(intOf s8).toNat)
 case atStart=>exact⟨0,Nat.zero_le _,rfl,hb0⟩
 case round =>
  clear hb0;obtain ⟨k,hk,rfl,hb⟩:=hrel;by_cases hlt:k<l.length
  · obtain⟨b,off,rfl,hbB,hcell⟩:=hA (by omega);obtain ⟨x0,hck⟩:∃x,l[k]? = some x:=⟨_,List.getElem?_eq_getElem hlt⟩
    have hP:=Ir x0 wr (hp x0 (List.mem_of_getElem? hck));have c0:wr.cell? ⟨b,off+k,none⟩=some (.int .i64 x0):=(hb.cell (p:=⟨b,_,none⟩) hbB).trans (by have:=hcell k _ hck 0 _ rfl;rwa [Nat.mul_one,Nat.add_zero]at this);clear hcell hA hck hp;go_wp2_with fail;refine hP.mono ?_;rintro _ w1 ⟨rfl,hb1⟩;replace hb:=ah hb hb1;clear hP hb1 c0;go_wp2;exact ⟨⟨k+1,by omega,by go_num,hb⟩,by simp[intOf];omega⟩
  · clear hp;go_wp2;go_ret;exact ⟨rfl,hb⟩
theorem Qb (l:List (Int)) (A:Option Addr) (cap:Nat) (w:World) (hA:At 1 uV w w.heap.size A l) (hn:l.length<=cap) (hl:l.length<=1000000) (hp:∀x∈l,0<=x/\x<=255) :
 bP 44 #[.slice A l.length cap,.func (.func 41) #[] #[]] w (.bool false):=by
 have hI:=PD l A cap w hA hn hl hp;clear hA hp
 go_enter Tryz.func44,Tryz.ntmps44
 go_wp2_with fail;refine hI.mono ?_;rintro _ w1 ⟨rfl,hb1⟩;clear hI;go_wp2;go_ret;exact ⟨rfl,hb1⟩
theorem qQ (ks:List (List UInt8)) (K:Option Addr) (kc:Nat) (w:World) (hK:At 1 h_ w w.heap.size K ks) (h8:ks.length=8) (hkc:8<=kc) (hks:∀k∈ks,mg k) :
 bP 34 #[.slice K 8 kc] w (.bool true):=by
 have hC:=H8 ks K kc w hK (by omega) (by omega) hks;rw [h8]at hC;clear hK h8 hks
 go_enter Tryz.func34,Tryz.ntmps34
 go_wp2_with fail;refine hC.mono ?_;rintro _ w1 ⟨rfl,hb1⟩;clear hC;go_wp2;go_ret;exact ⟨rfl,hb1⟩
theorem xg (d:Sh.Dl) (hs:List Sh.Hn) (A:Option Addr) (cap:Nat) (w:World) (hA:At 3 dw w w.heap.size A hs) (hn:hs.length<=cap) (hf:iK d hs) :
 bP 33 #[.agg (dD d (.slice A hs.length cap))] w (.bool true):=by
 obtain⟨hr,hd,ht,hnn,hlen,pz,hnext⟩:=hf;have hb:=bY w (.cells (dD d (.slice A hs.length cap)) 32);have BA:=Bx.mk w 32 (dD d (.slice A hs.length cap));obtain ⟨p,off,rfl,hp,hcells⟩:=hA (by omega);have hcell:∀w',Below w.heap.size w w'->∀(i:Nat) (h:Sh.Hn),hs[i]? = some h->∀(j:Nat) (u:Value),(dw h)[j]? = some u->w'.cell? ⟨p,off+i*3+j,none⟩=some u:=fun w' hw i h hi j u hu=>(hw.cell (p:=⟨p,off+i*3+j,none⟩) hp).trans (hcells i h hi j u hu)
 have DJ:Kp (hs.length<=8):=⟨hlen.2⟩
 have La:(hs.length:Int)<=8:=by have:=hlen.2;omega
 have Lc:(1:Int)<=hs.length:=by have:=hlen.1;omega
 unfold dD at hb BA ⊢
 obtain⟨xr,xd,xt,xn⟩:=d;dsimp only at hr hd ht hnn hb BA ⊢;clear hcells;obtain ⟨n,hnl⟩:∃n,Kp (hs.length=n):=⟨_,⟨rfl⟩⟩
 rw[hnl.out]at hn DJ La Lc hb BA ⊢;clear hlen;have hbn:=bY (w.alloc (.cells #[.int .i64 xr,.int .i64 xd,.int .i64 xt,.int .i64 xn,.slice (some ⟨p,off,none⟩) n cap] 32)) (.cells #[.int .i64 xr,.int .i64 xd,.int .i64 xt,.int .i64 xn] 29);have BD:=Bx.mk (w.alloc (.cells #[.int .i64 xr,.int .i64 xd,.int .i64 xt,.int .i64 xn,.slice (some ⟨p,off,none⟩) n cap] 32)) 29 #[.int .i64 xr,.int .i64 xd,.int .i64 xt,.int .i64 xn];replace BA:=BA.call hbn;replace hb:=ah hb hbn;rw [World.size_alloc]at BD;clear hbn;have b0:=BA.cell 0 (v:=.int .i64 xr) rfl
 go_enter Tryz.func33,Tryz.ntmps33
 go_wp2_with fail;refine (iE _ _ _ _ hr).mono ?_;rintro _ w1 ⟨rfl,hb1⟩;replace BA:=BA.call hb1;replace BD:=BD.call hb1;replace hb:=ah hb hb1;clear hb1;have b1:=BD.cell 1 (v:=.int .i64 xd) rfl;go_wp2_with fail;refine (iE _ _ _ _ hd).mono ?_;rintro _ w2 ⟨rfl,hb1⟩;replace BA:=BA.call hb1;replace BD:=BD.call hb1;replace hb:=ah hb hb1;clear hb1 b1;have b1:=BD.cell 2 (v:=.int .i64 xt) rfl;go_wp2_with fail;refine (iE _ _ _ _ ht).mono ?_;rintro _ w3 ⟨rfl,hb1⟩;replace BA:=BA.call hb1;replace BD:=BD.call hb1;replace hb:=ah hb hb1;clear hb1 b1;have b1:=BD.cell 3 (v:=.int .i64 xn) rfl;go_wp2_with fail;refine (iE _ _ _ _ hnn).mono ?_;rintro _ w4 ⟨rfl,hb1⟩;replace BA:=BA.call hb1;replace hb:=ah hb hb1;clear hb1 b1 BD b0;have b1:=BA.cell 4 (v:=.slice (some ⟨p,off,none⟩) n cap) rfl;go_wp2_with fail;refine (iE _ _ _ _ ⟨Lc,La⟩).mono ?_;rintro _ w5 ⟨rfl,hb1⟩;replace BA:=BA.call hb1;replace hb:=ah hb hb1;clear hb1 b1;have BL:=Bx.mk w5 70 #[.int .i64 (-1),.int .i64 3,.string ⟨#[]⟩];have hbn:=bY w5 (.cells #[.int .i64 (-1),.int .i64 3,.string ⟨#[]⟩] 70);have BA0:=BA;replace BA:=BA.call hbn;replace hb:=ah hb hbn;have b4:=BA.cell 4 (v:=.slice (some ⟨p,off,none⟩) n cap) rfl;have hw5:w.heap.size+1<w5.heap.size+1:=by have:=BA0.lt;omega
 have hfirst:Kp (∀h,hs[0]? = some h->h.c≠ -1/\h.l<=3):=⟨fun h h0=>by have:=pz 0 h h0;omega⟩
 obtain⟨W5,hW5⟩:∃W5,Kp (w5.alloc (.cells #[.int .i64 (-1),.int .i64 3,.string ⟨#[]⟩] 70)=W5):=⟨_,⟨rfl⟩⟩
 rw[hW5.out]at BL BA hb b4;clear hbn BA0;go_upto_region 5 with fail;rw [hW5.out];clear hW5;have hg5:w.heap.size<w5.heap.size:=by omega
 generalize w5.heap.size=g5 at *;go_wp2_with fail;clear b4
 go_loopw [42] (fun Y8 wr=>∃(k:Nat) (lc ll:Int) (q:ByteArray),k<=n/\Y8=.int .i64 k/\Kp (∀h,hs[k]? = some h->h.c≠lc/\h.l<=ll)/\Bx wr g5 70 #[.int .i64 lc,.int .i64 ll,.string q]/\Below w.heap.size w wr) (fun Y8 _=>n-(intOf Y8).toNat)
 case atStart=>exact⟨0,_,_,_,by omega,rfl,hfirst,BL,hb⟩
 case round =>
  clear BL hb BA hfirst;obtain ⟨k,lc,ll,q,hk,rfl,hlast,BL,hb⟩:=hrel;by_cases hlt:k<n
  · obtain⟨h,hgo⟩:∃h,hs[k]? = some h:=⟨_,List.getElem?_eq_getElem (by rw[hnl.out];exact hlt)⟩
    have hgh:=pz k _ hgo;have hc:=hcell wr hb k _ hgo;obtain ⟨hne,hle⟩:=hlast.out h hgo;have hnx:Kp (∀h',hs[k+1]? = some h'->h'.c≠h.c/\h'.l<=h.l):=⟨fun h' h1=>hnext k h h' hgo h1⟩
    obtain⟨II,hl3,hsl⟩:=hgh;obtain ⟨c,l,sl⟩:=h;dsimp only[dw]at hc II hl3 hsl hne hle hnx;have c0:wr.cell? ⟨p,off+k*3,none⟩=some (.int .i64 c):=hc 0 _ rfl;have c1:=hc 1 _ rfl;have c2:=hc 2 _ rfl;have BH:=Bx.mk wr 70 #[.int .i64 c,.int .i64 l,.string ⟨sl.toArray⟩];have hbn:=bY wr (.cells #[.int .i64 c,.int .i64 l,.string ⟨sl.toArray⟩] 70);replace BL:=BL.call hbn;replace hb:=ah hb hbn;have t1:(c==lc)=false:=beq_eq_false_iff_ne.2 hne;have hle2:0<=l/\l<=ll:=⟨hl3.1,hle⟩
    clear hc hbn hgo hlast hne;obtain ⟨W1,hW1⟩:∃W1,Kp (wr.alloc (.cells #[.int .i64 c,.int .i64 l,.string ⟨sl.toArray⟩] 70)=W1):=⟨_,⟨rfl⟩⟩
    rw[hW1.out]at BL hb BH;go_upto_region 8 with fail;rw [hW1.out];clear hW1 c0 c1 c2;generalize wr.heap.size=gh at *;have hsl8:=Kp.mk hsl;have b0:=BH.cell 0 (v:=.int .i64 c) rfl;have k1:=iE c 0 7 W1 II;clear pz hnext hcell hle;go_wp2_with fail;refine k1.mono ?_;rintro _ w2 ⟨rfl,hb1⟩;replace BL:=BL.call hb1;replace BH:=BH.call hb1;replace hb:=ah hb hb1;clear k1 hb1 b0;have b0:=BH.cell 0 (v:=.int .i64 c) rfl;have b1:=BH.cell 1 (v:=.int .i64 l) rfl;have l0:=BL.cell 0 (v:=.int .i64 lc) rfl;have l1:=BL.cell 1 (v:=.int .i64 ll) rfl;have k2:=iE l 0 ll w2 hle2;clear hle2;go_wp2_with fail;refine k2.mono ?_;rintro _ W2 ⟨rfl,hb1⟩;replace BL:=BL.call hb1;replace BH:=BH.call hb1;replace hb:=ah hb hb1;clear k2 hb1 b0 b1 l0 l1 t1;have b0:=BH.cell 0 (v:=.int .i64 c) rfl;have b1:=BH.cell 1 (v:=.int .i64 l) rfl;have b2:=BH.cell 2 (v:=.string ⟨sl.toArray⟩) rfl;have l0:=BL.cell 0 (v:=.int .i64 lc) rfl;have l1:=BL.cell 1 (v:=.int .i64 ll) rfl;have l2:=BL.cell 2 (v:=.string q) rfl;have f0:=fun i=>BL.frozen i
    have BN:=((BL.set 0 (.int .i64 c)).set 1 (.int .i64 l)).set 2 (.string ⟨sl.toArray⟩);have hbN:=((hb.setCell (p:=⟨g5,0,none⟩) (Nat.le_of_lt hg5) (.int .i64 c)).setCell (p:=⟨g5,1,none⟩) (Nat.le_of_lt hg5) (.int .i64 l)).setCell (p:=⟨g5,2,none⟩) (Nat.le_of_lt hg5) (.string ⟨sl.toArray⟩);clear BH BL hb;go_wp2;exact ⟨⟨k+1,c,l,_,by omega,by go_num,hnx,BN,hbN⟩,by simp[intOf];omega⟩
  · clear pz hnext hcell;go_wp2;go_ret;exact ⟨rfl,hb⟩
theorem UC:∃i,Tryz.prog.info? 5=some i/\i.zero=some (.int .u8 0)/\i.size=1/\i.bytes=1:=by
 have h:(Tryz.prog.info? 5).map (fun i=>(i.zero,i.size,i.bytes))=some (some (.int .u8 0),1,1):=by kernel_rfl
 cases hi:Tryz.prog.info? 5 with
 | none=>rw[hi]at h;cases h
 | some i =>
  rw[hi]at h;simp only[Option.map_some,Option.some.injEq,Prod.mk.injEq]at h;exact ⟨i,rfl,h.1,h.2.1,h.2.2⟩
theorem xB:∃i,Tryz.prog.info? 169=some i/\i.size=2:=by
 have h:(Tryz.prog.info? 169).map (fun i=>i.size)=some 2:=by kernel_rfl
 cases hi:Tryz.prog.info? 169 with
 | none=>rw[hi]at h;cases h
 | some i =>
  rw[hi]at h;exact ⟨i,rfl,by simpa using h⟩
theorem rC (b:Nat) (w:World) (h0:w.cell? ⟨b,0,none⟩=some (.pointer (some ⟨b,0,none⟩))) :
 Calls Tryz.prog 140 #[.pointer (some ⟨b,0,none⟩)] w fun e w'=>e=.returned (.tuple #[])/\w'=w:=by
 obtain⟨j,hj,_⟩:=xB
 go_enter Tryz.func140,Tryz.ntmps140
 go_wp2;rw [Lib.run_neq_ptr_same w _ Tryz.underlying167 hj];go_wp2
 go_end0
 exact⟨rfl,rfl⟩
theorem qH (b:Nat) (w:World) (h0:w.cell? ⟨b,0,none⟩=some (.pointer none)) (hsh:w.shape? b=some (171,2)) (hfz:w.frozen? ⟨b,0,none⟩=false) :
 Calls Tryz.prog 140 #[.pointer (some ⟨b,0,none⟩)] w fun e w'=>e=.returned (.tuple #[])/\w'=w.setCell ⟨b,0,none⟩ (.pointer (some ⟨b,0,none⟩)):=by
 obtain⟨j,hj,hjs⟩:=xB
 go_enter Tryz.func140,Tryz.ntmps140
 go_wp2;rw [Lib.run_to_unsafe w ⟨b,0,none⟩ Tryz.underlying167 Tryz.underlying285 hj (by rw[hjs];decide) hsh (Nat.zero_lt_succ 1)];simp only[Result.andThen];rw [Oper.upon_value];go_wp2;rw [run_callFunc_extern Tryz.func190 (by kernel_rfl) (by kernel_rfl) (by kernel_rfl) (e:=Extern.AbiNoEscape.same) (by kernel_rfl)];rw [Lib.run_noEscape];simp only[Result.andThen];rw [Oper.upon_value];go_wp2;rw [Lib.run_from_unsafe w ⟨b,0,none⟩ Tryz.underlying285 Tryz.underlying167 hj hsh (by kernel_rfl)];simp only[Result.andThen];rw [Oper.upon_value];go_wp2
 go_end0
 exact⟨rfl,rfl⟩
theorem uI (B b:Nat) (bs:List Value) (w:World) (h:Lib.IsBuilder 171 5 B b bs w) :
 Calls Tryz.prog 140 #[.pointer (some ⟨b,0,none⟩)] w fun e w'=>e=.returned (.tuple #[])/\Lib.BuilderAt 171 5 B b (.pointer (some ⟨b,0,none⟩)) bs w'/\Below B w w'/\Lib.OthersKept 5 (some b) w w':=by
 rcases h with h|h
 · refine (qH b w h.cell0 h.shape h.frozen0).mono ?_;rintro e w' ⟨rfl,rfl⟩;exact ⟨rfl,h.used _,(Below.refl B w).setCell (p:=⟨b,0,none⟩) h.1 _,(Lib.OthersKept.refl _ _ w).setCell ⟨b,0,none⟩ rfl _⟩
 · refine (rC b w h.cell0).mono ?_;rintro e w' ⟨rfl,rfl⟩;exact ⟨rfl,h,Below.refl B _,Lib.OthersKept.refl _ _ _⟩
theorem Gp {B n:Nat} {v:Value} {bs:List Value} {w:World} (h:w.ownsRow B 5 1 v n bs):∀g,v.ownBlock=some g->∃c fz,w.heap[g]? = some (.cells c 5 fz):=fun g hg=>by
 rcases h.2 with ⟨rfl,_⟩|⟨g',cap,cur,rfl,_,h1,_⟩
 · cases hg
 · simp only[Value.ownBlock,Option.some.injEq]at hg;subst hg;exact ⟨_,_,h1⟩
theorem jV (B b:Nat) (bs:List Value) (s:List UInt8) (w:World) (h:Lib.IsBuilder 171 5 B b bs w) (hlen:bs.length+s.length<=140737488355328) (hBw:B<=w.heap.size) :
 Calls Tryz.prog 83 #[.pointer (some ⟨b,0,none⟩),.string ⟨s.toArray⟩] w fun e w'=>e=.returned (.tuple #[.int .i64 s.length,.nilIface])/\Lib.BuilderAt 171 5 B b (.pointer (some ⟨b,0,none⟩)) (bs++Lib.byteCells s) w'/\Below B w w'/\Lib.OthersKept 5 (some b) w w':=by
 obtain⟨i0,hi,hz0,hz1,hz2⟩:=UC
 go_enter Tryz.func83,Tryz.ntmps83
 go_wp2_with (go_at_call 140;refine (uI B b bs _ h).mono ?_)
 rintro e w1 ⟨rfl,h1,hb1,hk1⟩;obtain ⟨hB,v,hbk,hown,hne⟩:=h1;have c0:w1.cell? ⟨b,0,none⟩=some (.pointer (some ⟨b,0,none⟩)):=by rw[Lib.cell_of_heap hbk];rfl
 have c1:w1.cell? ⟨b,1,none⟩=some v:=by rw[Lib.cell_of_heap hbk];rfl
 have hsz:(⟨s.toArray⟩:ByteArray).size=s.length:=rfl
 go_wp2_with (at_builtin;refine Lib.wpList_append_own_string _ rfl _ _ 157 9 rfl B 5 i0 Tryz.underlying157 Tryz.underlying9 hi hz0 hz1 hz2 _ _ _ rfl hown ⟨s.toArray⟩ rfl ?c3 ?c4 ?c5 ?_)
 case c3=>unfold maxLen;rw[hsz];omega
 case c4=>rw[hsz];omega
 case c5=>have:=hb1.size;omega
 intro v' w2 hown' hgrow _
 have hlt:b<w1.heap.size:=by
  rcases Nat.lt_or_ge b w1.heap.size with h'|h'
  · exact h'
  · simp[Array.getElem?_eq_none h']at hbk
 have hb2:w2.heap[b]? = some (.cells #[.pointer (some ⟨b,0,none⟩),v] 171 (0,0)):=by
  rw[hgrow.block b hlt (fun e=>hne e.symm)];exact hbk
 have d0:w2.cell? ⟨b,0,none⟩=some (.pointer (some ⟨b,0,none⟩)):=by rw[Lib.cell_of_heap hb2];rfl
 have d1:w2.cell? ⟨b,1,none⟩=some v:=by rw[Lib.cell_of_heap hb2];rfl
 have f1:w2.frozen? ⟨b,1,none⟩=false:=Lib.frozen_of_heap hb2 1
 obtain⟨ao,n',cap,rfl⟩:∃ao n' cap,v'=.slice ao n' cap:=by
  rcases hown'.2 with ⟨hv,_⟩|⟨g,cap,cur,hv,_⟩
  · exact⟨_,_,_,hv⟩
  · exact⟨_,_,_,hv⟩
 go_wp2
 go_ret2
 have hc:Lib.strCells ⟨s.toArray⟩=Lib.byteCells s:=Lib.strCells_eq _;rw [hc]at hown';refine ⟨rfl,?_,?_,(hk1.grown hgrow (Gp hown)).setCell ⟨b,1,none⟩ rfl _⟩
 · exact Lib.BuilderAt.put (T:=171) (e:=5) hB hb2 (bs':=bs++Lib.byteCells s) (by rw[List.length_append,Lib.byteCells_length];exact hown') (by decide)
 · exact (hb1.grown hgrow (by have:=hb1.size;omega) (fun k hk=>(hown.lt k hk).1)).setCell (p:=⟨b,1,none⟩) hB _
theorem yZ (B b:Nat) (l:List UInt8) (w:World) (h:Lib.IsBuilder 171 5 B b (Lib.byteCells l) w) (h0:l≠[]) :
 Calls Tryz.prog 84 #[.pointer (some ⟨b,0,none⟩)] w fun e w'=>e=.returned (.string ⟨l.toArray⟩)/\Below B w w'/\Lib.OthersKept 5 (some b) w w':=by
 obtain⟨p,hB,v,hbk,hown,hne⟩:∃p,Lib.BuilderAt 171 5 B b p (Lib.byteCells l) w:=by
  rcases h with h|h
  · exact⟨_,h⟩
  · exact⟨_,h⟩
 have hl0:l.length≠0:=by simpa using h0
 rw[Lib.byteCells_length]at hown
 obtain⟨g,cap,cur,rfl,hbg,hg,hnc,hcm,hcs,htake⟩:∃g cap cur,v=.slice (some ⟨g,0,none⟩) l.length cap/\B<=g/\w.heap[g]? = some (.cells cur 5 (0,0))/\l.length<=cap/\cap<=maxLen/\cur.size=cap*1/\cur.toList.take (l.length*1)=Lib.byteCells l:=by
  rcases hown.2 with ⟨_,hz⟩|⟨g,cap,cur,hv,r⟩
  · exact absurd hz hl0
  · exact⟨g,cap,cur,hv,r⟩
 have c1:w.drew.cell? ⟨b,1,none⟩=some (.slice (some ⟨g,0,none⟩) l.length cap):=by
  have:w.drew.heap[b]? = some (.cells #[p,.slice (some ⟨g,0,none⟩) l.length cap] 171 (0,0)):=hbk;rw [Lib.cell_of_heap this];rfl
 have hSD:(Builtin.unsafeSliceData_ #[157] 241 #[.slice (some ⟨g,0,none⟩) l.length cap]).run Tryz.prog w.drew=.ok (.pointer (some ⟨g,0,none⟩)) w.drew :=
  Lib.run_unsafeSliceData_row _ _ _ _ _ _ (by omega)
 have hUS:(Builtin.unsafeString_ #[241,3] 9 #[.pointer (some ⟨g,0,none⟩),.int .i64 l.length]).run Tryz.prog w.drew=.ok (.string ⟨l.toArray⟩) (w.drew.freeze ⟨g,0,none⟩ l.length):=by
  refine Lib.run_unsafeString_row w.drew 241 3 9 5 Tryz.underlying241 (by kernel_rfl) g cur.size (by have hg':w.drew.heap[g]? = some (.cells cur 5 (0,0)):=hg;simp[World.shape?,hg']) l h0 (by omega) (by unfold maxLen at hcm;omega) ?_;intro j x hx;have:=hown.cells (g:=g) rfl j (.int .u8 x.toNat) (by simp[Lib.byteCells,hx]);exact this
 have hbl:=Lib.below_freeze (Below.drew (Below.refl B w)) (p:=⟨g,0,none⟩) hbg l.length;have hok:=((Lib.OthersKept.refl 5 (some b) w).drew).freeze ⟨g,0,none⟩ l.length ⟨cur,(0,0),hg⟩;clear htake hcs hg hown hne hbk h
 go_enter Tryz.func84,Tryz.ntmps84
 go_wp2
 go_region
 all_goals (go_wp2;go_ret;exact⟨rfl,hbl,hok⟩)
theorem xC {B b:Nat} {p:Value} {bs:List Value} {w w':World} (h:Lib.BuilderAt 171 5 B b p bs w) (hb:Below w.heap.size w w'):Lib.BuilderAt 171 5 B b p bs w':=by
 have hlt:=h.lt;obtain ⟨h1,v,h2,h3,h4⟩:=h;refine ⟨h1,v,(hb.block _ hlt).trans h2,h3.kept (row:=none) ⟨hb.os,hb.tape,hb.output,hb.size,fun k hk _=>hb.block k hk⟩ ?_,h4⟩
 rcases hv:v.ownBlock with _|g
 · exact .inl rfl
 · exact .inr (by simp)
theorem Aa {B b:Nat} {bs:List Value} {w w':World} (h:Lib.IsBuilder 171 5 B b bs w) (hb:Below w.heap.size w w'):Lib.IsBuilder 171 5 B b bs w':=by
 rcases h with h|h
 · exact .inl (xC h hb)
 · exact .inr (xC h hb)
theorem Gs {b:Option Nat} {w w':World} (hb:Below w.heap.size w w'):Lib.OthersKept 5 b w w':=fun k o hk _ _=>(hb.block k (Array.getElem?_eq_some_iff.1 hk).1).trans hk
theorem yt {b g:Nat} {t:TypeId} {cs:Array Value} {w w':World} (h:Lib.OthersKept 5 (some b) w w') (hB:Bx w g t cs) (hg:g≠b) (ht:t≠5):Bx w' g t cs:=h g _ hB (by simp[hg]) (fun c fz e=>by cases e;exact ht rfl)
theorem KI (B b g:Nat) (l:List UInt8) (ns:List Int) (w:World) (hI:Lib.IsBuilder 171 5 B b (Lib.byteCells l) w) (hBw:B<=w.heap.size) (hS:Bx w g 3 (ns.map fun x=>Value.int .i64 x).toArray) (hgb:g≠b) (hn:ns.length=8) (hns:∀x∈ns,IW x) (hl:l.length<=100000) :
 Calls Tryz.prog 82 #[.pointer (some ⟨b,0,none⟩),.slice (some ⟨g,0,none⟩) 8 8] w fun e w'=>e=.returned (.tuple #[])/\Lib.IsBuilder 171 5 B b (Lib.byteCells (l++ns.flatMap Sh.dV)) w'/\Below B w w'/\Lib.OthersKept 5 (some b) w w':=by
 have h0:Kp (l++(ns.take 0).flatMap Sh.dV=l):=⟨by simp⟩
 have hbw:=Below.refl B w;have hok:=Lib.OthersKept.refl 5 (some b) w
 have hlen:∀k,(l++(ns.take k).flatMap Sh.dV).length<=100000+4*8:=fun k=>by
  have h1:=mP (ns.take k) fun y hy=>hns y (List.mem_of_mem_take hy)
  rw[List.length_take,hn]at h1;rw [List.length_append];omega
 have Wu:=Kp.mk hn;have hbl:∃l0,Kp (l0=l):=⟨_,⟨rfl⟩⟩
 go_enter Tryz.func82,Tryz.ntmps82
 go_wp2_with fail
 go_loopw [10] (fun s10 wr=>∃(k:Nat) (q:List UInt8),k<=8/\s10=.int .i64 k/\Kp (l++(ns.take k).flatMap Sh.dV=q)/\Lib.IsBuilder 171 5 B b (Lib.byteCells q) wr/\Below B w wr/\Lib.OthersKept 5 (some b) w wr) (fun s10 _=>8-(intOf s10).toNat)
 case atStart=>exact⟨0,l,by omega,rfl,h0,hI,hbw,hok⟩
 case round =>
  clear h0 hI hbw hok hn;obtain ⟨k,q,hk,rfl,hq,hI,hb,hok⟩:=hrel;have hql:q.length<=100032:=by rw[←hq.out];exact hlen k
  by_cases hlt:k<8
  · obtain⟨x,hx⟩:∃x,ns[k]? = some x:=⟨_,List.getElem?_eq_getElem (by rw[Wu.out];exact hlt)⟩
    have hxn:=hns x (List.mem_of_getElem? hx);have BS:=yt hok hS hgb (by decide);have c0:wr.cell? ⟨g,k,none⟩=some (.int .i64 x):=BS.cell k (by simp[hx]);have hC:=SK x wr hxn;have ZF:Kp (l++(ns.take (k+1)).flatMap Sh.dV=q++Sh.dV x):=⟨by rw[List.take_add_one,hx,List.flatMap_append,←hq.out];simp⟩
    have hx4:=yg hxn;clear hq hx BS hxn;go_wp2_with fail;refine hC.mono ?_;rintro _ w5 ⟨rfl,hb5⟩;have IL:=Aa hI hb5;have Uc:Below B w w5:=hb.trans (hb5.mono (Nat.le_trans hBw hb.size));have Wq:=hok.trans (Gs (b:=some b) hb5);have hW:=jV B b (Lib.byteCells q) (Sh.dV x) w5 IL (by rw[Lib.byteCells_length];omega) (Nat.le_trans hBw Uc.size);clear hC hb5 c0 hI hb hok IL;go_wp2_with fail;refine hW.mono ?_;rintro _ w6 ⟨rfl,Vg,hb6,hk6⟩;have Xx:Lib.IsBuilder 171 5 B b (Lib.byteCells (q++Sh.dV x)) w6:=.inr (by rw[Lib.byteCells_append];exact Vg);replace hb6:=Uc.trans hb6;replace hk6:=Wq.trans hk6;clear hW Vg Uc Wq;go_wp2;exact ⟨⟨k+1,_,by omega,by go_num,ZF,Xx,hb6,hk6⟩,by simp[intOf];omega⟩
  · have hk8:k=8:=by omega
    have Tt:Kp (l++ns.flatMap Sh.dV=q):=⟨by rw[←hq.out,List.take_of_length_le (by rw[Wu.out];omega)]⟩
    clear hq hk8;go_wp2
    go_end0
    exact⟨rfl,by rw[Tt.out];exact hI,hb,hok⟩
attribute [local go_sem] Oper.semAt_some
def rU (d:Sh.Dl) (hs:List Sh.Hn) (i:Nat) (h:Sh.Hn):Array Value:=#[.int .i64 h.c,.int .i64 h.l,.string ⟨h.s.toArray⟩,.string ⟨(Sh.cont d i h.c h.l (bf hs i)).toArray⟩]
def hdE (d:Sh.Dl) (hs:List Sh.Hn) (x:Nat × Sh.Hn):Array Value:=#[.int .i64 x.1,.agg (rU d hs x.1 x.2)]
theorem Af (n:Nat) (d:Sh.Dl) (v:Value) (w:World) (hv:∃A m c,v=.slice A m c):CallsIn Fence.wide n Tryz.prog 36 #[.agg (dD d v)] w fun e w'=>e=.returned (.func (.func 81) #[] #[.pointer (some ⟨w.heap.size,0,none⟩)])/\w'=w.alloc (.cells (dD d v) 32):=by
 obtain⟨A,m,c,rfl⟩:=hv
 unfold dD
 refine callsIn_of_wp Tryz.func36 rfl trivial ?_ rfl;simp only[Tryz.ntmps36,List.size_toArray,List.length_cons,List.length_nil,Nat.reduceAdd,Nat.reduceSub,Array.replicate_succ,Array.replicate_zero,List.push_toArray,List.append_toArray,List.nil_append,List.cons_append]
 gi_wp2
 go_ret;exact ⟨rfl,rfl⟩
theorem Zk {e:Ending} {P Q:Prop} (h:(e=.returned (.bool true)/\P)∨(e=.returned (.bool false)/\Q)):∃b:Bool,e=.returned (.bool b)/\((b=true/\P)∨(b=false/\Q)):=by
 rcases h with ⟨h1,h2⟩|⟨h1,h2⟩
 · exact⟨true,h1,.inl ⟨rfl,h2⟩⟩
 · exact⟨false,h1,.inr ⟨rfl,h2⟩⟩
theorem wY (n:Nat) (hn1:2<=n) (d:Sh.Dl) (hs:List Sh.Hn) (A:Option Addr) (cap gB:Nat) (hd:vW d) (hk:∀x∈hs,ql x) (hl:hs.length<=100) (hcap:hs.length<=cap) :
 UR n Tryz.prog 81 #[.pointer (some ⟨gB,0,none⟩)] (hdE d hs) (fun pre x=>x.1=pre.length/\hs[x.1]? = some x.2) (fun xs=>xs.length=hs.length) (fun _=>True)
  (fun X=>Bx X gB 32 (dD d (.slice A hs.length cap))/\At 3 dw X X.heap.size A hs):=by
 intro lp J Jx W hW hJ hJx L8 hG hY hj0;have DT:=Kp.mk L8
 unfold dD at DT hW
 refine callsIn_of_wp Tryz.func81 rfl trivial ?_ rfl;simp only[Tryz.ntmps81,List.size_toArray,List.length_cons,List.length_nil,Nat.reduceAdd,Nat.reduceSub,Array.replicate_succ,Array.replicate_zero,List.push_toArray,List.append_toArray,List.nil_append,List.cons_append];have m4:=hW.1.cell 4 (v:=.slice A hs.length cap) rfl;have hbf0:Kp (bf hs 0=[]):=⟨rfl⟩
 have hnL:Kp (∀i,(bf hs i).length<=1000):=⟨fun i=>by
  cases i with
  | zero=>simp[bf]
  | succ k =>
   rw[bf]
   cases hx:hs[k]? with
   | none=>simp
   | some g=>exact (hk g (List.mem_of_getElem? hx)).s⟩
 gi_wp2_with fail
 gi_loopw [3,10] (fun s3 s10 wr=>∃(xs:List (Nat × Sh.Hn)) (q:List UInt8),xs.length<=hs.length/\s10=.int .i64 (xs.length:Nat)/\s3=.string ⟨q.toArray⟩/\Kp (bf hs xs.length=q)/\J xs wr/\W.heap.size<=wr.heap.size) (fun s3 s10 _=>hs.length-(intOf s10).toNat)
 case atStart=>exact⟨[],[],Nat.zero_le _,rfl,rfl,hbf0,hj0,Nat.le_refl _⟩
 case round =>
  clear hj0 m4 hW;obtain ⟨xs,q,hxm,rfl,rfl,hq,hj,hWs⟩:=hrel;obtain ⟨k,hkx⟩:∃k,Kp (xs.length=k):=⟨_,⟨rfl⟩⟩
  have hql:q.length<=1000:=by rw[←hq.out];exact hnL.out _
  rw[hkx.out]at hxm hq ⊢;by_cases hlt:k<hs.length
  · obtain⟨BA,hA⟩:=DT.out _ _ hj;obtain ⟨h,hgo⟩:∃h,hs[k]? = some h:=⟨_,List.getElem?_eq_getElem hlt⟩
    obtain⟨p,off,rfl,hp,hcell⟩:=hA (by omega);have hc0:wr.cell? ⟨p,off+k*3,none⟩=some (.int .i64 h.c):=hcell k h hgo 0 _ rfl;have hc1:=hcell k h hgo 1 _ rfl;have hc2:=hcell k h hgo 2 _ rfl;have DJ:=yu hd (hk h (List.mem_of_getElem? hgo)) (show k<=100 by omega);have hcn:Kp ((nums d k h).flatMap Sh.dV++q=Sh.cont d k h.c h.l (bf hs k)):=⟨by rw[hq.out];rfl⟩
    have BH:=Bx.mk wr 70 #[.int .i64 h.c,.int .i64 h.l,.string ⟨h.s.toArray⟩];have hbn:=bY wr (.cells #[.int .i64 h.c,.int .i64 h.l,.string ⟨h.s.toArray⟩] 70);obtain ⟨w1,hw1⟩:∃w1,Kp (wr.alloc (.cells #[.int .i64 h.c,.int .i64 h.l,.string ⟨h.s.toArray⟩] 70)=w1):=⟨_,⟨rfl⟩⟩
    rw[hw1.out]at BH hbn;have hI:=Lib.fresh_isBuilder 171 5 w1;have yD:=bY w1 (.cells #[.pointer none,.slice none 0 0] 171);obtain ⟨w2,hw2⟩:∃w2,Kp (w1.alloc (.cells #[.pointer none,.slice none 0 0] 171)=w2):=⟨_,⟨rfl⟩⟩
    rw[hw2.out]at hI yD;have hsz1:w1.heap.size=wr.heap.size+1:=by rw[←hw1.out,World.size_alloc]
    have hsz2:w2.heap.size=w1.heap.size+1:=by rw[←hw2.out,World.size_alloc]
    gi_upto_region 5 with fail
    rw[hw1.out,hw2.out];rw [show w1.heap.size=wr.heap.size+1 from hsz1]at hI hsz2;have hbW:=ah hbn yD;have RZ:=BA.call hbW;have Oi:=BH.call yD;have BS:=Bx.mk w2 3 ((nums d k h).map fun x=>Value.int .i64 x).toArray;have He:=bY w2 (.cells ((nums d k h).map fun x=>Value.int .i64 x).toArray 3);have Vb:=Aa hI He;have Vo:=Oi.call He;have Ua:=ah hbW He;obtain ⟨w3,hw3⟩:∃w3,Kp (w2.alloc (.cells ((nums d k h).map fun x=>Value.int .i64 x).toArray 3)=w3):=⟨_,⟨rfl⟩⟩
    rw[hw3.out]at Vb BS He Vo Ua;have hC:=KI (wr.heap.size+1) (wr.heap.size+1) w2.heap.size [] (nums d k h) w3 Vb (by have:=He.size;omega) BS (by omega) rfl DJ (by simp);rw [List.nil_append,hsz2]at hC;have a0:=RZ.cell 0 (v:=.int .i64 d.r) rfl;have a1:=RZ.cell 1 (v:=.int .i64 d.d) rfl;have a2:=RZ.cell 2 (v:=.int .i64 d.t) rfl;have a3:=RZ.cell 3 (v:=.int .i64 d.n) rfl;have h0:=Oi.cell 0 (v:=.int .i64 h.c) rfl;have h1:=Oi.cell 1 (v:=.int .i64 h.l) rfl;have hfl:((nums d k h).flatMap Sh.dV).length<=4*8:=mP (nums d k h) DJ
    have hne0:(nums d k h).flatMap Sh.dV≠[]:=by
     have h7:Sh.dV 7≠[]:=by rw[Sh.dV,Sh.zl (by decide)];simp
     intro e;rw [nums,List.flatMap_cons]at e;exact h7 (List.append_eq_nil_iff.1 e).1
    obtain⟨ns,hns⟩:∃ns,Kp (nums d k h=ns):=⟨_,⟨rfl⟩⟩
    replace hw3:Kp (w2.alloc (.cells #[.int .i64 7,.int .i64 d.r,.int .i64 d.d,.int .i64 d.t,.int .i64 d.n,.int .i64 k,.int .i64 h.c,.int .i64 h.l] 3)=w3):=hw3;rw [hns.out]at hC hfl hne0 hcn;clear hw1 hw2 hc0 hc1 hc2 hbn yD hcell DJ hI BS RZ Oi BA hA hbW
    gi_wp2_with fail
    rw[hw3.out];clear hw3;refine ⟨trivial,fun _=>by omega,(callsIn_wide.2 hC).mono ?_⟩;rintro _ w4 ⟨rfl,hI4,hb4,hk4⟩;have BH4:=yt hk4 Vo (by omega) (by decide);have T_:=Ua.trans (hb4.mono (Nat.le_succ _));have hWr:=jV (wr.heap.size+1) (wr.heap.size+1) (Lib.byteCells (ns.flatMap Sh.dV)) q w4 hI4 (by rw[Lib.byteCells_length];omega) (by have:=T_.size;have:=BH4.lt;omega);rw [←Lib.byteCells_append]at hWr;clear hC hI4 hb4 hk4 Vo He a0 a1 a2 a3 h0 h1 Ua Vb
    gi_wp2_with fail
    refine⟨trivial,fun _=>by omega,(callsIn_wide.2 hWr).mono ?_⟩;rintro _ w5 ⟨rfl,N8,hb5,hk5⟩;have Qw:=yt hk5 BH4 (by omega) (by decide);have Xm:=T_.trans (hb5.mono (Nat.le_succ _));have hIS:Lib.IsBuilder 171 5 (wr.heap.size+1) (wr.heap.size+1) (Lib.byteCells (ns.flatMap Sh.dV++q)) w5.drew:=.inr N8;rw [hcn.out]at hIS
    have Ws:Sh.cont d k h.c h.l (bf hs k)≠[]:=by
     rw[←hcn.out];intro e;exact hne0 (List.append_eq_nil_iff.1 e).1
    have hSt:=yZ (wr.heap.size+1) (wr.heap.size+1) _ w5.drew hIS Ws;obtain ⟨ct,hct⟩:∃ct,Kp (Sh.cont d k h.c h.l (bf hs k)=ct):=⟨_,⟨rfl⟩⟩
    rw[hct.out]at hSt;clear hWr N8 hb5 hk5 BH4 T_ hIS Ws hcn hne0 hfl hns;have hYk:=fun Y hjY=>hY xs (k,h) Y hjY ⟨hkx.out.symm,hgo⟩
    have Zu:Kp (hdE d hs (k,h)=#[.int .i64 k,.agg #[.int .i64 h.c,.int .i64 h.l,.string ⟨h.s.toArray⟩,.string ⟨ct.toArray⟩]]):=⟨by unfold hdE rU;rw[hct.out]⟩
    have g0:=Qw.cell 0 (v:=.int .i64 h.c) rfl;have g1:=Qw.cell 1 (v:=.int .i64 h.l) rfl;have g2:=Qw.cell 2 (v:=.string ⟨h.s.toArray⟩) rfl;have hnx:Kp (bf hs (xs++[(k,h)]).length=h.s):=⟨by rw[List.length_append,hkx.out];show bf hs (k+1)=_;rw[bf,hgo];rfl⟩
    have WC:Kp ((xs++[(k,h)]).length=k+1):=⟨by rw[List.length_append,hkx.out];rfl⟩
    clear DT hY hgo hk hd hkx hq hct
    gi_upto_region 7 with fail
    have LW:=Xm.drew;have U0:Bx w5.drew wr.heap.size 70 #[.int .i64 h.c,.int .i64 h.l,.string ⟨h.s.toArray⟩]:=Qw;clear Qw Xm
    gi_region_with (first
     | (refine ⟨trivial,fun _=>by omega,(callsIn_wide.2 hSt).mono ?_⟩;rintro _ w6 ⟨rfl,hb6,hk6⟩;have Vm:=yt hk6 U0 (by omega) (by decide);have PX:=LW.trans (hb6.mono (Nat.le_succ _));have Z4:=hJ _ _ _ hj PX;obtain ⟨fn,tmps,assign,body,hy,hR⟩:=hYk w6 Z4;rw [Zu.out]at hy;have e0:=Vm.cell 0 (v:=.int .i64 h.c) rfl;have e1:=Vm.cell 1 (v:=.int .i64 h.l) rfl;have e2:=Vm.cell 2 (v:=.string ⟨h.s.toArray⟩) rfl;clear g0 g1 g2)
     | (refine ⟨fun _=>by omega,hR.mono ?_⟩;intro e W3 hh;obtain ⟨bb,rfl,hcase⟩:=Zk hh))
    all_goals
     have hs6:=PX.size
     rcases hcase with ⟨rfl,hJ3,hF3⟩|⟨rfl,hJx3⟩
     · have Vo:Bx W3 wr.heap.size 70 #[.int .i64 h.c,.int .i64 h.l,.string ⟨h.s.toArray⟩]:=hF3.keep _ _ hWs Vm;have d2:=Vo.cell 2 (v:=.string ⟨h.s.toArray⟩) rfl;have hs3:=hF3.size;clear hh hR hy hYk Vm U0 hk6 hb6 PX LW Z4 hj hSt e0 e1 e2 hF3 Vo Zu
       gi_wp2_with fail
       refine⟨⟨xs++[(k,h)],h.s,by rw[WC.out];omega,?_,rfl,hnx,hJ3,by omega⟩,?_⟩
       · rw[WC.out];go_num
       · simp[intOf];omega
     · clear hh hR hy hYk Vm U0 hk6 hb6 PX LW Z4 hj hSt e0 e1 e2 Zu
       gi_wp2_with fail
       exact bodyPost_ret (results_none rfl _ _ _) rfl ⟨⟨_,rfl⟩,.inr ⟨_,hJx3⟩⟩
  · have hkn:k=hs.length:=by omega
    subst hkn
    gi_wp2_with fail
    exact bodyPost_end (results_none rfl _ _ _) rfl ⟨⟨_,rfl⟩,.inl ⟨_,hkx.out,hj⟩⟩
end Go.Proofs.YtohgjenaclfegaaGreatDoor

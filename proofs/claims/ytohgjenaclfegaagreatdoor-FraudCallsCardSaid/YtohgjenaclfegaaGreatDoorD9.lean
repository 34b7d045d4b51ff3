import Derived.Test.YtohgjenaclfegaaGreatDoorQA07
import Derived.Test.YtohgjenaclfegaaGreatDoorQF03
import Derived.Deep.DeepCutAuto
import Derived.Deep.CutBlock
set_option linter.unusedVariables false
set_option linter.unusedSimpArgs false
set_option maxRecDepth 100000
set_option maxHeartbeats 8000000
namespace Go.Proofs.YtohgjenaclfegaaGreatDoor
open Go.RowKit Go.Shelf
attribute [local go_sem] Oper.semAt_some
set_option maxHeartbeats 16000000 in
theorem yD (X:List NX) (A0:Option Addr) (cX:Nat) (O:List Int) (A1:Option Addr) (c1:Nat) (known more:Int) (w:World) (hX:At 14 nxC w w.heap.size A0 X) (hXn:X.length<=cX) (hXm:cX<=maxLen) (Uc:∀q∈X,Jg q w)
 (hO:At 1 AA w w.heap.size A1 O) (hOn:O.length<=c1) (hOm:c1<=maxLen) (hOw:∀o∈O,y8 o) (hk:y8 known) (hm:y8 more) (hE:Env w) (hR:Rnd w) (XE:aT 18 #[] w (.bool true)) :
 aT 4 #[.slice A0 X.length cX,.slice A1 O.length c1,.int .i64 known,.int .i64 more] w (.bool true):=by
 obtain⟨ai,az,hai,haz,has,hazs,haby⟩:=attI;obtain ⟨bi,hbi,hbz,hbs,hbb⟩:=Xp
 have hcells0:∀(k:Nat) (q:NX),X[k]? = some q->∃p0 o0,A0=some ⟨p0,o0,none⟩/\p0<w.heap.size/\∀(j:Nat) (u:Value),(nxC q)[j]? = some u->w.cell? ⟨p0,o0+k*14+j,none⟩=some u:=fun k q hq=>by
  obtain⟨p0,o0,e,hp,hc⟩:=hX (by have:=(List.getElem?_eq_some_iff.1 hq).1;omega);exact ⟨p0,o0,e,hp,fun j u hu=>hc k q hq j u hu⟩
 have wK:∀(k:Nat) (o:Int),O[k]? = some o->∃p0 o0,A1=some ⟨p0,o0,none⟩/\p0<w.heap.size/\w.cell? ⟨p0,o0+k,none⟩=some (.int .i64 o):=fun k o hq=>by
  obtain⟨p0,o0,e,hp,hc⟩:=hO (by have:=(List.getElem?_eq_some_iff.1 hq).1;omega);refine ⟨p0,o0,e,hp,?_⟩;have h9:=hc k o hq 0 _ rfl
  rwa [Nat.mul_one,Nat.add_zero]at h9
 have JV:=fun (q:NX) (hq:q∈X) A c (hv:q.v=.slice A q.x.cs.length c) (hA:At 1 AA w w.heap.size A q.x.cs) (hc:q.x.cs.length<=c) (hc2:c<=maxLen) W (hW:Below w.heap.size w W)=>OT { q.x with a:=9 } A c W (hA.bY hW) hc (Nat.le_trans hc hc2) ⟨⟨by dsimp only;omega,by dsimp only;omega⟩,(Uc q hq).ok.kb,(Uc q hq).ok.kc,(Uc q hq).ok.ke,(Uc q hq).ok.kl,(Uc q hq).ok.kk,(Uc q hq).ok.kcs⟩
 have hPk:=fun (c:Int) (h:y8 c) W=>qJ c 8 (by decide) h W
 clear hX hO
 go_enter Tryz.func4,Tryz.ntmps4
 go_wp2_with fail;refine XE.mono ?_;rintro _ w1 ⟨rfl,hb⟩;clear XE;have h0:KO w1.heap.size w 0 0 (.slice none 0 0) (.slice none 0 0) [] [] w1:=⟨hb,Nat.le_refl _,rfl,rfl,.inl ⟨rfl,rfl,rfl⟩,.inl ⟨rfl,rfl,rfl⟩,(fun x hx=>by cases hx),(fun x hx=>by cases hx)⟩
 have hw1w:=hb.size;clear hb
 go_upto_block 0 with fail
 go_cut [10,11,12,13,14] from 39 to 72 (fun s10 s11 s12 s13 s14 wx=>∃(k:Nat) (ls:List AX) (fr:List Int),k<=6/\KO w1.heap.size w k k s10 s11 ls fr wx)
 case rest =>
  obtain⟨k,ls,fr,hk6,hI⟩:=hcut;obtain ⟨s,hs⟩:=Int.eq_ofNat_of_zero_le (Sh.kK known (n:=256) (by decide)).1;obtain ⟨mo,hmo⟩:=Int.eq_ofNat_of_zero_le (Sh.kK more (n:=256) (by decide)).1;have hs6:s<256:=by have:=(Sh.kK known (n:=256) (by decide)).2;omega
  have hm6:mo<256:=by have:=(Sh.kK more (n:=256) (by decide)).2;omega
  have hP1:=fun W=>qJ known 256 (by decide) hk W
  have hP2:=fun W=>qJ more 256 (by decide) hm W
  rw[hs]at hP1;rw [hmo]at hP2;have hor:=or256 s mo hs6 hm6;have hor6:=Pv hs6 hm6;have hcf:=hI.counts rfl s mo;obtain ⟨hbl,-,hl1,hl2,hra,hrf,hmd,hf8⟩:=hI;subst hl1;rw [←hl2]at hrf;obtain ⟨A5,c5,rfl,hL,hl5,hc5⟩:=aI.at (p:=ls) (f:=axC) (fun _=>rfl) hra;obtain ⟨AF,cF,rfl,hF,hlF,hcF⟩:=aI.at (p:=fr) (f:=AA) (fun _=>rfl) hrf;rw [hl2]at hlF ⊢;have hl2K:=Kp.mk hl2;have hCl:=fun (s':Nat) K kc num W (hW:Below wc.heap.size wc W) (hK:At 1 lg W W.heap.size K (fF keysA s')) (hkc:8<=kc) (hnum:0<=num/\num<=99999999)=>SN (fF keysA s') K kc ls A5 c5 fr AF cF num 1 10 W hK (lH s') hkc (CS s') (hL.bY hW) hl5 (by omega) (fun x hx=>⟨(hmd x hx).ha.call hW,by obtain⟨kn,h9⟩:=(hmd x hx).mad;exact h9.fm⟩) (hF.bY hW) hl2 hlF hf8 hnum (by omega) (by omega) (hR.below (ah hbl hW))
  generalize wc=wq at *;have hE1:=Kp.mk hE;have hR1:=Kp.mk hR;clear hs hmo hk hm hE hR Uc hOw JV hPk hcells0 wK hra hrf;have h6:ls.length<=6:=hk6;clear hl2 hk6;obtain ⟨a,ha⟩:∃a,Kp (cnt (cC (fF keysA s) 9) (ls.zip fr) ls.length=a):=⟨_,⟨rfl⟩⟩
  obtain⟨b,hb⟩:∃b,Kp (cnt (cC (fF keysA (s ||| mo)) 9) (ls.zip fr) ls.length=b):=⟨_,⟨rfl⟩⟩
  have hCa:=fun K kc W hW hK hkc=>hCl s K kc 9 W hW hK hkc ⟨by omega,by omega⟩
  have hCb:=fun K kc W hW hK hkc=>hCl (s ||| mo) K kc 9 W hW hK hkc ⟨by omega,by omega⟩
  have hCn:=fun K kc W hW hK hkc=>hCl s K kc 10 W hW hK hkc ⟨by omega,by omega⟩
  rw[hcf.t9,ha.out]at hCa;rw [hcf.t9,hb.out]at hCb;rw [hcf.t10,hcf.c10]at hCn;obtain ⟨-,-,-,hab,han,hbn,hla⟩:=hcf;rw [ha.out]at han hla hab;rw [hb.out]at hab hbn
  unfold Gz at hCa hCb hCn
  have hab2:decide ((a:Int) > (b:Int))=false:=decide_eq_false (by omega);clear hCl;go_wp2_with fail;refine (hP1 _).mono ?_;rintro _ w2 ⟨rfl,hw⟩;clear hP1;go_wp2_with fail;refine (TI _).mono ?_;rintro _ w3 ⟨⟨K1,k1,rfl,hK1,hk1⟩,hb1⟩;replace hw:=ah hw hb1;have hKn:=CV K1 k1 s w3 hK1 hk1 (by omega);clear hb1 hK1;go_wp2_with fail;refine hKn.mono ?_;rintro _ w4 ⟨⟨KF,kF,rfl,hKF,hkF⟩,hb1⟩;replace hw:=ah hw hb1;clear hb1 hKn;go_wp2_with fail;refine (TI _).mono ?_;rintro _ w5 ⟨⟨K2,k2,rfl,hK2,hk2⟩,hb1⟩;replace hw:=ah hw hb1;replace hKF:=hKF.bY hb1;clear hb1;go_wp2_with fail;refine (hP2 _).mono ?_;rintro _ w6 ⟨rfl,hb1⟩;replace hw:=ah hw hb1;replace hKF:=hKF.bY hb1;have hKn:=CV K2 k2 (s ||| mo) w6 (hK2.bY hb1) hk2 (by omega);clear hb1 hP2 hK2;go_wp2_with fail;refine hKn.mono ?_;rintro _ w7 ⟨⟨KM,kM,rfl,hKM,hkM⟩,hb1⟩;replace hw:=ah hw hb1;replace hKF:=hKF.bY hb1;have hbn:=fP w7 (.cells #[.int .i64 1,.int .i64 10] 39);have BC:=Bx.mk w7 39 #[.int .i64 1,.int .i64 10];replace hw:=ah hw hbn;replace hKF:=hKF.bY hbn;replace hKM:=hKM.bY hbn;clear hb1 hbn hKn;go_upto_region 20 with fail;generalize w7.alloc (.cells #[.int .i64 1,.int .i64 10] 39)=w8 at *;have y0:=BC.cell 0 rfl;have y1:=BC.cell 1 rfl;have hA1:=hCa _ _ _ hw hKF hkF;go_wp2_with fail;refine hA1.mono ?_;rintro _ w9 ⟨rfl,hb1⟩;have hb2:=ah hb1 (fP w9 (.cells #[.int .i64 2,.int .i64 9,.int .i64 1,.int .i64 10,.int .i64 (ls.length:Nat),.int .i64 (a:Nat),.slice none 0 0,.int .i64 0,.int .i64 0,.int .i64 0] 72));have BA:=Bx.mk w9 72 #[.int .i64 2,.int .i64 9,.int .i64 1,.int .i64 10,.int .i64 (ls.length:Nat),.int .i64 (a:Nat),.slice none 0 0,.int .i64 0,.int .i64 0,.int .i64 0];replace hw:=ah hw hb2;replace hKF:=hKF.bY hb2;replace hKM:=hKM.bY hb2;replace BC:=BC.call hb2;clear hb1 hb2 y0 y1 hA1 hCa;go_upto_region 21 with fail;generalize w9.alloc (.cells #[.int .i64 2,.int .i64 9,.int .i64 1,.int .i64 10,.int .i64 (ls.length:Nat),.int .i64 (a:Nat),.slice none 0 0,.int .i64 0,.int .i64 0,.int .i64 0] 72)=wA at *;have y0:=BC.cell 0 rfl;have y1:=BC.cell 1 rfl;have hA1:=hCb _ _ _ hw hKM hkM;go_wp2_with fail;refine hA1.mono ?_;rintro _ wB ⟨rfl,hb1⟩;have hb2:=ah hb1 (fP wB (.cells #[.int .i64 2,.int .i64 9,.int .i64 1,.int .i64 10,.int .i64 (ls.length:Nat),.int .i64 (b:Nat),.slice none 0 0,.int .i64 0,.int .i64 0,.int .i64 0] 72));have BB:=Bx.mk wB 72 #[.int .i64 2,.int .i64 9,.int .i64 1,.int .i64 10,.int .i64 (ls.length:Nat),.int .i64 (b:Nat),.slice none 0 0,.int .i64 0,.int .i64 0,.int .i64 0];replace hw:=ah hw hb2;replace hKF:=hKF.bY hb2;replace BA:=BA.call hb2;replace BC:=BC.call hb2;clear hb1 hb2 y0 y1 hA1 hCb hKM;go_upto_region 22 with fail;generalize wB.alloc (.cells #[.int .i64 2,.int .i64 9,.int .i64 1,.int .i64 10,.int .i64 (ls.length:Nat),.int .i64 (b:Nat),.slice none 0 0,.int .i64 0,.int .i64 0,.int .i64 0] 72)=wC at *;have y0:=BC.cell 0 rfl;have y1:=BC.cell 1 rfl;have hA1:=hCn _ _ _ hw hKF hkF;go_wp2_with fail;refine hA1.mono ?_;rintro _ wD ⟨rfl,hb1⟩;have hb2:=ah hb1 (fP wD (.cells #[.int .i64 2,.int .i64 10,.int .i64 1,.int .i64 10,.int .i64 0,.int .i64 0,.slice none 0 0,.int .i64 0,.int .i64 0,.int .i64 0] 72));have BD:=Bx.mk wD 72 #[.int .i64 2,.int .i64 10,.int .i64 1,.int .i64 10,.int .i64 0,.int .i64 0,.slice none 0 0,.int .i64 0,.int .i64 0,.int .i64 0];replace hw:=ah hw hb2;replace hKF:=hKF.bY hb2;replace BA:=BA.call hb2;replace BB:=BB.call hb2;replace BC:=BC.call hb2;clear hb1 hb2 y0 y1 hA1 hCn;go_upto_region 23 with fail;generalize wD.alloc (.cells #[.int .i64 2,.int .i64 10,.int .i64 1,.int .i64 10,.int .i64 0,.int .i64 0,.slice none 0 0,.int .i64 0,.int .i64 0,.int .i64 0] 72)=wE at *;have y0:=BC.cell 0 rfl;have y1:=BC.cell 1 rfl;obtain ⟨x0,x1,x2,x3,x4,x5⟩:=BA.p6;have z4:=BB.cell 4 rfl;have z5:=BB.cell 5 rfl;have d4:=BD.cell 4 rfl;have d5:=BD.cell 5 rfl;go_wp2_with fail;clear y0 y1 x0 x1 x2 x3 x4 x5 z4 z5 d4 d5 BB BD hor hab2
  go_loopw [27,25,26,8] (fun s27 s25 s26 s8 wr=>∃i:Nat,i<=ls.length/\s27=.int .i64 i/\s25=.int .i64 (cnt (Ti (fF keysA s)) (ls.zip fr) i:Nat)/\s26=.int .i64 (cnt (cC (fF keysA s) 9) (ls.zip fr) i:Nat)/\s8=.bool false/\Below wE.heap.size wE wr) (fun s27 _ _ _ _=>ls.length-(intOf s27).toNat)
  case atStart=>exact⟨0,Nat.zero_le _,rfl,rfl,rfl,rfl,bH wE⟩
  case round =>
   obtain⟨i,hil,rfl,rfl,rfl,rfl,hbx⟩:=hrel;have hX:=ah hw hbx;by_cases hlt:i<ls.length
   · obtain⟨x,hx⟩:∃x,ls[i]? = some x:=⟨_,List.getElem?_eq_getElem hlt⟩
     obtain⟨f,hf⟩:∃f,fr[i]? = some f:=⟨_,List.getElem?_eq_getElem (by rw[hl2K.out];exact hlt)⟩
     have hz:(ls.zip fr)[i]? = some (x,f):=by rw[List.getElem?_zip_eq_some];exact⟨hx,hf⟩
     have hxm:=List.mem_of_getElem? hx;have hmx:=hmd x hxm;obtain ⟨A,c,hv,hA,hc⟩:=hmx.ha;obtain ⟨kn,ZG⟩:=hmx.mad;have hfm:=ZG.fm;have CY:=hmx.r9;have hCk:=FI (fF keysA s) KF kF x.d x.hs A c wr (hKF.bY hbx) (lH s) hkF (CS s) (hA.bY hX) hc hfm (hR1.out.below (ah hbl hX));obtain ⟨p5,o5,rfl,Qy,iR⟩:=hL (by omega);obtain ⟨pF,oF,rfl,hpF,yB⟩:=hF (by rw[hl2K.out];omega);obtain ⟨pK,oK,rfl,hpK,jm⟩:=(hKF.bY hbx) (by rw[lH];decide)
     obtain⟨p,off,rfl,hp,hcell⟩:=hA (by have:=hfm.len.1;omega);obtain ⟨g0,hg0⟩:∃g,x.hs[0]? = some g:=⟨_,List.getElem?_eq_getElem hfm.len.1⟩
     have hg:=hfm.hand 0 g0 hg0;obtain ⟨cN,hcN⟩:=Int.eq_ofNat_of_zero_le hg.1.1;have hcN8:cN<8:=by have:=hg.1.2;omega
     obtain⟨key,hkey⟩:∃key,(fF keysA s)[cN]? = some key:=⟨_,List.getElem?_eq_getElem (by rw[lH];exact hcN8)⟩
     have q0:wr.cell? ⟨p5,o5+i*5,none⟩=some (.int .i64 x.d.r):=(hX.cell (p:=⟨p5,o5+i*5,none⟩) Qy).trans (iR i x hx 0 _ rfl);have q1:=(hX.cell (p:=⟨p5,o5+i*5+1,none⟩) Qy).trans (iR i x hx 1 _ rfl);have q2:=(hX.cell (p:=⟨p5,o5+i*5+2,none⟩) Qy).trans (iR i x hx 2 _ rfl);have q3:=(hX.cell (p:=⟨p5,o5+i*5+3,none⟩) Qy).trans (iR i x hx 3 _ rfl);have q4:∀X,Below wq.heap.size wq X->X.cell? ⟨p5,o5+i*5+4,none⟩=some (.slice (some ⟨p,off,none⟩) x.hs.length c):=fun X Ih=>(Ih.cell (p:=⟨p5,o5+i*5+4,none⟩) Qy).trans (by rw[←hv];exact iR i x hx 4 _ rfl)
     have w0:∀X,Below wq.heap.size wq X->X.cell? ⟨p,off,none⟩=some (.int .i64 g0.c):=fun X Ih=>(Ih.cell (p:=⟨p,off,none⟩) hp).trans (by have h9:=hcell 0 g0 hg0 0 _ rfl;simpa using h9)
     have w1:∀X,Below wq.heap.size wq X->X.cell? ⟨p,off+1,none⟩=some (.int .i64 g0.l):=fun X Ih=>(Ih.cell (p:=⟨p,off+1,none⟩) hp).trans (by have h9:=hcell 0 g0 hg0 1 _ rfl;simpa using h9)
     have w2':∀X,Below wq.heap.size wq X->X.cell? ⟨p,off+2,none⟩=some (.string ⟨g0.s.toArray⟩):=fun X Ih=>(Ih.cell (p:=⟨p,off+2,none⟩) hp).trans (by have h9:=hcell 0 g0 hg0 2 _ rfl;simpa using h9)
     have zF:∀X,Below wq.heap.size wq X->X.cell? ⟨pF,oF+i,none⟩=some (.int .i64 f):=fun X Ih=>(Ih.cell (p:=⟨pF,oF+i,none⟩) hpF).trans (by have h9:=yB i f hf 0 _ rfl;simpa using h9)
     have zK:∀X,Below wr.heap.size wr X->X.cell? ⟨pK,oK+cN,none⟩=some (.string ⟨key.toArray⟩):=fun X Ih=>(Ih.cell (p:=⟨pK,oK+cN,none⟩) hpK).trans (by have h9:=jm cN key hkey 0 _ rfl;simpa using h9)
     have hl1:1<=x.hs.length:=hfm.len.1
     have hM1:Kp (cnt (cC (fF keysA s) 9) (ls.zip fr) (i+1)=cnt (cC (fF keysA s) 9) (ls.zip fr) i+if ((g0.c != f)&&(Gj (fF keysA s) x.d x.hs==3)) then 1 else 0):=⟨by
      rw[sZ hz]
      have e9:cC (fF keysA s) 9 (x,f)=((g0.c != f)&&(Gj (fF keysA s) x.d x.hs==3)):=by
       unfold cC Uk c0
       dsimp only;rw [CY,hg0];simp only[Option.map_some,Option.getD_some,bne,ne_eq];by_cases h1:Gj (fF keysA s) x.d x.hs=3 <;> by_cases h2:g0.c=f <;> simp[h1,h2]
      rw[e9]⟩
     have hL1:Kp (cnt (Ti (fF keysA s)) (ls.zip fr) (i+1)=cnt (Ti (fF keysA s)) (ls.zip fr) i+if ((g0.c != f)&&((g0.l==3)&&(key != []))) then 1 else 0):=⟨by
      rw[sZ hz]
      have e9:Ti (fF keysA s) (x,f)=((g0.c != f)&&((g0.l==3)&&(key != []))):=by
       unfold Ti c0 l0
       dsimp only;rw [hg0];simp only[Option.map_some,Option.getD_some];rw [hcN,Int.toNat_natCast,List.getD_eq_getElem?_getD,hkey];rfl
      rw[e9]⟩
     have lel:cnt (Ti (fF keysA s)) (ls.zip fr) i<=i:=cnt_le;have mol:cnt (cC (fF keysA s) 9) (ls.zip fr) i<=i:=cnt_le;obtain ⟨le1,hle1⟩:∃le1,Kp (cnt (Ti (fF keysA s)) (ls.zip fr) (i+1)=le1):=⟨_,⟨rfl⟩⟩
     obtain⟨mo1,hmo1⟩:∃mo1,Kp (cnt (cC (fF keysA s) 9) (ls.zip fr) (i+1)=mo1):=⟨_,⟨rfl⟩⟩
     rw[hle1.out]at hL1;rw [hmo1.out]at hM1;rw [hcN]at w0 hL1 hM1;generalize cnt (Ti (fF keysA s)) (ls.zip fr) i=le at *;generalize cnt (cC (fF keysA s) 9) (ls.zip fr) i=mst at *;generalize Gj (fF keysA s) x.d x.hs=lv at *;generalize ixF (DT (nN (fF keysA s) x.d x.hs) x.hs.length)=ix at *
     unfold eP at hCk
     have k4:=q4 wr hX;clear hz hx hf hxm hmx ZG hfm hg hg0 hcell yB iR jm hkey hA hv CY;go_wp2_with fail;refine hCk.mono ?_;rintro _ v4 ⟨rfl,hb1⟩;have hXv:=ah hX hb1;have k4:=q4 v4 hXv;have k0:=w0 v4 hXv;have k1:=w1 v4 hXv;have k2:=w2' v4 hXv;have XC:=ah hb1 (fP v4 (.cells #[.int .i64 (cN:Nat),.int .i64 g0.l,.string ⟨g0.s.toArray⟩] 70));have BH:=Bx.mk v4 70 #[.int .i64 (cN:Nat),.int .i64 g0.l,.string ⟨g0.s.toArray⟩];clear hCk q0 q1 q2 q3 hb1 q4 w0 w1 w2' hXv;go_upto_region 34 with fail;generalize v4.alloc (.cells #[.int .i64 (cN:Nat),.int .i64 g0.l,.string ⟨g0.s.toArray⟩] 70)=v5 at *;clear k4 k0 k1 k2
     have ways3:(((cN:Int) != f)=false/\Kp (le1=le)/\Kp (mo1=mst))∨(((cN:Int) != f)=true/\(lv==3)=false/\Kp (mo1=mst)/\(((g0.l==3)=false/\Kp (le1=le))∨((g0.l==3)=true/\(key != [])=false/\decide (key=[])=true/\(key==[])=true/\Kp (le1=le))∨((g0.l==3)=true/\(key != [])=true/\decide (key=[])=false/\(key==[])=false/\Kp (le1=le+1))))∨(((cN:Int) != f)=true/\(lv==3)=true/\Kp (mo1=mst+1)/\(((g0.l==3)=false/\Kp (le1=le))∨((g0.l==3)=true/\(key != [])=false/\decide (key=[])=true/\(key==[])=true/\Kp (le1=le))∨((g0.l==3)=true/\(key != [])=true/\decide (key=[])=false/\(key==[])=false/\Kp (le1=le+1)))):=by
      have h9:=hL1.out;have h8:=hM1.out
      have kk:((g0.l==3)=false/\(((g0.l==3)&&(key != []))=false))∨((g0.l==3)=true/\(key != [])=false/\decide (key=[])=true/\(key==[])=true/\(((g0.l==3)&&(key != []))=false))∨((g0.l==3)=true/\(key != [])=true/\decide (key=[])=false/\(key==[])=false/\(((g0.l==3)&&(key != []))=true)):=by
       by_cases hke:key=[] <;> cases (g0.l==3) <;> simp[hke]
      generalize ((g0.l==3)&&(key != []))=bb at h9 kk
      cases h1:((cN:Int) != f) with
      | false=>rw[h1]at h9 h8;exact .inl ⟨rfl,⟨by simpa using h9⟩,⟨by simpa using h8⟩⟩
      | true =>
       rw[h1]at h9 h8
       cases h2:(lv==3) with
       | false =>
        rw[h2]at h8;refine .inr (.inl ⟨rfl,rfl,⟨by simpa using h8⟩,?_⟩)
        rcases kk with ⟨a1,a2⟩|⟨a1,a2,a3,a4,a5⟩|⟨a1,a2,a3,a4,a5⟩
        · exact .inl ⟨a1,⟨by rw[a2]at h9;simpa using h9⟩⟩
        · exact .inr (.inl ⟨a1,a2,a3,a4,⟨by rw[a5]at h9;simpa using h9⟩⟩)
        · exact .inr (.inr ⟨a1,a2,a3,a4,⟨by rw[a5]at h9;simpa using h9⟩⟩)
       | true =>
        rw[h2]at h8;refine .inr (.inr ⟨rfl,rfl,⟨by simpa using h8⟩,?_⟩)
        rcases kk with ⟨a1,a2⟩|⟨a1,a2,a3,a4,a5⟩|⟨a1,a2,a3,a4,a5⟩
        · exact .inl ⟨a1,⟨by rw[a2]at h9;simpa using h9⟩⟩
        · exact .inr (.inl ⟨a1,a2,a3,a4,⟨by rw[a5]at h9;simpa using h9⟩⟩)
        · exact .inr (.inr ⟨a1,a2,a3,a4,⟨by rw[a5]at h9;simpa using h9⟩⟩)
     clear hL1 hM1;have zF1:=fun d os=>zF (Sort.grow (redrawn v5 d) os) (ah (ah hX XC) (below_regrown v5 d os))
     have hh0:=fun d os=>(BH.again d os).cell 0 (v:=.int .i64 (cN:Nat)) rfl
     have hh1:=fun d os=>(BH.again d os).cell 1 (v:=.int .i64 g0.l) rfl
     rcases ways3 with ⟨t1,hle,Y6⟩|⟨t1,t2,Y6,⟨t3,hle⟩|⟨t3,t4,t5,t6,hle⟩|⟨t3,t4,t5,t6,hle⟩⟩|⟨t1,t2,Y6,⟨t3,hle⟩|⟨t3,t4,t5,t6,hle⟩|⟨t3,t4,t5,t6,hle⟩⟩
     all_goals
      refine wp_region_quiet_below (by kernel_rfl) (by kernel_rfl) ?_
      repeat (go_big_quiet_step (fail))
      refine wpQuiet_nil ?_;rintro _ ⟨qq,rfl⟩;have hbq:=below_regrown v5 qq.d qq.os;have Zq:=ah XC hbq;have WL:=BH.call hbq;generalize Sort.grow (redrawn v5 qq.d) qq.os=v6 at *;go_upto_region 36 with fail;have zF2:=fun d os=>zF (Sort.grow (redrawn v6 d) os) (ah (ah hX Zq) (below_regrown v6 d os))
      have zK2:=fun d os=>zK (Sort.grow (redrawn v6 d) os) (ah Zq (below_regrown v6 d os))
      have jj0:=fun d os=>(WL.again d os).cell 0 (v:=.int .i64 (cN:Nat)) rfl
      have jj1:=fun d os=>(WL.again d os).cell 1 (v:=.int .i64 g0.l) rfl
      refine wp_region_quiet_below (by kernel_rfl) (by kernel_rfl) ?_
      repeat (go_big_quiet_step (fail))
      refine wpQuiet_nil ?_;rintro _ ⟨qr,rfl⟩;have XD:=ah hbx (ah Zq (below_regrown v6 qr.d qr.os));obtain rfl:=hle.out;obtain rfl:=Y6.out;go_wp2_with fail;refine ⟨⟨_,_,_,_,⟨i+1,by omega,?_⟩,rfl,rfl,rfl,rfl⟩,by simp[intOf];omega⟩;rw [hle1.out,hmo1.out];first|exact⟨by go_num,by go_num,by go_num,rfl,XD⟩|exact⟨by go_num,by go_num,by go_num,rfl⟩|exact⟨by go_num,by go_num,by go_num⟩|simp[XD]
   · obtain rfl:i=ls.length:=by omega
     obtain⟨le,hle⟩:∃le,Kp (cnt (Ti (fF keysA s)) (ls.zip fr) ls.length=le):=⟨_,⟨rfl⟩⟩
     rw[ha.out,hle.out];rw [hle.out]at hla;obtain ⟨qa,qb,lq⟩:=LQ.ex (Tb.Pq ls.length a 1 (10-1));have ZL:=fun W (hW:Below wq.heap.size wq W)=>kZ ls.length a 1 10 qa qb W (by omega) (by omega) (by omega) (by omega) (by omega) (by omega) lq (hE1.out.below (ah hbl hW))
     have hBd:=fun W (hW:Below wq.heap.size wq W)=>oL 9 1 10 (ls.length:Nat) (a:Nat) none 0 0 0 0 0 qa qb W rfl (fun W' h'=>ZL W' (ah hW h'))
     have Gs:=BA.call hbx;have BC':=BC.call hbx;have x0:=Gs.cell 0 rfl;have x1:=Gs.cell 1 rfl;have x2:=Gs.cell 2 rfl;have x3:=Gs.cell 3 rfl;have x4:=Gs.cell 4 rfl;have x5:=Gs.cell 5 rfl;have x6:=Gs.cell 6 rfl;have x7:=Gs.cell 7 rfl;have x8:=Gs.cell 8 rfl;have x9:=Gs.cell 9 rfl;have hBd1:=hBd _ hX;have hge:decide ((a:Int) ≥ (le:Int))=true:=decide_eq_true (by omega);go_wp2_with fail;refine hBd1.mono ?_;rintro _ v1 ⟨rfl,hb1⟩;have hb2:=ah hb1 (fP v1 (.cells #[.string ⟨qa.toArray⟩,.string ⟨qb.toArray⟩] 77));have BR1:=Bx.mk v1 77 #[.string ⟨qa.toArray⟩,.string ⟨qb.toArray⟩];replace hX:=ah hX hb2;replace Gs:=Gs.call hb2;replace BC':=BC'.call hb2;clear x0 x1 x2 x3 x4 x5 x6 x7 x8 x9 hb1 hb2 hBd1 hBd;go_upto_region 39 with fail;generalize v1.alloc (.cells #[.string ⟨qa.toArray⟩,.string ⟨qb.toArray⟩] 77)=v2 at *;have x5:=Gs.cell 5 rfl;have y0:=BC'.cell 0 rfl;have y1:=BC'.cell 1 rfl;have hBi1:=ZL _ hX;go_wp2_with fail;refine hBi1.mono ?_;rintro _ v3 ⟨rfl,hb1⟩;have hb2:=ah hb1 (fP v3 (.cells #[.string ⟨qa.toArray⟩,.string ⟨qb.toArray⟩] 77));have TU:=Bx.mk v3 77 #[.string ⟨qa.toArray⟩,.string ⟨qb.toArray⟩];replace hX:=ah hX hb2;replace Gs:=Gs.call hb2;replace BR1:=BR1.call hb2;clear x5 y0 y1 hb1 hb2 hBi1 ZL;go_upto_region 40 with fail;generalize v3.alloc (.cells #[.string ⟨qa.toArray⟩,.string ⟨qb.toArray⟩] 77)=v4 at *;have x5:=Gs.cell 5 rfl;have r0:=BR1.cell 0 rfl;have r1:=BR1.cell 1 rfl;have s0:=TU.cell 0 rfl;have s1:=TU.cell 1 rfl;go_wp2_with fail;go_ret;exact ⟨rfl,ah hbl hX⟩
 go_wp2_with fail
 go_loopw [12,10,11] (fun s12 s10 s11 wr=>∃(k:Nat) (ls:List AX) (fr:List Int),k<=X.length/\k<=6/\s12=.int .i64 k/\KO w1.heap.size w k k s10 s11 ls fr wr) (fun s12 _ _ _=>X.length-(intOf s12).toNat)
 case atStart=>exact⟨0,[],[],Nat.zero_le _,Nat.zero_le _,rfl,h0⟩
 case round =>
  clear h0;obtain ⟨k,ls,fr,hkl,hk6,rfl,hI⟩:=hrel
  have ways:(decide ((k:Int)<(X.length:Int))=true/\decide ((k:Int)<6)=true/\k<X.length/\k<6)∨(decide ((k:Int)<(X.length:Int))=true/\decide ((k:Int)<6)=false/\k<X.length/\¬k<6)∨(decide ((k:Int)<(X.length:Int))=false/\¬k<X.length):=by
   by_cases h1:k<X.length
   · by_cases h2:k<6
     · exact .inl ⟨decide_eq_true (by omega),decide_eq_true (by omega),h1,h2⟩
     · exact .inr (.inl ⟨decide_eq_true (by omega),decide_eq_false (by omega),h1,h2⟩)
   · exact .inr (.inr ⟨decide_eq_false (by omega),h1⟩)
  rcases ways with ⟨t0,t1,hlt,QG⟩|ways
  · obtain⟨q,hq⟩:∃q,X[k]? = some q:=⟨_,List.getElem?_eq_getElem hlt⟩
    have hqm:=List.mem_of_getElem? hq;obtain ⟨p0,o0,rfl,hp0,hc0⟩:=hcells0 k q hq;obtain ⟨hqok,A,c,hv,hA,hcn,hcm⟩:=Uc q hqm;have q0:=(hI.bl.cell (p:=⟨p0,o0+k*14,none⟩) hp0).trans (hc0 0 _ rfl);have q1:=(hI.bl.cell (p:=⟨p0,o0+k*14+1,none⟩) hp0).trans (hc0 1 _ rfl);have q2:=(hI.bl.cell (p:=⟨p0,o0+k*14+2,none⟩) hp0).trans (hc0 2 _ rfl);have q3:=(hI.bl.cell (p:=⟨p0,o0+k*14+3,none⟩) hp0).trans (hc0 3 _ rfl);have q4:=(hI.bl.cell (p:=⟨p0,o0+k*14+4,none⟩) hp0).trans (hc0 4 _ rfl);have q5:=(hI.bl.cell (p:=⟨p0,o0+k*14+5,none⟩) hp0).trans (hc0 5 _ rfl);have q6:=(hI.bl.cell (p:=⟨p0,o0+k*14+6,none⟩) hp0).trans (hc0 6 _ rfl);have q7:=(hI.bl.cell (p:=⟨p0,o0+k*14+7,none⟩) hp0).trans (hc0 7 _ rfl);have q8:=(hI.bl.cell (p:=⟨p0,o0+k*14+8,none⟩) hp0).trans (hc0 8 _ rfl);have q9:=(hI.bl.cell (p:=⟨p0,o0+k*14+9,none⟩) hp0).trans (hc0 9 _ rfl);have q10:=(hI.bl.cell (p:=⟨p0,o0+k*14+10,none⟩) hp0).trans (hc0 10 _ rfl);have q11:=(hI.bl.cell (p:=⟨p0,o0+k*14+11,none⟩) hp0).trans (hc0 11 _ rfl);have q12:=(hI.bl.cell (p:=⟨p0,o0+k*14+12,none⟩) hp0).trans (hc0 12 _ rfl);have q13:=(hI.bl.cell (p:=⟨p0,o0+k*14+13,none⟩) hp0).trans (hc0 13 _ rfl);rw [hv]at q5;have ZG:=JV q hqm A c hv hA hcn hcm;obtain ⟨x,v⟩:=q;dsimp only at *;subst hv;obtain ⟨a,b,c',e,lv,k0,k1,k2,k3,k4,k5,k6,k7,cs⟩:=x;dsimp only at *;clear hqok Uc hq hqm hc0 hA JV hcells0
    unfold Gi at ZG
    dsimp only at ZG;have BN:=Bx.mk wr 26 #[.int .i64 a,.int .i64 b,.int .i64 c',.int .i64 e,.int .i64 lv,.slice A cs.length c,.int .i64 k0,.int .i64 k1,.int .i64 k2,.int .i64 k3,.int .i64 k4,.int .i64 k5,.int .i64 k6,.int .i64 k7];have hst:=hI.call (fP wr (.cells #[.int .i64 9,.int .i64 b,.int .i64 c',.int .i64 e,.int .i64 lv,.slice A cs.length c,.int .i64 k0,.int .i64 k1,.int .i64 k2,.int .i64 k3,.int .i64 k4,.int .i64 k5,.int .i64 k6,.int .i64 k7] 26));have Jl:=Bx.mk wr 26 #[.int .i64 9,.int .i64 b,.int .i64 c',.int .i64 e,.int .i64 lv,.slice A cs.length c,.int .i64 k0,.int .i64 k1,.int .i64 k2,.int .i64 k3,.int .i64 k4,.int .i64 k5,.int .i64 k6,.int .i64 k7];have n0:=BN.cell 0 rfl;have n0f:=BN.frozen 0;clear hI;go_upto_region 11 with fail;generalize wr.alloc (.cells #[.int .i64 9,.int .i64 b,.int .i64 c',.int .i64 e,.int .i64 lv,.slice A cs.length c,.int .i64 k0,.int .i64 k1,.int .i64 k2,.int .i64 k3,.int .i64 k4,.int .i64 k5,.int .i64 k6,.int .i64 k7] 26)=W2 at *;clear n0 n0f BN q0 q1 q2 q3 q4 q5 q6 q7 q8 q9 q10 q11 q12 q13;have n0:=Jl.cell 0 rfl;have n1:=Jl.cell 1 rfl;have n2:=Jl.cell 2 rfl;have n3:=Jl.cell 3 rfl;have n4:=Jl.cell 4 rfl;have n5:=Jl.cell 5 rfl;have n6:=Jl.cell 6 rfl;have n7:=Jl.cell 7 rfl;have n8:=Jl.cell 8 rfl;have n9:=Jl.cell 9 rfl;have n10:=Jl.cell 10 rfl;have n11:=Jl.cell 11 rfl;have n12:=Jl.cell 12 rfl;have n13:=Jl.cell 13 rfl;have hMd1:=ZG W2 hst.bl;have CY:Kp ((⟨9,b,c',e,lv,k0,k1,k2,k3,k4,k5,k6,k7,cs⟩:lY).dl.r=9):=⟨rfl⟩
    generalize (⟨9,b,c',e,lv,k0,k1,k2,k3,k4,k5,k6,k7,cs⟩:lY).dl=d at *;generalize (⟨9,b,c',e,lv,k0,k1,k2,k3,k4,k5,k6,k7,cs⟩:lY).EM=kn at *;go_wp2_with fail;refine hMd1.mono ?_;rintro _ w4 ⟨⟨hs,A',c4,rfl,hMA,hMad⟩,hb4⟩;clear n0 n1 n2 n3 n4 n5 n6 n7 n8 n9 n10 n11 n12 n13 Jl ZG hMd1;have hs2:=hst.sz;have hw1:=hst.bl;replace hst:=hst.call hb4;have hx4:TQ w1.heap.size ⟨d,hs,.slice A' hs.length c4⟩ w4:=⟨CY.out,⟨kn,hMad⟩,hMA.mono hs2,rfl⟩
    have hbn:=fP w4 (.cells #[.int .i64 d.r,.int .i64 d.d,.int .i64 d.t,.int .i64 d.n,.slice A' hs.length c4] 32);have hsrc:=PK (v:=.slice A' hs.length c4) rfl (Bx.mk w4 32 #[.int .i64 d.r,.int .i64 d.d,.int .i64 d.t,.int .i64 d.n,.slice A' hs.length c4]);have hst5:=Kp.mk (hst.call hbn);have hx5:=Kp.mk (hx4.call hbn);have hra:=hst5.out.ra;have hB5:=hst5.out.sz;have hwB:Kp (w.heap.size<=w1.heap.size):=⟨hw1w⟩
    unfold eP
    clear hst hx4 hbn hMA hMad hw1 hb4;go_upto_region 13 with (at_builtin;refine jD rfl (.tmp 55) (.tmp 58) 75 32 rfl ai az 5 w1.heap.size k 1 (ls.flatMap axC) [.int .i64 d.r,.int .i64 d.d,.int .i64 d.t,.int .i64 d.n,.slice A' hs.length c4] u10 (.slice (some ⟨w4.heap.size,0,none⟩) 1 1) yU hai haz has hazs rfl rfl hra hB5 hsrc (by decide) (by unfold maxLen;omega) (by rw[haby];omega) ?_;intro v10 w5 p1 p2 p3;replace p1:=Kp.mk p1;replace p2:=Kp.mk p2;replace p3:=Kp.mk p3)
    have Gp:=hst5.out.more hwB.out hx5.out p1.out p2.out p3.out;clear hst5 hx5 hra hB5 hsrc p1 p2 p3 hs2
    obtain⟨n,hn64,ways2⟩:∃n,y8 n/\((decide ((k:Int)<(O.length:Int))=true/\k<O.length/\∃p1 o1,A1=some ⟨p1,o1,none⟩/\w5.cell? ⟨p1,o1+k,none⟩=some (.int .i64 n))∨(decide ((k:Int)<(O.length:Int))=false/\¬k<O.length/\n=0)):=by
     by_cases hko:k<O.length
     · obtain⟨o,ho⟩:∃o,O[k]? = some o:=⟨_,List.getElem?_eq_getElem hko⟩
       obtain⟨p1,o1,e1,hp1,hc1⟩:=wK k o ho;exact ⟨o,hOw o (List.mem_of_getElem? ho),.inl ⟨decide_eq_true (by omega),hko,p1,o1,e1,(Gp.bl.cell (p:=⟨p1,o1+k,none⟩) hp1).trans hc1⟩⟩
     · exact⟨0,⟨by omega,by omega⟩,.inr ⟨decide_eq_false (by omega),hko,rfl⟩⟩
    have hPk1:=hPk n hn64;have hfb:=Sh.kK n (n:=8) (by decide);clear wK hOw hPk
    rcases ways2 with ⟨t2,hko,p1,o1,rfl,hc1⟩|⟨t2,hko,rfl⟩
    all_goals
     generalize hfq:Sh.pk _ 8=f at *;clear hfq;go_wp2_with fail;refine (hPk1 _).mono ?_;rintro _ w6 ⟨rfl,hb6⟩;have hbn:=fP w6 (.cells #[.int .i64 f] 3);have hsrc:=PI (Bx.mk w6 3 #[.int .i64 f]);have YV:=Kp.mk ((Gp.call hb6).call hbn);have hrf:=YV.out.rf;have hB7:=YV.out.sz;clear Gp hb6 hbn hPk1
     go_wp2_with (at_builtin;refine jD rfl (.tmp 68) (.tmp 71) 23 3 rfl bi (.int .i64 0) 1 w1.heap.size k 1 (fr.flatMap AA) (AA f) u11 (.slice (some ⟨w6.heap.size,0,none⟩) 1 1) mP hbi hbz hbs rfl rfl rfl hrf hB7 hsrc (by decide) (by unfold maxLen;omega) (by rw[hbb];omega) ?_;intro v11 w7 p1 p2 p3;replace p1:=Kp.mk p1;replace p2:=Kp.mk p2;replace p3:=Kp.mk p3)
     exact⟨⟨k+1,ls++[⟨d,hs,.slice A' hs.length c4⟩],fr++[f],by omega,by omega,by go_num,YV.out.from hwB.out ⟨hfb.1,by have:=hfb.2;omega⟩ p1.out p2.out p3.out⟩,by simp[intOf];omega⟩
  · clear Uc hOw JV hPk hcells0 wK hE hR hk hm
    rcases ways with ⟨t0,t1,hkx,hk6'⟩|⟨t0,hkx⟩
    all_goals
     go_wp2_with fail
     go_meet
     exact⟨k,ls,fr,hk6,hI⟩
end Go.Proofs.YtohgjenaclfegaaGreatDoor

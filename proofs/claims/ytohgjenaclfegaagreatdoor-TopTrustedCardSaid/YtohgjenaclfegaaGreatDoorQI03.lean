import Derived.Test.YtohgjenaclfegaaGreatDoorQI02
set_option linter.unusedVariables false
set_option linter.unusedSimpArgs false
set_option maxRecDepth 100000
set_option maxHeartbeats 8000000
namespace Go.Proofs.YtohgjenaclfegaaGreatDoor
open Go.RowKit Go.Shelf
theorem kL {z:Int} (h:Ig.fits z):(Lib.itoa z).length<=1000000:=by
 have h1:=(Ig.pV z).1 h;have h2:=Ig.kM z.natAbs;by_cases hz:0<=z
 · rw[Ig.itoa_nonneg hz];omega
 · rw[Ig.itoa_neg (by omega),List.length_cons];omega
theorem xX {fn:Func} {t u s:Tmp} {g g':Nat} {n n':Bool} {v v':Value} {A A':Option Addr} {l l' c c':Nat} (hv:v=.slice A l c) (hv':v'=.slice A' l' c') (h:fn.results=#[.cell t 299,.cell u 299,.tmp s]) (tmps:Array Value) (w:World) (ht:tmps.getD t undef=.pointer (some ⟨g,0,none⟩)) (hu:tmps.getD u undef=.pointer (some ⟨g',0,none⟩))
 (hB:Bx w g 299 #[.bool n,v]) (hB':Bx w g' 299 #[.bool n',v']) :
 (results fn tmps).run Tryz.prog w=.ok (.tuple #[.agg #[.bool n,v],.agg #[.bool n',v'],tmps.getD s undef]) w:=by
 subst hv hv';have h0:=hB.cell 0 rfl;have h1:=hB.cell 1 rfl;have h0':=hB'.cell 0 rfl;have h1':=hB'.cell 1 rfl;have ht':tmps[t]?.getD undef=.pointer (some ⟨g,0,none⟩):=by simpa using ht
 have hu':tmps[u]?.getD undef=.pointer (some ⟨g',0,none⟩):=by simpa using hu
 simp only[results,h];simp [go_sem,ht',hu',h0,h0',h1,h1',loadVar]
theorem Qi {W:World} {g o:Nat} {neg:Bool} {A A':Option Addr} {n c B:Nat} {p:List Int} (hB:Bx W g 299 #[.bool neg,.slice A n c]) (h:At 1 aV W B A' p) (u:Value):At 1 aV (W.setCell ⟨g,o,none⟩ u) B A' p:=fun h0=>by
 obtain⟨b,off,e,hb,hc⟩:=h h0
 have hne:b≠g:=by
  rintro rfl;have h1:=hc 0 p[0] (List.getElem?_eq_getElem h0) 0 (.int .i64 p[0]) rfl
  unfold Bx at hB
  rw[World.cell?,hB]at h1
  rcases Nat.eq_zero_or_pos off with h2|h2
  · subst h2;simp at h1
  · obtain⟨k,rfl⟩:=Nat.exists_eq_succ_of_ne_zero (Nat.ne_of_gt h2)
    rcases k with _|k <;> simp at h1
 exact⟨b,off,e,hb,fun i c hi j v hj=>(jg (Below.heap_setCell W ⟨g,o,none⟩ u b hne)).trans (hc i c hi j v hj)⟩
theorem dK {W:World} {g o:Nat} {neg:Bool} {A:Option Addr} {n c a:Nat} {v:Value} (hB:Bx W g 299 #[.bool neg,.slice A n c]) (h:aA W a v) (u:Value):aA (W.setCell ⟨g,o,none⟩ u) a v:=by
 obtain⟨A',cap,h1,h2,h3,h4⟩:=h.out;exact ⟨A',cap,h1,(Qi hB h2 u).more (KeepsOthers.setCell W _ u).size,h3,h4⟩
theorem both_any (x y:Int) (w:World) (hx:Ig.fits x) (hy:Ig.fits y) :
 Calls Tryz.prog 214 #[.string ⟨(Lib.itoa x).toArray⟩,.string ⟨(Lib.itoa y).toArray⟩] w fun e w'=>∃u v,e=.returned (.tuple #[.agg #[.bool (decide (x<0)),u],.agg #[.bool (decide (y<0)),v],.bool true])/\aA w' x.natAbs u/\aA w' y.natAbs v/\Below w.heap.size w w':=by
 have hb0:=bNew (aG w (.cells #[.bool false,.slice none 0 0] 299)) (.cells #[.bool false,.slice none 0 0] 299);have B1:=(Bx.mk w 299 #[.bool false,.slice none 0 0]).new (.cells #[.bool false,.slice none 0 0] 299);have B2:=Bx.mk (w.alloc (.cells #[.bool false,.slice none 0 0] 299)) 299 #[.bool false,.slice none 0 0];have hsz:((w.alloc (.cells #[.bool false,.slice none 0 0] 299)).alloc (.cells #[.bool false,.slice none 0 0] 299)).heap.size=w.heap.size+2:=by rw[aj,aj]
 rw[aj]at B2;have hV1:=fun w0=>lK (Lib.itoa x) (kL hx) w0
 have hV2:=fun w0=>lK (Lib.itoa y) (kL hy) w0
 rw[Ig.jX hx]at hV1;rw [Ig.jX hy]at hV2;have hP1:=fun w0=>parse_any x w0 hx
 have hP2:=fun w0=>parse_any y w0 hy
 generalize decide (x<0)=nx at *;generalize decide (y<0)=ny at *;generalize x.natAbs=ax at *;generalize y.natAbs=ay at *;generalize Lib.itoa x=sx at *;generalize Lib.itoa y=sy at *;clear hx hy
 go_enter Tryz.func214,Tryz.ntmps214
 go_wp2_with fail;generalize ((w.alloc (.cells #[.bool false,.slice none 0 0] 299)).alloc (.cells #[.bool false,.slice none 0 0] 299))=W0 at *;refine (hV1 _).mono ?_;rintro _ w1 ⟨rfl,hb1⟩;go_wp2_with fail;refine (hV2 _).mono ?_;rintro _ w2 ⟨rfl,hb2⟩;go_wp2_with fail;refine (hP1 _).mono ?_;rintro _ w3 ⟨u,rfl,hu,hb3⟩;go_wp2_with fail;refine (hP2 _).mono ?_;rintro _ w4 ⟨v,rfl,hv,hb4⟩;replace hu:=hu.call hb4;replace hb1:=ah (ah (ah hb1 hb2) hb3) hb4;clear hV1 hV2 hP1 hP2 hb2 hb3 hb4;obtain ⟨A1,c1,rfl,-⟩:=id hu.out;obtain ⟨A2,c2,rfl,-⟩:=id hv.out;replace B1:=B1.call hb1;replace B2:=B2.call hb1;have U1:=B1.set 0 (.bool nx);have u1:=dK (o:=0) B1 hu (.bool nx);have v1:=dK (o:=0) B1 hv (.bool nx);have u2:=dK (o:=1) U1 u1 (.slice A1 (Ig.grp ax).length c1);have v2:=dK (o:=1) U1 v1 (.slice A1 (Ig.grp ax).length c1);have B1s:=U1.set 1 (.slice A1 (Ig.grp ax).length c1);have B2r:=(B2.far (p:=⟨w.heap.size,0,none⟩) (by simp) (.bool nx)).far (p:=⟨w.heap.size,1,none⟩) (by simp) (.slice A1 (Ig.grp ax).length c1);have B2a:=B2r.set 0 (.bool ny);have u3:=dK (o:=0) B2r u2 (.bool ny);have v3:=dK (o:=0) B2r v2 (.bool ny);have u4:=dK (o:=1) B2a u3 (.slice A2 (Ig.grp ay).length c2);have v4:=dK (o:=1) B2a v3 (.slice A2 (Ig.grp ay).length c2);have B2s:=B2a.set 1 (.slice A2 (Ig.grp ay).length c2);have B1t:=(B1s.far (p:=⟨w.heap.size+1,0,none⟩) (by simp) (.bool ny)).far (p:=⟨w.heap.size+1,1,none⟩) (by simp) (.slice A2 (Ig.grp ay).length c2);have hbs:=aQ (aQ (aQ (aQ (ah hb0 hb1) (p:=⟨w.heap.size,0,none⟩) (Nat.le_refl _) (.bool nx)) (p:=⟨w.heap.size,1,none⟩) (Nat.le_refl _) (.slice A1 (Ig.grp ax).length c1)) (p:=⟨w.heap.size+1,0,none⟩) (Nat.le_succ _) (.bool ny)) (p:=⟨w.heap.size+1,1,none⟩) (Nat.le_succ _) (.slice A2 (Ig.grp ay).length c2);have c0:=B1.cell 0 rfl;have c1:=B1.cell 1 rfl;have d0:=B2.cell 0 rfl;have d1:=B2.cell 1 rfl;have f0:=B1.frozen 0;have f1:=B1.frozen 1;have g0:=B2.frozen 0;have g1:=B2.frozen 1;clear u1 u2 u3 v1 v2 v3 hu hv;generalize (Ig.grp ax).length=lx at *;generalize (Ig.grp ay).length=ly at *;go_wp2;refine bodyPost_ret (xX rfl rfl rfl _ _ rfl rfl B1t B2s) rfl ⟨_,_,rfl,u4,v4,hbs⟩
theorem Qg {a b:Nat} (h:b<=a):decide (Ig.eH a b ≥ 0)=true:=by
 rcases Nat.lt_or_ge b a with h1|h1
 · rw[Ig.kP h1];rfl
 · rw[show a=b by omega,Ig.pX];rfl
theorem CV (n1:Bool) (a b:Nat) (u v:Value) (w:World) (h1:aA w a u) (h2:aA w b v) (la:(Ig.grp a).length<=80000) (lb:(Ig.grp b).length<=80000) :
 Calls Tryz.prog 216 #[.agg #[.bool n1,u],.agg #[.bool n1,v]] w fun e w'=>∃r,e=.returned (.agg #[.bool n1,r])/\aA w' (a+b) r/\Below w.heap.size w w':=by
 have hb0:=bNew (bNew (aG w (.cells #[.bool n1,u] 299)) (.cells #[.bool n1,v] 299)) (.cells #[.bool false,.slice none 0 0] 299);have B1:=((Bx.mk w 299 #[.bool n1,u]).new (.cells #[.bool n1,v] 299)).new (.cells #[.bool false,.slice none 0 0] 299);have B2:=(Bx.mk (w.alloc (.cells #[.bool n1,u] 299)) 299 #[.bool n1,v]).new (.cells #[.bool false,.slice none 0 0] 299);have B3:=Bx.mk ((w.alloc (.cells #[.bool n1,u] 299)).alloc (.cells #[.bool n1,v] 299)) 299 #[.bool false,.slice none 0 0];have hsz:(((w.alloc (.cells #[.bool n1,u] 299)).alloc (.cells #[.bool n1,v] 299)).alloc (.cells #[.bool false,.slice none 0 0] 299)).heap.size=w.heap.size+3:=by rw[aj,aj,aj]
 rw[aj]at B2;rw [aj,aj]at B3;have h1':=h1.call hb0;have h2':=h2.call hb0;obtain ⟨A1,c1,rfl,-⟩:=id h1.out;obtain ⟨A2,c2,rfl,-⟩:=id h2.out;clear h1 h2;generalize hla:(Ig.grp a).length=la' at *;generalize hlb:(Ig.grp b).length=lb' at *;replace hla:=Kp.mk hla;replace hlb:=Kp.mk hlb
 go_enter Tryz.func216,Tryz.ntmps216
 go_wp2_with fail;obtain ⟨W0,hW0⟩:∃W0,W0=(((w.alloc (.cells #[.bool n1,.slice A1 la' c1] 299)).alloc (.cells #[.bool n1,.slice A2 lb' c2] 299)).alloc (.cells #[.bool false,.slice none 0 0] 299)):=⟨_,rfl⟩
 rw[←hW0]at hb0 B1 B2 B3 hsz h1' h2' ⊢;clear hW0;have q10:=fun w1 (hb1:Below W0.heap.size W0 w1)=>(hb1.cell (p:=⟨w.heap.size,0,none⟩) B1.lt).trans (B1.cell 0 rfl)
 have q11:=fun w1 (hb1:Below W0.heap.size W0 w1)=>(hb1.cell (p:=⟨w.heap.size,1,none⟩) B1.lt).trans (B1.cell 1 rfl)
 have Dk:=fun w1 (hb1:Below W0.heap.size W0 w1)=>(hb1.cell (p:=⟨w.heap.size+1,0,none⟩) B2.lt).trans (B2.cell 0 rfl)
 have Dj:=fun w1 (hb1:Below W0.heap.size W0 w1)=>(hb1.cell (p:=⟨w.heap.size+1,1,none⟩) B2.lt).trans (B2.cell 1 rfl)
 refine au [ak (.pointer (some ⟨w.heap.size,0,none⟩)),ak (.bool n1),ak (.pointer (some ⟨w.heap.size,1,none⟩)),ak (.slice A1 la' c1),ak (.pointer (some ⟨w.heap.size+1,1,none⟩)),ak (.slice A2 lb' c2),(fun x W=>aA W (a+b) x),(fun x W=>∃r,x=.agg #[.bool n1,r]/\aA W (a+b) r)] 8 42 (by kernel_rfl) rfl rfl (by kernel_rfl) ?_ ?_ ?_
 · simp only[aY]
   and_intros <;> first|exact aI _|exact fun v w w' h hb=>h.call hb|exact fun v w w' ⟨r,e,h⟩ hb=>⟨r,e,h.call hb⟩|trivial
 · simp only[Users,List.take,List.length];refine ⟨?_,?_,?_,?_,?_,?_,?_,?_,trivial⟩;all_goals (intro vs w1 hb1 hd;have p10:=q10 w1 hb1;have p11:=q11 w1 hb1;have Zj:=Dk w1 hb1;have Zi:=Dj w1 hb1;have hN1:=h1'.call hb1;have E5:=h2'.call hb1;clear q10 q11 Dk Dj;simp only[aN,Act.put,List.nil_append,List.cons_append,List.setIfInBounds_toArray,List.set_cons_succ,List.set_cons_zero,Nat.reduceAdd])
   · clear hd;go_wp2;exact⟨Below.refl _ _,rfl⟩
   · have e:vs 0=.pointer (some ⟨w.heap.size,0,none⟩):=hd 0 rfl;clear hd;rw[e];go_wp2;exact⟨Below.refl _ _,rfl⟩
   · clear hd;go_wp2;exact⟨Below.refl _ _,rfl⟩
   · have e:vs 2=.pointer (some ⟨w.heap.size,1,none⟩):=hd 2 rfl;clear hd;rw[e];go_wp2;exact⟨Below.refl _ _,rfl⟩
   · clear hd;go_wp2;exact⟨Below.refl _ _,rfl⟩
   · have e:vs 4=.pointer (some ⟨w.heap.size+1,1,none⟩):=hd 4 rfl;clear hd;rw[e];go_wp2;exact⟨Below.refl _ _,rfl⟩
   · have e:vs 3=.slice A1 la' c1:=hd 3 rfl;have e':vs 5=.slice A2 lb' c2:=hd 5 rfl;clear hd;rw [e,e'];have hC:=oQ a b _ _ w1 hN1 E5 (by rw[hla.out];omega) (by rw[hlb.out];omega);go_wp2_with fail;refine hC.mono ?_;clear hC;rintro _ w9 ⟨v9,rfl,kT,aX⟩;go_wp2;exact kT
   · have e:vs 1=.bool n1:=hd 1 rfl;have e':aA w1 (a+b) (vs 6):=hd 6 rfl;clear hd;rw [e];obtain ⟨A6,c6,h6,-⟩:=id e'.out;rw [h6]at e' ⊢;go_wp2;exact ⟨Below.refl _ _,_,rfl,e'⟩
 · clear q10 q11 Dk Dj;intro vs wa hba hR;simp only[bV,ak]at hR;obtain ⟨-,-,-,-,-,-,-,⟨r,e7,hr⟩,-⟩:=hR;simp only[List.drop,List.take,List.map,aN,Act.put,List.setIfInBounds_toArray,List.set_cons_succ,List.set_cons_zero,Nat.reduceAdd];rw [e7];generalize vs 0=z0,vs 1=z1,vs 2=z2,vs 3=z3,vs 4=z4,vs 5=z5,vs 6=z6;clear e7;obtain ⟨A9,c9,rfl,-⟩:=id hr.out;replace B3:=B3.call hba;have k0:=B3.cell 0 rfl;have k1:=B3.cell 1 rfl;have f0:=B3.frozen 0;have f1:=B3.frozen 1;have hr1:=dK (o:=0) B3 hr (.bool n1);have Sm:=B3.set 0 (.bool n1);have hr2:=dK (o:=1) Sm hr1 (.slice A9 (Ig.grp (a+b)).length c9);have YC:=Sm.set 1 (.slice A9 (Ig.grp (a+b)).length c9);have hbs:=aQ (aQ (ah hb0 hba) (p:=⟨w.heap.size+1+1,0,none⟩) (by show w.heap.size<=w.heap.size+1+1;omega) (.bool n1)) (p:=⟨w.heap.size+1+1,1,none⟩) (by show w.heap.size<=w.heap.size+1+1;omega) (.slice A9 (Ig.grp (a+b)).length c9);clear hr hr1;generalize (Ig.grp (a+b)).length=n9 at *;go_wp2;exact bodyPost_ret (gK rfl _ _ rfl YC) rfl ⟨_,rfl,hr2,hbs⟩
theorem Jj (n1 n2:Bool) (a b:Nat) (u v:Value) (w:World) (h1:aA w a u) (h2:aA w b v) (la:(Ig.grp a).length<=80000) (lb:(Ig.grp b).length<=80000) (hne:n1≠n2) (hle:b<=a) :
 Calls Tryz.prog 216 #[.agg #[.bool n1,u],.agg #[.bool n2,v]] w fun e w'=>∃r,e=.returned (.agg #[.bool n1,r])/\aA w' (a-b) r/\Below w.heap.size w w':=by
 have hb0:=bNew (bNew (aG w (.cells #[.bool n1,u] 299)) (.cells #[.bool n2,v] 299)) (.cells #[.bool false,.slice none 0 0] 299);have B1:=((Bx.mk w 299 #[.bool n1,u]).new (.cells #[.bool n2,v] 299)).new (.cells #[.bool false,.slice none 0 0] 299);have B2:=(Bx.mk (w.alloc (.cells #[.bool n1,u] 299)) 299 #[.bool n2,v]).new (.cells #[.bool false,.slice none 0 0] 299);have B3:=Bx.mk ((w.alloc (.cells #[.bool n1,u] 299)).alloc (.cells #[.bool n2,v] 299)) 299 #[.bool false,.slice none 0 0];have hsz:(((w.alloc (.cells #[.bool n1,u] 299)).alloc (.cells #[.bool n2,v] 299)).alloc (.cells #[.bool false,.slice none 0 0] 299)).heap.size=w.heap.size+3:=by rw[aj,aj,aj]
 rw[aj]at B2;rw [aj,aj]at B3;have h1':=h1.call hb0;have h2':=h2.call hb0;obtain ⟨A1,c1,rfl,-⟩:=id h1.out;obtain ⟨A2,c2,rfl,-⟩:=id h2.out;have hle0:(decide (Ig.eH a b ≥ 0))=true:=Qg hle;have hnn:(n1==n2)=false:=by cases n1 <;> cases n2 <;> simp_all
 have ZL:decide (n1=n2)=false:=by cases n1 <;> cases n2 <;> simp_all
 clear h1 h2;generalize hla:(Ig.grp a).length=la' at *;generalize hlb:(Ig.grp b).length=lb' at *;replace hla:=Kp.mk hla;replace hlb:=Kp.mk hlb
 go_enter Tryz.func216,Tryz.ntmps216
 go_wp2_with fail;obtain ⟨W0,hW0⟩:∃W0,W0=(((w.alloc (.cells #[.bool n1,.slice A1 la' c1] 299)).alloc (.cells #[.bool n2,.slice A2 lb' c2] 299)).alloc (.cells #[.bool false,.slice none 0 0] 299)):=⟨_,rfl⟩
 rw[←hW0]at hb0 B1 B2 B3 hsz h1' h2' ⊢;clear hW0;refine (iG a b _ _ W0 h1' h2' (by rw[hla.out];omega) (by rw[hlb.out];omega)).mono ?_;rintro _ W9 ⟨rfl,aX⟩;replace hb0:=ah hb0 aX;replace B1:=B1.call aX;replace B2:=B2.call aX;replace B3:=B3.call aX;replace h1':=h1'.call aX;replace h2':=h2'.call aX;clear aX hsz;go_wp2_with fail;have q10:=fun w1 (hb1:Below W9.heap.size W9 w1)=>(hb1.cell (p:=⟨w.heap.size,0,none⟩) B1.lt).trans (B1.cell 0 rfl)
 have q11:=fun w1 (hb1:Below W9.heap.size W9 w1)=>(hb1.cell (p:=⟨w.heap.size,1,none⟩) B1.lt).trans (B1.cell 1 rfl)
 have Dk:=fun w1 (hb1:Below W9.heap.size W9 w1)=>(hb1.cell (p:=⟨w.heap.size+1,0,none⟩) B2.lt).trans (B2.cell 0 rfl)
 have Dj:=fun w1 (hb1:Below W9.heap.size W9 w1)=>(hb1.cell (p:=⟨w.heap.size+1,1,none⟩) B2.lt).trans (B2.cell 1 rfl)
 refine au [ak (.pointer (some ⟨w.heap.size,0,none⟩)),ak (.bool n1),ak (.pointer (some ⟨w.heap.size,1,none⟩)),ak (.slice A1 la' c1),ak (.pointer (some ⟨w.heap.size+1,1,none⟩)),ak (.slice A2 lb' c2),(fun x W=>aA W (a-b) x),(fun x W=>∃r,x=.agg #[.bool n1,r]/\aA W (a-b) r)] 8 42 (by kernel_rfl) rfl rfl (by kernel_rfl) ?_ ?_ ?_
 · simp only[aY]
   and_intros <;> first|exact aI _|exact fun v w w' h hb=>h.call hb|exact fun v w w' ⟨r,e,h⟩ hb=>⟨r,e,h.call hb⟩|trivial
 · simp only[Users,List.take,List.length];refine ⟨?_,?_,?_,?_,?_,?_,?_,?_,trivial⟩;all_goals (intro vs w1 hb1 hd;have p10:=q10 w1 hb1;have p11:=q11 w1 hb1;have Zj:=Dk w1 hb1;have Zi:=Dj w1 hb1;have hN1:=h1'.call hb1;have E5:=h2'.call hb1;clear q10 q11 Dk Dj;simp only[aN,Act.put,List.nil_append,List.cons_append,List.setIfInBounds_toArray,List.set_cons_succ,List.set_cons_zero,Nat.reduceAdd])
   · clear hd;go_wp2;exact⟨Below.refl _ _,rfl⟩
   · have e:vs 0=.pointer (some ⟨w.heap.size,0,none⟩):=hd 0 rfl;clear hd;rw[e];go_wp2;exact⟨Below.refl _ _,rfl⟩
   · clear hd;go_wp2;exact⟨Below.refl _ _,rfl⟩
   · have e:vs 2=.pointer (some ⟨w.heap.size,1,none⟩):=hd 2 rfl;clear hd;rw[e];go_wp2;exact⟨Below.refl _ _,rfl⟩
   · clear hd;go_wp2;exact⟨Below.refl _ _,rfl⟩
   · have e:vs 4=.pointer (some ⟨w.heap.size+1,1,none⟩):=hd 4 rfl;clear hd;rw[e];go_wp2;exact⟨Below.refl _ _,rfl⟩
   · have e:vs 3=.slice A1 la' c1:=hd 3 rfl;have e':vs 5=.slice A2 lb' c2:=hd 5 rfl;clear hd;rw [e,e'];have hC:=mX a b _ _ w1 hN1 E5 hle (by rw[hla.out];omega);go_wp2_with fail;refine hC.mono ?_;clear hC;rintro _ w9 ⟨v9,rfl,kT,aX⟩;go_wp2;exact kT
   · have e:vs 1=.bool n1:=hd 1 rfl;have e':aA w1 (a-b) (vs 6):=hd 6 rfl;clear hd;rw [e];obtain ⟨A6,c6,h6,-⟩:=id e'.out;rw [h6]at e' ⊢;go_wp2;exact ⟨Below.refl _ _,_,rfl,e'⟩
 · clear q10 q11 Dk Dj;intro vs wa hba hR;simp only[bV,ak]at hR;obtain ⟨-,-,-,-,-,-,-,⟨r,e7,hr⟩,-⟩:=hR;simp only[List.drop,List.take,List.map,aN,Act.put,List.setIfInBounds_toArray,List.set_cons_succ,List.set_cons_zero,Nat.reduceAdd];rw [e7];generalize vs 0=z0,vs 1=z1,vs 2=z2,vs 3=z3,vs 4=z4,vs 5=z5,vs 6=z6;clear e7;obtain ⟨A9,c9,rfl,-⟩:=id hr.out;replace B3:=B3.call hba;have k0:=B3.cell 0 rfl;have k1:=B3.cell 1 rfl;have f0:=B3.frozen 0;have f1:=B3.frozen 1;have hr1:=dK (o:=0) B3 hr (.bool n1);have Sm:=B3.set 0 (.bool n1);have hr2:=dK (o:=1) Sm hr1 (.slice A9 (Ig.grp (a-b)).length c9);have YC:=Sm.set 1 (.slice A9 (Ig.grp (a-b)).length c9);have hbs:=aQ (aQ (ah hb0 hba) (p:=⟨w.heap.size+1+1,0,none⟩) (by show w.heap.size<=w.heap.size+1+1;omega) (.bool n1)) (p:=⟨w.heap.size+1+1,1,none⟩) (by show w.heap.size<=w.heap.size+1+1;omega) (.slice A9 (Ig.grp (a-b)).length c9);clear hr hr1;generalize (Ig.grp (a-b)).length=n9 at *;go_wp2;exact bodyPost_ret (gK rfl _ _ rfl YC) rfl ⟨_,rfl,hr2,hbs⟩
theorem Ji (n1 n2:Bool) (a b:Nat) (u v:Value) (w:World) (h1:aA w a u) (h2:aA w b v) (la:(Ig.grp a).length<=80000) (lb:(Ig.grp b).length<=80000) (hne:n1≠n2) (hle:a<b) :
 Calls Tryz.prog 216 #[.agg #[.bool n1,u],.agg #[.bool n2,v]] w fun e w'=>∃r,e=.returned (.agg #[.bool n2,r])/\aA w' (b-a) r/\Below w.heap.size w w':=by
 have hb0:=bNew (bNew (aG w (.cells #[.bool n1,u] 299)) (.cells #[.bool n2,v] 299)) (.cells #[.bool false,.slice none 0 0] 299);have B1:=((Bx.mk w 299 #[.bool n1,u]).new (.cells #[.bool n2,v] 299)).new (.cells #[.bool false,.slice none 0 0] 299);have B2:=(Bx.mk (w.alloc (.cells #[.bool n1,u] 299)) 299 #[.bool n2,v]).new (.cells #[.bool false,.slice none 0 0] 299);have B3:=Bx.mk ((w.alloc (.cells #[.bool n1,u] 299)).alloc (.cells #[.bool n2,v] 299)) 299 #[.bool false,.slice none 0 0];have hsz:(((w.alloc (.cells #[.bool n1,u] 299)).alloc (.cells #[.bool n2,v] 299)).alloc (.cells #[.bool false,.slice none 0 0] 299)).heap.size=w.heap.size+3:=by rw[aj,aj,aj]
 rw[aj]at B2;rw [aj,aj]at B3;have h1':=h1.call hb0;have h2':=h2.call hb0;obtain ⟨A1,c1,rfl,-⟩:=id h1.out;obtain ⟨A2,c2,rfl,-⟩:=id h2.out;have hle0:(decide (Ig.eH a b ≥ 0))=false:=by rw[Ig.kN hle];rfl
 have hnn:(n1==n2)=false:=by cases n1 <;> cases n2 <;> simp_all
 have ZL:decide (n1=n2)=false:=by cases n1 <;> cases n2 <;> simp_all
 clear h1 h2;generalize hla:(Ig.grp a).length=la' at *;generalize hlb:(Ig.grp b).length=lb' at *;replace hla:=Kp.mk hla;replace hlb:=Kp.mk hlb
 go_enter Tryz.func216,Tryz.ntmps216
 go_wp2_with fail;obtain ⟨W0,hW0⟩:∃W0,W0=(((w.alloc (.cells #[.bool n1,.slice A1 la' c1] 299)).alloc (.cells #[.bool n2,.slice A2 lb' c2] 299)).alloc (.cells #[.bool false,.slice none 0 0] 299)):=⟨_,rfl⟩
 rw[←hW0]at hb0 B1 B2 B3 hsz h1' h2' ⊢;clear hW0;refine (iG a b _ _ W0 h1' h2' (by rw[hla.out];omega) (by rw[hlb.out];omega)).mono ?_;rintro _ W9 ⟨rfl,aX⟩;replace hb0:=ah hb0 aX;replace B1:=B1.call aX;replace B2:=B2.call aX;replace B3:=B3.call aX;replace h1':=h1'.call aX;replace h2':=h2'.call aX;clear aX hsz;go_wp2_with fail;have q10:=fun w1 (hb1:Below W9.heap.size W9 w1)=>(hb1.cell (p:=⟨w.heap.size,0,none⟩) B1.lt).trans (B1.cell 0 rfl)
 have q11:=fun w1 (hb1:Below W9.heap.size W9 w1)=>(hb1.cell (p:=⟨w.heap.size,1,none⟩) B1.lt).trans (B1.cell 1 rfl)
 have Dk:=fun w1 (hb1:Below W9.heap.size W9 w1)=>(hb1.cell (p:=⟨w.heap.size+1,0,none⟩) B2.lt).trans (B2.cell 0 rfl)
 have Dj:=fun w1 (hb1:Below W9.heap.size W9 w1)=>(hb1.cell (p:=⟨w.heap.size+1,1,none⟩) B2.lt).trans (B2.cell 1 rfl)
 refine au [ak (.pointer (some ⟨w.heap.size+1,0,none⟩)),ak (.bool n2),ak (.pointer (some ⟨w.heap.size+1,1,none⟩)),ak (.slice A2 lb' c2),ak (.pointer (some ⟨w.heap.size,1,none⟩)),ak (.slice A1 la' c1),(fun x W=>aA W (b-a) x),(fun x W=>∃r,x=.agg #[.bool n2,r]/\aA W (b-a) r)] 8 42 (by kernel_rfl) rfl rfl (by kernel_rfl) ?_ ?_ ?_
 · simp only[aY]
   and_intros <;> first|exact aI _|exact fun v w w' h hb=>h.call hb|exact fun v w w' ⟨r,e,h⟩ hb=>⟨r,e,h.call hb⟩|trivial
 · simp only[Users,List.take,List.length];refine ⟨?_,?_,?_,?_,?_,?_,?_,?_,trivial⟩;all_goals (intro vs w1 hb1 hd;have p10:=q10 w1 hb1;have p11:=q11 w1 hb1;have Zj:=Dk w1 hb1;have Zi:=Dj w1 hb1;have hN1:=h1'.call hb1;have E5:=h2'.call hb1;clear q10 q11 Dk Dj;simp only[aN,Act.put,List.nil_append,List.cons_append,List.setIfInBounds_toArray,List.set_cons_succ,List.set_cons_zero,Nat.reduceAdd])
   · clear hd;go_wp2;exact⟨Below.refl _ _,rfl⟩
   · have e:vs 0=.pointer (some ⟨w.heap.size+1,0,none⟩):=hd 0 rfl;clear hd;rw[e];go_wp2;exact⟨Below.refl _ _,rfl⟩
   · clear hd;go_wp2;exact⟨Below.refl _ _,rfl⟩
   · have e:vs 2=.pointer (some ⟨w.heap.size+1,1,none⟩):=hd 2 rfl;clear hd;rw[e];go_wp2;exact⟨Below.refl _ _,rfl⟩
   · clear hd;go_wp2;exact⟨Below.refl _ _,rfl⟩
   · have e:vs 4=.pointer (some ⟨w.heap.size,1,none⟩):=hd 4 rfl;clear hd;rw[e];go_wp2;exact⟨Below.refl _ _,rfl⟩
   · have e:vs 3=.slice A2 lb' c2:=hd 3 rfl;have e':vs 5=.slice A1 la' c1:=hd 5 rfl;clear hd;rw [e,e'];have hC:=mX b a _ _ w1 E5 hN1 (by omega) (by rw[hlb.out];omega);go_wp2_with fail;refine hC.mono ?_;clear hC;rintro _ w9 ⟨v9,rfl,kT,aX⟩;go_wp2;exact kT
   · have e:vs 1=.bool n2:=hd 1 rfl;have e':aA w1 (b-a) (vs 6):=hd 6 rfl;clear hd;rw [e];obtain ⟨A6,c6,h6,-⟩:=id e'.out;rw [h6]at e' ⊢;go_wp2;exact ⟨Below.refl _ _,_,rfl,e'⟩
 · clear q10 q11 Dk Dj;intro vs wa hba hR;simp only[bV,ak]at hR;obtain ⟨-,-,-,-,-,-,-,⟨r,e7,hr⟩,-⟩:=hR;simp only[List.drop,List.take,List.map,aN,Act.put,List.setIfInBounds_toArray,List.set_cons_succ,List.set_cons_zero,Nat.reduceAdd];rw [e7];generalize vs 0=z0,vs 1=z1,vs 2=z2,vs 3=z3,vs 4=z4,vs 5=z5,vs 6=z6;clear e7;obtain ⟨A9,c9,rfl,-⟩:=id hr.out;replace B3:=B3.call hba;have k0:=B3.cell 0 rfl;have k1:=B3.cell 1 rfl;have f0:=B3.frozen 0;have f1:=B3.frozen 1;have hr1:=dK (o:=0) B3 hr (.bool n2);have Sm:=B3.set 0 (.bool n2);have hr2:=dK (o:=1) Sm hr1 (.slice A9 (Ig.grp (b-a)).length c9);have YC:=Sm.set 1 (.slice A9 (Ig.grp (b-a)).length c9);have hbs:=aQ (aQ (ah hb0 hba) (p:=⟨w.heap.size+1+1,0,none⟩) (by show w.heap.size<=w.heap.size+1+1;omega) (.bool n2)) (p:=⟨w.heap.size+1+1,1,none⟩) (by show w.heap.size<=w.heap.size+1+1;omega) (.slice A9 (Ig.grp (b-a)).length c9);clear hr hr1;generalize (Ig.grp (b-a)).length=n9 at *;go_wp2;exact bodyPost_ret (gK rfl _ _ rfl YC) rfl ⟨_,rfl,hr2,hbs⟩
theorem vZ (n1 n2:Bool) (a b:Nat) (u v:Value) (w:World) (h1:aA w a u) (h2:aA w b v) (la:(Ig.grp a).length<=80000) (lb:(Ig.grp b).length<=80000) :
 Calls Tryz.prog 216 #[.agg #[.bool n1,u],.agg #[.bool n2,v]] w fun e w'=>∃n c r,e=.returned (.agg #[.bool n,r])/\aA w' c r/\gG n c=gG n1 a+gG n2 b/\c<=a+b/\Below w.heap.size w w':=by
 by_cases hn:n1=n2
 · subst hn;exact (CV n1 a b u v w h1 h2 la lb).mono fun e w' ⟨r,e1,e2,e3⟩=>⟨n1,a+b,r,e1,e2,by cases n1 <;> simp[gG] <;> omega,Nat.le_refl _,e3⟩
 · rcases Nat.lt_or_ge a b with h|h
   · exact (Ji n1 n2 a b u v w h1 h2 la lb hn h).mono fun e w' ⟨r,e1,e2,e3⟩=>⟨n2,b-a,r,e1,e2,by cases n1 <;> cases n2 <;> simp[gG]at hn ⊢ <;> omega,by omega,e3⟩
   · exact (Jj n1 n2 a b u v w h1 h2 la lb hn h).mono fun e w' ⟨r,e1,e2,e3⟩=>⟨n1,a-b,r,e1,e2,by cases n1 <;> cases n2 <;> simp[gG]at hn ⊢ <;> omega,by omega,e3⟩
end Go.Proofs.YtohgjenaclfegaaGreatDoor
namespace Ig
theorem dW {z:Int} (h:fits z):(grp z.natAbs).length<=50:=by
 refine iw ?_;have:(10000:Nat) ^ 50=10 ^ 200:=by rw[show (10000:Nat)=10 ^ 4 from rfl,←Nat.pow_mul]
 rw[this];exact h
theorem gY {a b k:Nat} (h:(grp b).length<=k) (hab:a<=b):(grp a).length<=k :=
 iw (Nat.lt_of_le_of_lt hab (Nat.lt_of_lt_of_le (jd b) (Nat.pow_le_pow_right (by decide) h)))
theorem lS {a b k:Nat} (ha:(grp a).length<=k) (hb:(grp b).length<=k):(grp (a+b)).length<=k+1:=by
 refine iw ?_;have h1:=Nat.lt_of_lt_of_le (jd a) (Nat.pow_le_pow_right (show 0<10000 by decide) ha);have h2:=Nat.lt_of_lt_of_le (jd b) (Nat.pow_le_pow_right (show 0<10000 by decide) hb);rw [Nat.pow_succ];generalize 10000 ^ k=p at *;omega
end Ig
namespace Go.Proofs.YtohgjenaclfegaaGreatDoor
open Go.RowKit Go.Shelf
theorem qx (x:Int):gG (decide (x<0)) x.natAbs=x:=by
 unfold gG
 by_cases h:x<0
 · rw[decide_eq_true h];simp;omega
 · rw[decide_eq_false h];simp;omega
theorem QA (x y:Int) (w:World) (hx:Ig.fits x) (hy:Ig.fits y) (hE:Env w) :
 bP 223 #[.string ⟨(Lib.itoa x).toArray⟩,.string ⟨(Lib.itoa y).toArray⟩] w (.tuple #[.string ⟨(Ig.jm (x+y)).toArray⟩,.int .i64 (Ig.resE (x+y))]):=by
 have hB:=both_any x y w hx hy;have lx:=Ig.dW hx;have ly:=Ig.dW hy;have ex:=qx x;have ey:=qx y;have exy:Kp (gG (decide (x<0)) x.natAbs+gG (decide (y<0)) y.natAbs=x+y):=⟨by rw[ex,ey]⟩
 generalize x+y=z at *;generalize decide (x<0)=nx at *;generalize decide (y<0)=ny at *;generalize x.natAbs=ax at *;generalize y.natAbs=ay at *;generalize Lib.itoa x=sx at *;generalize Lib.itoa y=sy at *;clear hx hy ex ey
 go_enter Tryz.func223,Tryz.ntmps223
 go_wp2_with fail;refine hB.mono ?_;rintro _ w1 ⟨u,v,rfl,hu,hv,hb1⟩;obtain ⟨A1,c1,rfl,-⟩:=id hu.out;obtain ⟨A2,c2,rfl,-⟩:=id hv.out;clear hB;go_wp2_with fail;have hb2:=bNew (aG w1 (.cells #[.bool nx,.slice A1 (Ig.grp ax).length c1] 299)) (.cells #[.bool ny,.slice A2 (Ig.grp ay).length c2] 299);have hP:=vZ nx ny ax ay _ _ _ (hu.call hb2) (hv.call hb2) (by omega) (by omega);refine hP.mono ?_;rintro _ w3 ⟨n,c,r,rfl,hr,hsg,hle,hb3⟩;rw [exy.out]at hsg;have hb4:=ah (ah hb1 hb2) hb3;have hlc:(Ig.grp c).length<=50+1:=Ig.gY (Ig.lS lx ly) hle;have hT:=dF n c r w3 hr (by omega) (hE.below hb4);rw [hsg]at hT;clear hP hb2 hu hv hb3 exy;obtain ⟨A3,c3,rfl,-⟩:=id hr.out;go_wp2_with fail;refine hT.mono ?_;rintro _ w5 ⟨rfl,hb5⟩;clear hT;go_wp2
 go_ret2
 exact⟨rfl,ah hb4 hb5⟩
theorem OM (n:Bool) (a:Nat):gG (!n) a= - gG n a:=by cases n <;> simp[gG]
theorem FK (x y:Int) (w:World) (hx:Ig.fits x) (hy:Ig.fits y) (hE:Env w) :
 bP 152 #[.string ⟨(Lib.itoa x).toArray⟩,.string ⟨(Lib.itoa y).toArray⟩] w (.tuple #[.string ⟨(Ig.jm (x-y)).toArray⟩,.int .i64 (Ig.resE (x-y))]):=by
 have hB:=both_any x y w hx hy;have lx:=Ig.dW hx;have ly:=Ig.dW hy;have ex:=qx x;have ey:=qx y;have exy:Kp (gG (decide (x<0)) x.natAbs+gG (!decide (y<0)) y.natAbs=x-y):=⟨by rw[OM,ex,ey];omega⟩
 generalize x-y=z at *;generalize decide (x<0)=nx at *;generalize decide (y<0)=ny at *;generalize x.natAbs=ax at *;generalize y.natAbs=ay at *;generalize Lib.itoa x=sx at *;generalize Lib.itoa y=sy at *;clear hx hy ex ey
 go_enter Tryz.func152,Tryz.ntmps152
 go_wp2_with fail;refine hB.mono ?_;rintro _ w1 ⟨u,v,rfl,hu,hv,hb1⟩;obtain ⟨A1,c1,rfl,-⟩:=id hu.out;obtain ⟨A2,c2,rfl,-⟩:=id hv.out;clear hB;have hb2:=bNew (aG w1 (.cells #[.bool nx,.slice A1 (Ig.grp ax).length c1] 299)) (.cells #[.bool (!ny),.slice A2 (Ig.grp ay).length c2] 299);go_wp2_with fail;have hP:=vZ nx (!ny) ax ay _ _ _ (hu.call hb2) (hv.call hb2) (by omega) (by omega);refine hP.mono ?_;rintro _ w3 ⟨n,c,r,rfl,hr,hsg,hle,hb3⟩;rw [exy.out]at hsg;have hb4:=ah (ah hb1 hb2) hb3;have hlc:(Ig.grp c).length<=50+1:=Ig.gY (Ig.lS lx ly) hle;have hT:=dF n c r w3 hr (by omega) (hE.below hb4);rw [hsg]at hT;clear hP hb2 hu hv hb3 exy;obtain ⟨A3,c3,rfl,-⟩:=id hr.out;go_wp2_with fail;refine hT.mono ?_;rintro _ w5 ⟨rfl,hb5⟩;clear hT;go_wp2
 go_ret2
 exact⟨rfl,ah hb4 hb5⟩
theorem OO (n m:Bool) (a b:Nat):gG (n != m) (a*b)=gG n a*gG m b:=by cases n <;> cases m <;> simp[gG,Int.mul_neg,Int.neg_mul]
theorem Qr (x y:Int) (w:World) (hx:Ig.fits x) (hy:Ig.fits y) (hE:Env w) :
 bP 170 #[.string ⟨(Lib.itoa x).toArray⟩,.string ⟨(Lib.itoa y).toArray⟩] w (.tuple #[.string ⟨(Ig.jm (x*y)).toArray⟩,.int .i64 (Ig.resE (x*y))]):=by
 have hB:=both_any x y w hx hy;have lx:=Ig.dW hx;have ly:=Ig.dW hy;have ex:=qx x;have ey:=qx y;have exy:Kp (gG (decide (x<0) != decide (y<0)) (x.natAbs*y.natAbs)=x*y):=⟨by rw[OO,ex,ey]⟩
 generalize x*y=z at *;generalize decide (x<0)=nx at *;generalize decide (y<0)=ny at *;generalize x.natAbs=ax at *;generalize y.natAbs=ay at *;generalize Lib.itoa x=sx at *;generalize Lib.itoa y=sy at *;clear hx hy ex ey;have hlm:(Ig.grp (ax*ay)).length<=50+50:=jC lx (Nat.lt_of_lt_of_le (Ig.jd ay) (Nat.pow_le_pow_right (by decide) ly))
 go_enter Tryz.func170,Tryz.ntmps170
 go_wp2_with fail;refine hB.mono ?_;rintro _ w1 ⟨u,v,rfl,hu,hv,hb1⟩;obtain ⟨A1,c1,rfl,-⟩:=id hu.out;obtain ⟨A2,c2,rfl,-⟩:=id hv.out;clear hB;have hb2:=bNew (aG w1 (.cells #[.bool nx,.slice A1 (Ig.grp ax).length c1] 299)) (.cells #[.bool ny,.slice A2 (Ig.grp ay).length c2] 299);have B1:=(Bx.mk w1 299 #[.bool nx,.slice A1 (Ig.grp ax).length c1]).new (.cells #[.bool ny,.slice A2 (Ig.grp ay).length c2] 299);have B2:=Bx.mk (w1.alloc (.cells #[.bool nx,.slice A1 (Ig.grp ax).length c1] 299)) 299 #[.bool ny,.slice A2 (Ig.grp ay).length c2];rw [aj]at B2;go_wp2_with fail;replace hu:=hu.call hb2;replace hv:=hv.call hb2;generalize hg:((w1.alloc (.cells #[.bool nx,.slice A1 (Ig.grp ax).length c1] 299)).alloc (.cells #[.bool ny,.slice A2 (Ig.grp ay).length c2] 299))=W0 at *;clear hg;replace hE:=hE.below (ah hb1 hb2);have q10:=fun w1' (hb1:Below W0.heap.size W0 w1')=>(hb1.cell (p:=⟨w1.heap.size,0,none⟩) B1.lt).trans (B1.cell 0 rfl)
 have q11:=fun w1' (hb1:Below W0.heap.size W0 w1')=>(hb1.cell (p:=⟨w1.heap.size,1,none⟩) B1.lt).trans (B1.cell 1 rfl)
 have Dk:=fun w1' (hb1:Below W0.heap.size W0 w1')=>(hb1.cell (p:=⟨w1.heap.size+1,0,none⟩) B2.lt).trans (B2.cell 0 rfl)
 have Dj:=fun w1' (hb1:Below W0.heap.size W0 w1')=>(hb1.cell (p:=⟨w1.heap.size+1,1,none⟩) B2.lt).trans (B2.cell 1 rfl)
 generalize hlx:(Ig.grp ax).length=kx at *;generalize YK:(Ig.grp ay).length=ky at *;replace hlx:=Kp.mk hlx;replace YK:=Kp.mk YK
 refine au [ak (.pointer (some ⟨w1.heap.size,0,none⟩)),ak (.bool nx),ak (.pointer (some ⟨w1.heap.size+1,0,none⟩)),ak (.bool ny),ak (.bool (nx != ny)),ak (.pointer (some ⟨w1.heap.size,1,none⟩)),ak (.slice A1 kx c1),ak (.pointer (some ⟨w1.heap.size+1,1,none⟩)),ak (.slice A2 ky c2),(fun v W=>aA W (ax*ay) v),(fun v W=>∃r,v=.agg #[.bool (nx != ny),r]/\aA W (ax*ay) r),
  ak (.tuple #[.string ⟨(Ig.jm z).toArray⟩,.int .i64 (Ig.resE z)]),ak (.string ⟨(Ig.jm z).toArray⟩),ak (.int .i64 (Ig.resE z)),ak (.string ⟨(Ig.jm z).toArray⟩),ak (.int .i64 (Ig.resE z))] 16 32 (by kernel_rfl) rfl rfl (by kernel_rfl) ?_ ?_ ?_
 · simp only[aY]
   and_intros <;> first|exact aI _|exact fun v w w' h hb=>h.call hb|exact fun v w w' ⟨r,e,h⟩ hb=>⟨r,e,h.call hb⟩|trivial
 · simp only[Users,List.take,List.length];refine ⟨?_,?_,?_,?_,?_,?_,?_,?_,?_,?_,?_,?_,?_,?_,?_,?_,trivial⟩;all_goals (intro vs w2 hb2' hd;have p10:=q10 w2 hb2';have p11:=q11 w2 hb2';have Zj:=Dk w2 hb2';have Zi:=Dj w2 hb2';have hN1:=hu.call hb2';have E5:=hv.call hb2';clear q10 q11 Dk Dj;simp only[aN,Act.put,List.nil_append,List.cons_append,List.setIfInBounds_toArray,List.set_cons_succ,List.set_cons_zero,Nat.reduceAdd])
   · clear hd;go_wp2;exact⟨Below.refl _ _,rfl⟩
   · have e:=hd 0 rfl;change vs 0=_ at e;clear hd;rw[e];go_wp2;exact⟨Below.refl _ _,rfl⟩
   · clear hd;go_wp2;exact⟨Below.refl _ _,rfl⟩
   · have e:=hd 2 rfl;change vs 2=_ at e;clear hd;rw[e];go_wp2;exact⟨Below.refl _ _,rfl⟩
   · have e:=hd 1 rfl;have e':=hd 3 rfl;change vs 1=_ at e;change vs 3=_ at e';clear hd;rw[e,e'];go_wp2;exact⟨Below.refl _ _,by cases nx <;> cases ny <;> rfl⟩
   · clear hd;go_wp2;exact⟨Below.refl _ _,rfl⟩
   · have e:=hd 5 rfl;change vs 5=_ at e;clear hd;rw[e];go_wp2;exact⟨Below.refl _ _,rfl⟩
   · clear hd;go_wp2;exact⟨Below.refl _ _,rfl⟩
   · have e:=hd 7 rfl;change vs 7=_ at e;clear hd;rw[e];go_wp2;exact⟨Below.refl _ _,rfl⟩
   · have e:=hd 6 rfl;have e':=hd 8 rfl;change vs 6=_ at e;change vs 8=_ at e';clear hd;rw[e,e'];have hC:=times_any ax ay _ _ w2 hN1 E5 (by rw[hlx.out];omega) (by rw[YK.out];omega);go_wp2_with fail;refine hC.mono ?_;clear hC;rintro _ w9 ⟨v9,rfl,kT,aX⟩;go_wp2;exact kT
   · have e:=hd 4 rfl;change vs 4=_ at e;have e':aA w2 (ax*ay) (vs 9):=hd 9 rfl;clear hd;rw[e];obtain ⟨A6,c6,h6,-⟩:=id e'.out;rw [h6]at e' ⊢;go_wp2;exact ⟨Below.refl _ _,_,rfl,e'⟩
   · have e:∃r,vs 10=.agg #[.bool (nx != ny),r]/\aA w2 (ax*ay) r:=hd 10 rfl
     clear hd;obtain ⟨r,e,hr⟩:=e;rw [e];have hT:=dF (nx != ny) (ax*ay) r w2 hr (by omega) (hE.below hb2');rw [exy.out]at hT;go_wp2_with fail;refine hT.mono ?_;clear hT;rintro _ w9 ⟨rfl,aX⟩;go_wp2;rfl
   · have e:=hd 11 rfl;change vs 11=_ at e;clear hd;rw[e];go_wp2;exact⟨Below.refl _ _,rfl⟩
   · have e:=hd 11 rfl;change vs 11=_ at e;clear hd;rw[e];go_wp2;exact⟨Below.refl _ _,rfl⟩
   · have e:=hd 12 rfl;change vs 12=_ at e;clear hd;rw[e];go_wp2;exact⟨Below.refl _ _,rfl⟩
   · have e:=hd 13 rfl;change vs 13=_ at e;clear hd;rw[e];go_wp2;exact⟨Below.refl _ _,rfl⟩
 · clear q10 q11 Dk Dj;intro vs wa hba hR;simp only[bV,ak]at hR;obtain ⟨-,-,-,-,-,-,-,-,-,-,-,-,-,-,e14,e15,-⟩:=hR;simp only[List.drop,List.take,List.map,aN,Act.put,List.setIfInBounds_toArray,List.set_cons_succ,List.set_cons_zero,Nat.reduceAdd];rw [e14,e15];go_wp2
   go_ret2
   exact⟨rfl,ah (ah hb1 hb2) hba⟩
theorem Dw {W:World} {a b:Nat} {v:Value} (h:aA W a v) (k:aA W b v):a=b:=by
 obtain⟨A,c,rfl,hA,-,-⟩:=h.out;obtain ⟨A',c',e,hA',-,-⟩:=k.out;simp only[Value.slice.injEq]at e;obtain ⟨rfl,hl,rfl⟩:=e
 have:Ig.grp a=Ig.grp b:=by
  apply List.ext_getElem hl
  intro i h1 h2;obtain ⟨g,off,rfl,-,hc⟩:=hA (by omega);obtain ⟨g',off',e',-,hc'⟩:=hA' (by omega);simp only[Option.some.injEq,Addr.mk.injEq,and_true]at e';obtain ⟨rfl,rfl⟩:=e';have x1:=hc i _ (List.getElem?_eq_getElem h1) 0 _ rfl;have x2:=hc' i _ (List.getElem?_eq_getElem h2) 0 _ rfl;rw [x1]at x2;simpa using x2
 have h1:=Ig.bZ a;rw [this,Ig.bZ]at h1;omega
theorem EJ {W:World} {a:Nat} {v:Value} (h:aA W a v):Classical.epsilon (fun k=>aA W k v)=a :=
 Dw (Classical.epsilon_spec (p:=fun k=>aA W k v) ⟨a,h⟩) h
theorem uw {x y:Int} (hx:Ig.fits x) (hy:Ig.fits y):Ig.fits ((Nat.gcd x.natAbs y.natAbs:Nat):Int):=by
 unfold Ig.fits at *
 rw[Int.natAbs_natCast];by_cases h:x.natAbs=0
 · rw[h,Nat.gcd_zero_left];exact hy
 · exact Nat.lt_of_le_of_lt (Nat.le_of_dvd (by omega) (Nat.gcd_dvd_left _ _)) hx
theorem FT (x y:Int) (w:World) (hx:Ig.fits x) (hy:Ig.fits y) (hE:Env w) :
 bP 153 #[.string ⟨(Lib.itoa x).toArray⟩,.string ⟨(Lib.itoa y).toArray⟩] w (.tuple #[.string ⟨(Lib.itoa ((Nat.gcd x.natAbs y.natAbs:Nat):Int)).toArray⟩,.int .i64 0]):=by
 have hB:=both_any x y w hx hy;have lx:=Ig.dW hx;have ly:=Ig.dW hy;have fg:=uw hx hy
 have hres:∀k,k=Nat.gcd x.natAbs y.natAbs->Kp (Ig.jm (gG false k)=Lib.itoa ((Nat.gcd x.natAbs y.natAbs:Nat):Int)/\Ig.resE (gG false k)=0):=fun k h=>⟨by
  rw[h,show gG false (Nat.gcd x.natAbs y.natAbs)=((Nat.gcd x.natAbs y.natAbs:Nat):Int) from rfl]
  exact⟨Ig.eU fg,Ig.eX fg⟩⟩
 clear fg;generalize Lib.itoa ((Nat.gcd x.natAbs y.natAbs:Nat):Int)=SG at *;generalize decide (x<0)=nx at *;generalize decide (y<0)=ny at *;generalize x.natAbs=ax at *;generalize y.natAbs=ay at *;generalize Lib.itoa x=sx at *;generalize Lib.itoa y=sy at *;clear hx hy
 go_enter Tryz.func153,Tryz.ntmps153
 go_wp2_with fail;refine hB.mono ?_;rintro _ w1 ⟨u,v,rfl,hu,hv,hb1⟩;obtain ⟨A1,c1,rfl,-⟩:=id hu.out;obtain ⟨A2,c2,rfl,-⟩:=id hv.out;clear hB;have hb2:=bNew (aG w1 (.cells #[.bool nx,.slice A1 (Ig.grp ax).length c1] 299)) (.cells #[.bool ny,.slice A2 (Ig.grp ay).length c2] 299);have B1:=(Bx.mk w1 299 #[.bool nx,.slice A1 (Ig.grp ax).length c1]).new (.cells #[.bool ny,.slice A2 (Ig.grp ay).length c2] 299);have B2:=Bx.mk (w1.alloc (.cells #[.bool nx,.slice A1 (Ig.grp ax).length c1] 299)) 299 #[.bool ny,.slice A2 (Ig.grp ay).length c2];rw [aj]at B2;go_wp2_with fail;replace hu:=hu.call hb2;replace hv:=hv.call hb2;replace hb1:=ah hb1 hb2;generalize hg:((w1.alloc (.cells #[.bool nx,.slice A1 (Ig.grp ax).length c1] 299)).alloc (.cells #[.bool ny,.slice A2 (Ig.grp ay).length c2] 299))=W0 at *;clear hg hb2;have q1:=fun w2 (hb2:Below W0.heap.size W0 w2)=>(hb2.cell (p:=⟨w1.heap.size,1,none⟩) B1.lt).trans (B1.cell 1 rfl)
 have q2:=fun w2 (hb2:Below W0.heap.size W0 w2)=>(hb2.cell (p:=⟨w1.heap.size+1,1,none⟩) B2.lt).trans (B2.cell 1 rfl)
 refine au [ak (.pointer (some ⟨w1.heap.size,1,none⟩)),ak (.slice A1 (Ig.grp ax).length c1),ak (.pointer (some ⟨w1.heap.size+1,1,none⟩)),ak (.slice A2 (Ig.grp ay).length c2),ak (.slice A1 (Ig.grp ax).length c1),ak (.slice A2 (Ig.grp ay).length c2)] 6 42 (by kernel_rfl) rfl rfl (by kernel_rfl) ?_ ?_ ?_
 · simp only[aY]
   and_intros <;> first|exact aI _|trivial
 · simp only[Users,List.take,List.length];refine ⟨?_,?_,?_,?_,?_,?_,trivial⟩;all_goals (intro vs w2 hb2 hd;have p1:=q1 w2 hb2;have p2:=q2 w2 hb2;clear q1 q2;simp only[aN,Act.put,List.nil_append,List.cons_append,List.setIfInBounds_toArray,List.set_cons_succ,List.set_cons_zero,Nat.reduceAdd])
   · clear hd;go_wp2;exact⟨Below.refl _ _,rfl⟩
   · have e:=hd 0 rfl;change vs 0=_ at e;clear hd;rw[e];go_wp2;exact⟨Below.refl _ _,rfl⟩
   · clear hd;go_wp2;exact⟨Below.refl _ _,rfl⟩
   · have e:=hd 2 rfl;change vs 2=_ at e;clear hd;rw[e];go_wp2;exact⟨Below.refl _ _,rfl⟩
   · have e:=hd 1 rfl;change vs 1=_ at e;clear hd;rw[e];go_wp2;exact⟨Below.refl _ _,rfl⟩
   · have e:=hd 3 rfl;change vs 3=_ at e;clear hd;rw[e];go_wp2;exact⟨Below.refl _ _,rfl⟩
 · clear q1 q2;intro vs wa hba hR;simp only[bV,ak]at hR;obtain ⟨e0,e1,e2,e3,e4,e5,-⟩:=hR;simp only[List.drop,List.take,List.map,aN,Act.put,List.setIfInBounds_toArray,List.set_cons_succ,List.set_cons_zero,Nat.reduceAdd];rw [e0,e1,e2,e3,e4,e5];replace hu:=hu.call hba;replace hv:=hv.call hba;replace hb1:=ah hb1 hba;clear e0 e1 e2 e3 e4 e5 hba B1 B2;go_wp2
   go_loopw [9,10,11,12] (fun s9 s10 s11 s12 wr=>∃k l,aA wr k s9/\aA wr l s10/\(Ig.grp k).length<=50/\(Ig.grp l).length<=50/\Nat.gcd k l=Nat.gcd ax ay/\Below w.heap.size w wr) (fun s9 s10 s11 s12 wr=>Classical.epsilon (fun k=>aA wr k s10))
   case atStart=>exact⟨ax,ay,hu,hv,lx,ly,rfl,hb1⟩
   case round =>
    clear hu hv hb1 lx ly;obtain ⟨k,l,hk,hl,lk,ll,hg,hb⟩:=hrel;have hm:=EJ hl;obtain ⟨A3,c3,rfl,-⟩:=id hk.out;obtain ⟨A4,c4,rfl,-⟩:=id hl.out;by_cases h0:l=0
    · subst h0;have hl0:(Ig.grp 0).length=0:=by rw[Ig.aS];rfl
      have hr:=hres k (by rw[←hg,Nat.gcd_zero_right]);have hT:=dF false k _ wr hk (by omega) (hE.below hb);rw [hr.out.1,hr.out.2]at hT;simp only[hl0];clear hres hm hg hl hr;go_wp2_with fail;refine hT.mono ?_;rintro _ w5 ⟨rfl,hb5⟩;clear hT;go_wp2
      go_ret2
      exact⟨rfl,ah hb hb5⟩
    · have hl0:(Ig.grp l).length≠0:=fun e=>h0 (Ig.fK.1 e)
      have t0:decide (((Ig.grp l).length:Int) > 0)=true:=decide_eq_true (by omega);have hO:=zL k l _ _ wr hk hl (by omega) (by omega) (by omega);go_wp2_with fail;refine hO.mono ?_;rintro _ w5 ⟨q,r,rfl,hq,hr,hb5⟩;clear hO t0;have hl5:=hl.call hb5;have TD:=EJ hr;obtain ⟨A5,c5,rfl,-⟩:=id hq.out;obtain ⟨A6,c6,rfl,-⟩:=id hr.out;go_wp2;refine ⟨⟨l,k % l,hl5,hr,ll,Ig.gY lk (Nat.mod_le _ _),by rw[←hg,Nat.gcd_comm k l,Nat.gcd_rec l k,Nat.gcd_comm],ah hb hb5⟩,?_⟩;rw [hm,TD];exact Nat.mod_lt _ (by omega)
theorem Ee (x y:Int):jr x y=if decide (x<0) then (if decide (y<0) then Ig.eH y.natAbs x.natAbs else -1) else (if decide (y<0) then 1 else Ig.eH x.natAbs y.natAbs):=by
 simp only[decide_eq_true_eq]
 unfold jr Ig.eH
 split <;> split <;> split <;> (try split) <;> (try split) <;> first|rfl|omega
theorem qX (x y:Int) (w:World) (hx:Ig.fits x) (hy:Ig.fits y) :
 bP 150 #[.string ⟨(Lib.itoa x).toArray⟩,.string ⟨(Lib.itoa y).toArray⟩] w (.int .i64 (jr x y)):=by
 have hB:=both_any x y w hx hy;have lx:=Ig.dW hx;have ly:=Ig.dW hy;have hc:=Ee x y;replace hc:=Kp.mk hc;generalize jr x y=z at *;generalize decide (x<0)=nx at *;generalize decide (y<0)=ny at *;generalize x.natAbs=ax at *;generalize y.natAbs=ay at *;generalize Lib.itoa x=sx at *;generalize Lib.itoa y=sy at *;clear hx hy
 go_enter Tryz.func150,Tryz.ntmps150
 go_wp2_with fail;refine hB.mono ?_;rintro _ w1 ⟨u,v,rfl,hu,hv,hb1⟩;obtain ⟨A1,c1,rfl,-⟩:=id hu.out;obtain ⟨A2,c2,rfl,-⟩:=id hv.out;clear hB;have hb2:=bNew (aG w1 (.cells #[.bool nx,.slice A1 (Ig.grp ax).length c1] 299)) (.cells #[.bool ny,.slice A2 (Ig.grp ay).length c2] 299);have hu2:=hu.call hb2;have hv2:=hv.call hb2;have hb3:=ah hb1 hb2;clear hu hv;cases nx <;> cases ny
 · have hz:z=Ig.eH ax ay:=hc.out;have hC:=iG ax ay _ _ _ hu2 hv2 (by omega) (by omega);rw [←hz]at hC;clear hc hz;go_wp2_with fail;refine hC.mono ?_;rintro _ w4 ⟨rfl,hb4⟩;clear hC;go_wp2;go_ret;exact ⟨rfl,ah hb3 hb4⟩
 · have hz:z=1:=hc.out;subst hz;clear hc;go_wp2;go_ret;exact ⟨rfl,hb3⟩
 · have hz:z= -1:=hc.out;subst hz;clear hc;go_wp2;go_ret;exact ⟨rfl,hb3⟩
 · have hz:z=Ig.eH ay ax:=hc.out;have hC:=iG ay ax _ _ _ hv2 hu2 (by omega) (by omega);rw [←hz]at hC;clear hc hz;go_wp2_with fail;refine hC.mono ?_;rintro _ w4 ⟨rfl,hb4⟩;clear hC;go_wp2;go_ret;exact ⟨rfl,ah hb3 hb4⟩
theorem zS {a b:Nat} (hb:0<b) (h:a % b=0):(-(a:Int)) / (b:Int)= -((a / b:Nat):Int)/\(-(a:Int)) % (b:Int)=0:=by
 refine (Int.ediv_emod_unique (by omega)).2 ⟨?_,Int.le_refl _,by omega⟩;have h1:=Nat.div_add_mod a b;rw [h]at h1;rw [Int.mul_neg,Int.zero_add,←Int.natCast_mul];omega
theorem J4 {a b:Nat} (hb:0<b) (h:a % b≠0):(-(a:Int)) / (b:Int)= -((a / b+1:Nat):Int)/\(-(a:Int)) % (b:Int)=((b-a % b:Nat):Int):=by
 have h2:=Nat.mod_lt a hb;refine (Int.ediv_emod_unique (by omega)).2 ⟨?_,by omega,by omega⟩;have h1:=Nat.div_add_mod a b;rw [Int.mul_neg,←Int.natCast_mul,Nat.mul_add,Nat.mul_one];omega
theorem m_ (x:Int):(x=(x.natAbs:Int)/\decide (x<0)=false)∨(x= -(x.natAbs:Int)/\decide (x<0)=true):=by
 by_cases h:x<0
 · exact .inr ⟨by omega,by simpa using h⟩
 · exact .inl ⟨by omega,by simpa using h⟩
theorem MR {x y:Int} (hy:y≠0) (h:decide (x<0)=false∨x.natAbs % y.natAbs=0):gG (decide (x<0) != decide (y<0)) (x.natAbs / y.natAbs)=x / y/\((x.natAbs % y.natAbs:Nat):Int)=x % y:=by
 have hb:0<y.natAbs:=by omega
 have hx:=m_ x;have hy:=m_ y;generalize x.natAbs=a at *;generalize y.natAbs=b at *;generalize decide (x<0)=n at *;generalize decide (y<0)=m at *
 rcases hx with ⟨rfl,rfl⟩|⟨rfl,rfl⟩ <;> rcases hy with ⟨rfl,rfl⟩|⟨rfl,rfl⟩
 · simp[gG]
 · simp[gG,Int.ediv_neg]
 · have hr:a % b=0:=by simpa using h
   have:=zS hb hr;simp [gG,this.1,this.2,hr]
 · have hr:a % b=0:=by simpa using h
   have:=zS hb hr;simp [gG,Int.ediv_neg,this.1,this.2,hr]
theorem MQ {x y:Int} (hy:y≠0) (h:decide (x<0)=true) (h':x.natAbs % y.natAbs≠0):gG (decide (x<0) != decide (y<0)) (x.natAbs / y.natAbs+1)=x / y/\((y.natAbs-x.natAbs % y.natAbs:Nat):Int)=x % y:=by
 have hb:0<y.natAbs:=by omega
 have hx:=m_ x;have hy:=m_ y;generalize x.natAbs=a at *;generalize y.natAbs=b at *;generalize decide (x<0)=n at *;generalize decide (y<0)=m at *;subst h;have hx:x= -(a:Int):=by simpa using hx
 subst hx;have h3:=J4 hb h'
 rcases hy with ⟨rfl,rfl⟩|⟨rfl,rfl⟩
 · rw[h3.1,h3.2];simp[gG]
 · rw[Int.ediv_neg,Int.emod_neg,h3.1,h3.2];simp[gG]
theorem MK {x:Int} (y:Int) (h:Ig.fits x):Ig.fits (x / y):=Nat.lt_of_le_of_lt (Int.natAbs_ediv_le_natAbs x y) h
theorem MJ (x:Int) {y:Int} (hy:y≠0) (h:Ig.fits y):Ig.fits (x % y):=by
 have h1:=Int.emod_nonneg x hy;have h2:=Int.emod_lt x hy
 unfold Ig.fits at *
 omega
theorem Qu (x y:Int) (w:World) (hx:Ig.fits x) (hy:Ig.fits y) (hy0:y≠0) (hE:Env w) :
 bP 164 #[.string ⟨(Lib.itoa x).toArray⟩,.string ⟨(Lib.itoa y).toArray⟩] w (.tuple #[.string ⟨(Lib.itoa (x / y)).toArray⟩,.string ⟨(Lib.itoa (x % y)).toArray⟩,.int .i64 0]):=by
 have hB:=both_any x y w hx hy;have lx:=Ig.dW hx;have ly:=Ig.dW hy;have fq:=MK y hx;have fr:=MJ x hy0 hy;have hay:0<y.natAbs:=by omega
 have k1:decide (x<0)=false∨x.natAbs % y.natAbs=0->Kp (Ig.jm (gG (decide (x<0) != decide (y<0)) (x.natAbs / y.natAbs))=Lib.itoa (x / y)/\Ig.resE (gG (decide (x<0) != decide (y<0)) (x.natAbs / y.natAbs))=0/\Ig.jm (gG false (x.natAbs % y.natAbs))=Lib.itoa (x % y)/\Ig.resE (gG false (x.natAbs % y.natAbs))=0):=fun h=>⟨by
  have h1:=MR hy0 h;rw [h1.1,show gG false (x.natAbs % y.natAbs)=x % y from h1.2]
  exact⟨Ig.eU fq,Ig.eX fq,Ig.eU fr,Ig.eX fr⟩⟩
 have k2:decide (x<0)=true->x.natAbs % y.natAbs≠0->Kp (Ig.jm (gG (decide (x<0) != decide (y<0)) (x.natAbs / y.natAbs+1))=Lib.itoa (x / y)/\Ig.resE (gG (decide (x<0) != decide (y<0)) (x.natAbs / y.natAbs+1))=0/\Ig.jm (gG false (y.natAbs-x.natAbs % y.natAbs))=Lib.itoa (x % y)/\Ig.resE (gG false (y.natAbs-x.natAbs % y.natAbs))=0):=fun h h'=>⟨by
  have h1:=MQ hy0 h h';rw [h1.1,show gG false (y.natAbs-x.natAbs % y.natAbs)=x % y from h1.2]
  exact⟨Ig.eU fq,Ig.eX fq,Ig.eU fr,Ig.eX fr⟩⟩
 clear fq fr;generalize Lib.itoa (x / y)=SQ at *;generalize Lib.itoa (x % y)=SR at *;generalize decide (x<0)=nx at *;generalize decide (y<0)=ny at *;generalize x.natAbs=ax at *;generalize y.natAbs=ay at *;generalize Lib.itoa x=sx at *;generalize Lib.itoa y=sy at *;clear hx hy hy0;have lq:(Ig.grp (ax / ay)).length<=50:=Ig.gY lx (Nat.div_le_self _ _);have U6:(Ig.grp (ax / ay+1)).length<=50+1:=Ig.lS lq (by rw[pJ];decide);have lr:(Ig.grp (ax % ay)).length<=50:=Ig.gY lx (Nat.mod_le _ _);have lr1:(Ig.grp (ay-ax % ay)).length<=50:=Ig.gY ly (Nat.sub_le _ _);have ZC:ax % ay<=ay:=Nat.le_of_lt (Nat.mod_lt _ hay);have YK:(Ig.grp ay).length≠0:=fun e=>by have:=Ig.fK.1 e;omega
 go_enter Tryz.func164,Tryz.ntmps164
 go_wp2_with fail;refine hB.mono ?_;rintro _ w1 ⟨u,v,rfl,hu,hv,hb1⟩;obtain ⟨A1,c1,rfl,-⟩:=id hu.out;obtain ⟨A2,c2,rfl,-⟩:=id hv.out;clear hB;have hb2:=bNew (aG w1 (.cells #[.bool nx,.slice A1 (Ig.grp ax).length c1] 299)) (.cells #[.bool ny,.slice A2 (Ig.grp ay).length c2] 299);have B1:=(Bx.mk w1 299 #[.bool nx,.slice A1 (Ig.grp ax).length c1]).new (.cells #[.bool ny,.slice A2 (Ig.grp ay).length c2] 299);have B2:=Bx.mk (w1.alloc (.cells #[.bool nx,.slice A1 (Ig.grp ax).length c1] 299)) 299 #[.bool ny,.slice A2 (Ig.grp ay).length c2];rw [aj]at B2;have t0:decide (((Ig.grp ay).length:Int)=0)=false:=decide_eq_false (by omega);have t1:(((Ig.grp ay).length:Int)==0)=false:=beq_eq_false_iff_ne.2 (by omega);go_wp2_with fail;clear t0 t1;replace hu:=hu.call hb2;replace hv:=hv.call hb2;replace hb1:=ah hb1 hb2;have hO:=zL ax ay _ _ _ hu hv hay (by omega) (by omega);generalize hg:((w1.alloc (.cells #[.bool nx,.slice A1 (Ig.grp ax).length c1] 299)).alloc (.cells #[.bool ny,.slice A2 (Ig.grp ay).length c2] 299))=W0 at *;clear hg hb2;refine hO.mono ?_;rintro _ W1 ⟨q,r,rfl,hq,hr,hb3⟩;clear hO;obtain ⟨A3,c3,rfl,-⟩:=id hq.out;obtain ⟨A4,c4,rfl,-⟩:=id hr.out;replace B1:=B1.call hb3;replace B2:=B2.call hb3;replace hv:=hv.call hb3;replace hb1:=ah hb1 hb3;have hE1:=hE.below hb1;have p0:=B1.cell 0 rfl;have p2:=B2.cell 0 rfl;clear hb3 hu hE;cases nx
 · have hk:=k1 (.inl rfl);clear k1 k2;cases ny
   · go_wp2_with fail;have hT1:=dF false (ax / ay) _ W1 hq (by omega) hE1;have hk1:Ig.jm (gG false (ax / ay))=SQ:=hk.out.1;have hk2:Ig.resE (gG false (ax / ay))=0:=hk.out.2.1;rw [hk1,hk2]at hT1;refine hT1.mono ?_;rintro _ w6 ⟨rfl,hb6⟩;have KR:=hr.call hb6;have L9:=hE1.below hb6;have hb7:=ah hb1 hb6;have hT2:=dF false (ax % ay) _ w6 KR (by first|omega|(rw [hn4.out];omega)) L9;rw [hk.out.2.2.1,hk.out.2.2.2]at hT2;clear hT1 hk hk1 hk2;go_wp2_with fail;refine hT2.mono ?_;rintro _ w7 ⟨rfl,hb8⟩;clear hT2;go_wp2
     go_ret3
     exact⟨rfl,ah hb7 hb8⟩
   · go_wp2_with fail;have hT1:=dF true (ax / ay) _ W1 hq (by omega) hE1;have hk1:Ig.jm (gG true (ax / ay))=SQ:=hk.out.1;have hk2:Ig.resE (gG true (ax / ay))=0:=hk.out.2.1;rw [hk1,hk2]at hT1;refine hT1.mono ?_;rintro _ w6 ⟨rfl,hb6⟩;have KR:=hr.call hb6;have L9:=hE1.below hb6;have hb7:=ah hb1 hb6;have hT2:=dF false (ax % ay) _ w6 KR (by first|omega|(rw [hn4.out];omega)) L9;rw [hk.out.2.2.1,hk.out.2.2.2]at hT2;clear hT1 hk hk1 hk2;go_wp2_with fail;refine hT2.mono ?_;rintro _ w7 ⟨rfl,hb8⟩;clear hT2;go_wp2
     go_ret3
     exact⟨rfl,ah hb7 hb8⟩
 · by_cases hr0:ax % ay=0
   · have hk:=k1 (.inr hr0);have hl0:((Ig.grp (ax % ay)).length:Int)=0:=by rw[hr0,Ig.aS];rfl
     have t0:decide (0<(Ig.grp (ax % ay)).length)=false:=decide_eq_false (by omega);clear k1 k2 hl0 hr0;generalize hn4:(Ig.grp (ax % ay)).length=n4 at *;replace hn4:=Kp.mk hn4;cases ny
     · go_wp2_with fail;have hT1:=dF true (ax / ay) _ W1 hq (by omega) hE1;have hk1:Ig.jm (gG true (ax / ay))=SQ:=hk.out.1;have hk2:Ig.resE (gG true (ax / ay))=0:=hk.out.2.1;rw [hk1,hk2]at hT1;refine hT1.mono ?_;rintro _ w6 ⟨rfl,hb6⟩;have KR:=hr.call hb6;have L9:=hE1.below hb6;have hb7:=ah hb1 hb6;have hT2:=dF false (ax % ay) _ w6 KR (by first|omega|(rw [hn4.out];omega)) L9;rw [hk.out.2.2.1,hk.out.2.2.2]at hT2;clear hT1 hk hk1 hk2;go_wp2_with fail;refine hT2.mono ?_;rintro _ w7 ⟨rfl,hb8⟩;clear hT2;go_wp2
       go_ret3
       exact⟨rfl,ah hb7 hb8⟩
     · go_wp2_with fail;have hT1:=dF false (ax / ay) _ W1 hq (by omega) hE1;have hk1:Ig.jm (gG false (ax / ay))=SQ:=hk.out.1;have hk2:Ig.resE (gG false (ax / ay))=0:=hk.out.2.1;rw [hk1,hk2]at hT1;refine hT1.mono ?_;rintro _ w6 ⟨rfl,hb6⟩;have KR:=hr.call hb6;have L9:=hE1.below hb6;have hb7:=ah hb1 hb6;have hT2:=dF false (ax % ay) _ w6 KR (by first|omega|(rw [hn4.out];omega)) L9;rw [hk.out.2.2.1,hk.out.2.2.2]at hT2;clear hT1 hk hk1 hk2;go_wp2_with fail;refine hT2.mono ?_;rintro _ w7 ⟨rfl,hb8⟩;clear hT2;go_wp2
       go_ret3
       exact⟨rfl,ah hb7 hb8⟩
   · have hk:=k2 rfl hr0;have hl0:(Ig.grp (ax % ay)).length≠0:=fun e=>hr0 (Ig.fK.1 e)
     have t0:decide (0<(Ig.grp (ax % ay)).length)=true:=decide_eq_true (by omega);clear k1 k2 hl0 hr0;generalize hn4:(Ig.grp (ax % ay)).length=n4 at *;replace hn4:=Kp.mk hn4;go_wp2_with fail;clear t0;have hly':=Kp.mk ly;have hlq':=Kp.mk lq;have p1:=fun w2 (hb2:Below W1.heap.size W1 w2)=>(hb2.cell (p:=⟨w1.heap.size+1,1,none⟩) B2.lt).trans (B2.cell 1 rfl)
     refine au [ak (.slice A3 (Ig.grp (ax / ay)).length c3),(fun v W=>aA W 1 v),(fun v W=>aA W (ax / ay+1) v),ak (.pointer (some ⟨w1.heap.size+1,1,none⟩)),ak (.slice A2 (Ig.grp ay).length c2),ak (.slice A4 n4 c4),(fun v W=>aA W (ay-ax % ay) v)] 7 75 (by kernel_rfl) rfl rfl (by kernel_rfl) ?_ ?_ ?_
     · simp only[aY]
       and_intros <;> first|exact aI _|exact fun v w w' h hb=>h.call hb|trivial
     · simp only[Users,List.take,List.length];refine ⟨?_,?_,?_,?_,?_,?_,?_,trivial⟩;all_goals (intro vs w2 hb2 hd;have c5:=p1 w2 hb2;have hq2:=hq.call hb2;have hr2:=hr.call hb2;have hv2:=hv.call hb2;clear p1;simp only[aN,Act.put,List.nil_append,List.cons_append,List.setIfInBounds_toArray,List.set_cons_succ,List.set_cons_zero,Nat.reduceAdd])
       · clear hd;go_wp2;exact⟨Below.refl _ _,rfl⟩
       · clear hd;have hC:=one_any w2;go_wp2_with fail;refine hC.mono ?_;clear hC;rintro _ w9 ⟨v9,rfl,kT,aX⟩;go_wp2;exact kT
       · have e:=hd 0 rfl;change vs 0=_ at e;have e':aA w2 1 (vs 1):=hd 1 rfl;clear hd;rw[e];have hC:=oQ (ax / ay) 1 _ (vs 1) w2 hq2 e' (by omega) (by rw[pJ];decide);go_wp2_with fail;refine hC.mono ?_;clear hC;rintro _ w9 ⟨v9,rfl,kT,aX⟩;go_wp2;exact kT
       · clear hd;go_wp2;exact⟨Below.refl _ _,rfl⟩
       · have e:=hd 3 rfl;change vs 3=_ at e;clear hd;rw[e];go_wp2;exact⟨Below.refl _ _,rfl⟩
       · clear hd;go_wp2;exact⟨Below.refl _ _,rfl⟩
       · have e:=hd 4 rfl;change vs 4=_ at e;have e':=hd 5 rfl;change vs 5=_ at e';clear hd;rw[e,e'];have hC:=mX ay (ax % ay) _ _ w2 hv2 hr2 ZC (by omega);go_wp2_with fail;refine hC.mono ?_;clear hC;rintro _ w9 ⟨v9,rfl,kT,aX⟩;go_wp2;exact kT
     · clear p1;intro vs wa hba hR;simp only[bV,ak]at hR;obtain ⟨-,-,e2,-,-,-,e6,-⟩:=hR;simp only[List.drop,List.take,List.map,aN,Act.put,List.setIfInBounds_toArray,List.set_cons_succ,List.set_cons_zero,Nat.reduceAdd];generalize vs 2=z2 at *;generalize vs 6=z6 at *;generalize vs 0=z0,vs 1=z1,vs 3=z3,vs 4=z4,vs 5=z5;obtain ⟨A7,c7,rfl,-⟩:=id e2.out;obtain ⟨A8,c8,rfl,-⟩:=id e6.out;replace B1:=B1.call hba;replace B2:=B2.call hba;have p0:=B1.cell 0 rfl;have p2:=B2.cell 0 rfl;replace hb1:=ah hb1 hba;replace hE1:=hE1.below hba;clear hba;cases ny
       · go_wp2_with fail;have hT1:=dF true (ax / ay+1) _ wa e2 (by omega) hE1;have hk1:Ig.jm (gG true (ax / ay+1))=SQ:=hk.out.1;have hk2:Ig.resE (gG true (ax / ay+1))=0:=hk.out.2.1;rw [hk1,hk2]at hT1;refine hT1.mono ?_;rintro _ w6 ⟨rfl,hb6⟩;have KR:=e6.call hb6;have L9:=hE1.below hb6;have hb7:=ah hb1 hb6;have hT2:=dF false (ay-ax % ay) _ w6 KR (by first|omega|(rw [hn4.out];omega)) L9;rw [hk.out.2.2.1,hk.out.2.2.2]at hT2;clear hT1 hk hk1 hk2;go_wp2_with fail;refine hT2.mono ?_;rintro _ w7 ⟨rfl,hb8⟩;clear hT2;go_wp2
         go_ret3
         exact⟨rfl,ah hb7 hb8⟩
       · go_wp2_with fail;have hT1:=dF false (ax / ay+1) _ wa e2 (by omega) hE1;have hk1:Ig.jm (gG false (ax / ay+1))=SQ:=hk.out.1;have hk2:Ig.resE (gG false (ax / ay+1))=0:=hk.out.2.1;rw [hk1,hk2]at hT1;refine hT1.mono ?_;rintro _ w6 ⟨rfl,hb6⟩;have KR:=e6.call hb6;have L9:=hE1.below hb6;have hb7:=ah hb1 hb6;have hT2:=dF false (ay-ax % ay) _ w6 KR (by first|omega|(rw [hn4.out];omega)) L9;rw [hk.out.2.2.1,hk.out.2.2.2]at hT2;clear hT1 hk hk1 hk2;go_wp2_with fail;refine hT2.mono ?_;rintro _ w7 ⟨rfl,hb8⟩;clear hT2;go_wp2
         go_ret3
         exact⟨rfl,ah hb7 hb8⟩
theorem mD (n:Int) (w:World) (h0: -9223372036854775808<=n) (h1:n<=9223372036854775807) (hE:Env w) :
 bP 57 #[.int .i64 n] w (.string ⟨(Lib.itoa n).toArray⟩):=by
 have hC:=B_ n w h0 h1 hE
 go_enter Tryz.func57,Tryz.ntmps57
 go_wp2_with fail;refine hC.mono ?_;rintro _ w1 ⟨rfl,hb⟩;clear hC;go_wp2;go_ret;exact ⟨rfl,hb⟩
end Go.Proofs.YtohgjenaclfegaaGreatDoor
namespace Dx
def aK:List Int->Int
 | []=>0
 | g :: l=>g+10*aK l
def Gr (l:List Int):Prop:=∀g∈l,0<=g/\g<10
def grp (n:Nat):List Int:=if h:n=0 then [] else ((n % 10:Nat):Int) :: grp (n / 10)
 termination_by n
 decreasing_by omega
theorem aS:grp 0=[]:=by rw[grp,dif_pos rfl]
theorem dO {n:Nat} (h:n≠0):grp n=((n % 10:Nat):Int) :: grp (n / 10):=by rw[grp,dif_neg h]
theorem bZ (n:Nat):aK (grp n)=n:=by
 induction n using Nat.strongRecOn with
 | _ n ih =>
  by_cases h:n=0
  · subst h;rw[aS];rfl
  · rw[dO h,aK,ih (n / 10) (by omega)];omega
theorem dB (n:Nat):Gr (grp n):=by
 induction n using Nat.strongRecOn with
 | _ n ih =>
  by_cases h:n=0
  · subst h;rw[aS];intro g hg;cases hg
  · rw[dO h];intro g hg
    rcases List.mem_cons.1 hg with rfl|hg
    · omega
    · exact ih (n / 10) (by omega) g hg
theorem pO {n:Nat}:grp n=[]↔n=0:=by
 constructor
 · intro h;by_cases h0:n=0
   · exact h0
   · rw[dO h0]at h;cases h
 · rintro rfl;exact aS
theorem eG {l:List Int} (h:Gr l):0<=aK l:=by
 induction l with
 | nil=>exact Int.le_refl _
 | cons g l ih =>
  have h1:=h g (by simp);have h2:=ih (fun x hx=>h x (by simp[hx]))
  unfold aK;omega
theorem cO (a b:List Int):aK (a++b)=aK a+10 ^ a.length*aK b:=by
 induction a with
 | nil=>simp[aK]
 | cons g a ih =>
  rw[List.cons_append,aK,ih,aK,List.length_cons,Int.pow_succ];rw [Int.mul_add,←Int.mul_assoc,Int.mul_comm 10 (10 ^ a.length)];omega
theorem kG {l:List Int} (h:Gr l):aK l<10 ^ l.length:=by
 induction l with
 | nil=>decide
 | cons g l ih =>
  have h1:=h g (by simp);have h2:=ih (fun x hx=>h x (by simp[hx]));rw [aK,List.length_cons,Int.pow_succ];omega
theorem uq:∀ {l:List Int},Gr l->l.getLast? ≠ some 0->l=grp (aK l).toNat
 | [],_,_=>by rw[aK];exact aS.symm
 | g :: l,h,ht=>by
  have h1:=h g (by simp);have h2:Gr l:=fun x hx=>h x (by simp[hx])
  have h3:=eG h2
  have ht2:l.getLast? ≠ some 0:=by
   cases l with
   | nil=>simp
   | cons a l=>simpa [List.getLast?_cons_cons] using ht
  have ih:=uq h2 ht2
  have hne:(aK (g :: l)).toNat≠0:=by
   rw[aK];intro h0;have hl0:aK l=0:=by omega
   rw[hl0]at ih;rw [show (0:Int).toNat=0 from rfl,aS]at ih;subst ih;have hg:g=0:=by omega
   subst hg;simp at ht
  rw[dO hne];have e1:((aK (g :: l)).toNat / 10)=(aK l).toNat:=by rw[aK];omega
  have e2:(((aK (g :: l)).toNat % 10:Nat):Int)=g:=by rw[aK];omega
  rw[e1,e2,←ih]
def bg (l:List Int):List Int:=(l.reverse.dropWhile (·==0)).reverse
theorem dU (l:List Int):bg (l++[0])=bg l:=by simp[bg]
theorem iR {l:List Int} {g:Int} (h:g≠0):bg (l++[g])=l++[g]:=by simp[bg,h]
theorem j_ (l:List Int):l=[]∨∃m g,l=m++[g]:=by
 rcases List.eq_nil_or_concat l with h|⟨m,g,h⟩
 · exact .inl h
 · exact .inr ⟨m,g,by simpa using h⟩
theorem jJ:∀(n:Nat) {l:List Int},l.length=n->Gr l->bg l=grp (aK l).toNat
 | 0,l,hn,_=>by
  obtain rfl:l=[]:=List.length_eq_zero_iff.1 hn;exact aS.symm
 | n+1,l,hn,h=>by
  rcases j_ l with rfl|⟨m,g,rfl⟩
  · simp at hn
  · have hm:Gr m:=fun x hx=>h x (by simp[hx])
    by_cases hg:g=0
    · subst hg;rw [dU,jJ n (by simpa using hn) hm,cO];simp [aK]
    · rw[iR hg];exact uq h (by simp[hg])
theorem iT {l:List Int} (h:Gr l):bg l=grp (aK l).toNat:=jJ _ rfl h
theorem qR (n:Nat):(grp n).getLast? ≠ some 0:=by
 induction n using Nat.strongRecOn with
 | _ n ih =>
  by_cases h:n=0
  · subst h;rw[aS];simp
  · rw[dO h]
    cases hl:grp (n / 10) with
    | nil =>
     have h0:=pO.1 hl;simp;omega
    | cons a l =>
     rw[List.getLast?_cons_cons,←hl];exact ih (n / 10) (by omega)
theorem iw {n k:Nat} (h:n<10 ^ k):(grp n).length<=k:=by
 induction k generalizing n with
 | zero =>
  have:n=0:=by simpa using h
  subst this;rw[aS];simp
 | succ k ih =>
  by_cases h0:n=0
  · subst h0;rw[aS];simp
  · rw[dO h0,List.length_cons]
    have:n / 10<10 ^ k:=by
     rw[Nat.pow_succ]at h;exact Nat.div_lt_of_lt_mul (by rw[Nat.mul_comm];exact h)
    have:=ih this;omega
theorem jd (n:Nat):n<10 ^ (grp n).length:=by
 have h1:=kG (dB n);rw [bZ]at h1;have h2:((10 ^ (grp n).length:Nat):Int)=(10:Int) ^ (grp n).length:=by simp
 omega
theorem FW (l:List Int):bg l=Ig.bg l:=rfl
end Dx

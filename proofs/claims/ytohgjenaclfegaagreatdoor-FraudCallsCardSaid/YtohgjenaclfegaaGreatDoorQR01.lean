import Derived.Test.YtohgjenaclfegaaGreatDoorQR00
set_option linter.unusedVariables false
set_option linter.unusedSimpArgs false
set_option maxRecDepth 100000
set_option maxHeartbeats 8000000
namespace Go.Proofs.YtohgjenaclfegaaGreatDoor
open Go.RowKit Go.Shelf
theorem vg (a1 a2 b1 b2 p q s d r1 r2:List UInt8) (code:Int) (c4:Bool) (w:World) (hE:Env w) (Vx:a1.length<=1000000) (Vw:a2.length<=1000000) (Vu:b1.length<=1000000) (Vt:b2.length<=1000000) (h0:(!Rq.okB a1 a2|| !Rq.okB b1 b2)=false)
 (hX1:∀W0 W g,Env W0->Wk W0 W g false->Calls Tryz.prog 211 #[.pointer (some ⟨g,0,none⟩),.string ⟨a1.toArray⟩,.string ⟨b2.toArray⟩] W fun e w'=>e=.returned (.string ⟨p.toArray⟩)/\Wk W0 w' g false)
 (hX2:∀W0 W g,Env W0->Wk W0 W g false->Calls Tryz.prog 211 #[.pointer (some ⟨g,0,none⟩),.string ⟨b1.toArray⟩,.string ⟨a2.toArray⟩] W fun e w'=>e=.returned (.string ⟨q.toArray⟩)/\Wk W0 w' g false)
 (l7:∀W0 W g,Env W0->Wk W0 W g false->Calls Tryz.prog 151 #[.pointer (some ⟨g,0,none⟩),.func (.func 223) #[] #[],.string ⟨p.toArray⟩,.string ⟨q.toArray⟩] W fun e w'=>e=.returned (.string ⟨s.toArray⟩)/\Wk W0 w' g false)
 (hX4:∀W0 W g,Env W0->Wk W0 W g false->Calls Tryz.prog 211 #[.pointer (some ⟨g,0,none⟩),.string ⟨a2.toArray⟩,.string ⟨b2.toArray⟩] W fun e w'=>e=.returned (.string ⟨d.toArray⟩)/\Wk W0 w' g c4)
 (hX5:∀W0 W g,Env W0->Wk W0 W g c4->Calls Tryz.prog 98 #[.pointer (some ⟨g,0,none⟩),.string ⟨s.toArray⟩,.string ⟨d.toArray⟩] W fun e w'=>e=.returned (.tuple #[.agg #[.string ⟨r1.toArray⟩,.string ⟨r2.toArray⟩],.int .i64 code])/\Below W0.heap.size W0 w') :
 aT 222 #[.func (.func 223) #[] #[],.agg #[.string ⟨a1.toArray⟩,.string ⟨a2.toArray⟩],.agg #[.string ⟨b1.toArray⟩,.string ⟨b2.toArray⟩]] w (.tuple #[.agg #[.string ⟨r1.toArray⟩,.string ⟨r2.toArray⟩],.int .i64 code]):=by
 have hb:=bNew (bNew (aA w (.cells #[.string ⟨a1.toArray⟩,.string ⟨a2.toArray⟩] 77)) (.cells #[.string ⟨b1.toArray⟩,.string ⟨b2.toArray⟩] 77)) (.cells #[.string ⟨#[]⟩,.string ⟨#[]⟩] 77);have BA:=((Bx.mk w 77 #[.string ⟨a1.toArray⟩,.string ⟨a2.toArray⟩]).new (.cells #[.string ⟨b1.toArray⟩,.string ⟨b2.toArray⟩] 77)).new (.cells #[.string ⟨#[]⟩,.string ⟨#[]⟩] 77);have BB:=(Bx.mk (w.alloc (.cells #[.string ⟨a1.toArray⟩,.string ⟨a2.toArray⟩] 77)) 77 #[.string ⟨b1.toArray⟩,.string ⟨b2.toArray⟩]).new (.cells #[.string ⟨#[]⟩,.string ⟨#[]⟩] 77);have BR:=Bx.mk ((w.alloc (.cells #[.string ⟨a1.toArray⟩,.string ⟨a2.toArray⟩] 77)).alloc (.cells #[.string ⟨b1.toArray⟩,.string ⟨b2.toArray⟩] 77)) 77 #[.string ⟨#[]⟩,.string ⟨#[]⟩];rw [aj]at BB;rw [aj,aj]at BR;have hE1:=hE.below hb;have hsz:(((w.alloc (.cells #[.string ⟨a1.toArray⟩,.string ⟨a2.toArray⟩] 77)).alloc (.cells #[.string ⟨b1.toArray⟩,.string ⟨b2.toArray⟩] 77)).alloc (.cells #[.string ⟨#[]⟩,.string ⟨#[]⟩] 77)).heap.size=w.heap.size+3:=by rw[aj,aj,aj]
 have Um:=BA.cell 0 rfl;have Ul:=BA.cell 1 rfl;have cB0:=BB.cell 0 rfl;have cB1:=BB.cell 1 rfl;have hC:=zW a1 a2 b1 b2 _ _ hsz Vx Vw Vu Vt hE1;clear Vx Vw Vu Vt
 go_enter Tryz.func222,Tryz.ntmps222
 go_wp2_with fail;generalize (((w.alloc (.cells #[.string ⟨a1.toArray⟩,.string ⟨a2.toArray⟩] 77)).alloc (.cells #[.string ⟨b1.toArray⟩,.string ⟨b2.toArray⟩] 77)).alloc (.cells #[.string ⟨#[]⟩,.string ⟨#[]⟩] 77))=W0 at *;replace hsz:=Kp.mk hsz;refine hC.mono ?_;rintro _ w1 ⟨⟨v,rfl⟩,hw1⟩;clear hC Um Ul cB0 cB1;go_wp2_with fail;generalize hg3:w.heap.size+3=g at *;generalize hgB:w.heap.size+1=gB at *;generalize hgA:w.heap.size=gA at *;have cA:∀w2 b,Wk W0 w2 g b->w2.cell? ⟨gA,0,none⟩=some (.string ⟨a1.toArray⟩)/\w2.cell? ⟨gA,1,none⟩=some (.string ⟨a2.toArray⟩):=fun w2 b h=>⟨(BA.below h.hb BA.lt).cell 0 rfl,(BA.below h.hb BA.lt).cell 1 rfl⟩
 have cB:∀w2 b,Wk W0 w2 g b->w2.cell? ⟨gB,0,none⟩=some (.string ⟨b1.toArray⟩)/\w2.cell? ⟨gB,1,none⟩=some (.string ⟨b2.toArray⟩):=fun w2 b h=>⟨(BB.below h.hb BB.lt).cell 0 rfl,(BB.below h.hb BB.lt).cell 1 rfl⟩
 replace hgA:=Kp.mk hgA;replace hgB:=Kp.mk hgB;replace hg3:=Kp.mk hg3;rw [h0]at hw1;clear h0;refine RK.au (aad W0 g) [RK.ak (.pointer (some ⟨g,0,none⟩)),RK.ak (.func (.func 223) #[] #[]),RK.ak (.pointer (some ⟨g,0,none⟩)),RK.ak (.pointer (some ⟨gA,0,none⟩)),RK.ak (.string ⟨a1.toArray⟩),RK.ak (.pointer (some ⟨gB,1,none⟩)),RK.ak (.string ⟨b2.toArray⟩),RK.ak (.string ⟨p.toArray⟩),RK.ak (.pointer (some ⟨g,0,none⟩)),RK.ak (.pointer (some ⟨gB,0,none⟩)),RK.ak (.string ⟨b1.toArray⟩),RK.ak (.pointer (some ⟨gA,1,none⟩)),RK.ak (.string ⟨a2.toArray⟩),RK.ak (.string ⟨q.toArray⟩),RK.ak (.string ⟨s.toArray⟩),RK.ak (.string ⟨s.toArray⟩)] 16 43 (by kernel_rfl) rfl rfl (by kernel_rfl) ?_ ?_ ?_
 · simp only[RK.aY]
   and_intros <;> first|exact RK.aB _|trivial
 · simp only[RK.Users,List.take,List.length];refine ⟨?_,?_,?_,?_,?_,?_,?_,?_,?_,?_,?_,?_,?_,?_,?_,?_,trivial⟩;all_goals (intro vs w2 hb2 hd;simp only[RK.aJ,Act.put,List.nil_append,List.cons_append,List.setIfInBounds_toArray,List.set_cons_succ,List.set_cons_zero,Nat.reduceAdd];clear hX4 hX5)
   · clear hd hX1 hX2 l7 cA cB;go_wp2;exact⟨fun h=>h,rfl⟩
   · clear hd hX1 hX2 l7 cA cB;go_wp2;exact⟨fun h=>h,rfl⟩
   · clear hd hX1 hX2 l7 cA cB;go_wp2;exact⟨fun h=>h,rfl⟩
   · clear hd hX1 hX2 l7 cA cB;go_wp2;exact⟨fun h=>h,rfl⟩
   · have e0:vs 3=_:=hd 3 rfl;have hw:=hb2 hw1;have c0:=(cA _ _ hw).1;have c1:=(cA _ _ hw).2;clear hd hX1 hX2 l7 cA cB;rw[e0];go_wp2;exact⟨fun h=>h,rfl⟩
   · clear hd hX1 hX2 l7 cA cB;go_wp2;exact⟨fun h=>h,rfl⟩
   · have e0:vs 5=_:=hd 5 rfl;have hw:=hb2 hw1;have c0:=(cB _ _ hw).1;have c1:=(cB _ _ hw).2;clear hd hX1 hX2 l7 cA cB;rw[e0];go_wp2;exact⟨fun h=>h,rfl⟩
   · have e0:vs 2=_:=hd 2 rfl;have e1:vs 4=_:=hd 4 rfl;have e2:vs 6=_:=hd 6 rfl;have hC:=hX1 W0 w2 g hE1 (hb2 hw1);clear hd hX1 hX2 l7 cA cB;rw[e0,e1,e2];go_wp2_with fail;refine hC.mono ?_;rintro _ w9 ⟨rfl,AB⟩;clear hC;go_wp2;exact ⟨fun _=>AB,rfl⟩
   · clear hd hX1 hX2 l7 cA cB;go_wp2;exact⟨fun h=>h,rfl⟩
   · clear hd hX1 hX2 l7 cA cB;go_wp2;exact⟨fun h=>h,rfl⟩
   · have e0:vs 9=_:=hd 9 rfl;have hw:=hb2 hw1;have c0:=(cB _ _ hw).1;have c1:=(cB _ _ hw).2;clear hd hX1 hX2 l7 cA cB;rw[e0];go_wp2;exact⟨fun h=>h,rfl⟩
   · clear hd hX1 hX2 l7 cA cB;go_wp2;exact⟨fun h=>h,rfl⟩
   · have e0:vs 11=_:=hd 11 rfl;have hw:=hb2 hw1;have c0:=(cA _ _ hw).1;have c1:=(cA _ _ hw).2;clear hd hX1 hX2 l7 cA cB;rw[e0];go_wp2;exact⟨fun h=>h,rfl⟩
   · have e0:vs 8=_:=hd 8 rfl;have e1:vs 10=_:=hd 10 rfl;have e2:vs 12=_:=hd 12 rfl;have hC:=hX2 W0 w2 g hE1 (hb2 hw1);clear hd hX1 hX2 l7 cA cB;rw[e0,e1,e2];go_wp2_with fail;refine hC.mono ?_;rintro _ w9 ⟨rfl,AB⟩;clear hC;go_wp2;exact ⟨fun _=>AB,rfl⟩
   · have e0:vs 0=_:=hd 0 rfl;have e1:vs 1=_:=hd 1 rfl;have e2:vs 7=_:=hd 7 rfl;have e3:vs 13=_:=hd 13 rfl;have hC:=l7 W0 w2 g hE1 (hb2 hw1);clear hd hX1 hX2 l7 cA cB;rw[e0,e1,e2,e3];go_wp2_with fail;refine hC.mono ?_;rintro _ w9 ⟨rfl,AB⟩;clear hC;go_wp2;exact ⟨fun _=>AB,rfl⟩
   · have e0:vs 14=_:=hd 14 rfl;clear hd hX1 hX2 l7 cA cB;rw[e0];go_wp2;exact⟨fun h=>h,rfl⟩
 · intro vs wa hba hR2;simp only[RK.bP,RK.ak]at hR2;obtain ⟨e0,e1,e2,e3,e4,e5,e6,e7,e8,e9,e10,e11,e12,e13,e14,e15,-⟩:=hR2;simp only[List.drop,List.take,List.map,RK.aJ,Act.put,List.setIfInBounds_toArray,List.set_cons_succ,List.set_cons_zero,Nat.reduceAdd];rw [e0,e1,e2,e3,e4,e5,e6,e7,e8,e9,e10,e11,e12,e13,e14,e15];have Gl:=hba hw1;clear hX1 hX2 l7 hw1;have c0:=(cA _ _ Gl).1;have c1:=(cA _ _ Gl).2;have d0:=(cB _ _ Gl).1;have d1:=(cB _ _ Gl).2;go_wp2_with fail;refine (hX4 W0 _ _ hE1 Gl).mono ?_;rintro _ w3 ⟨rfl,hw3⟩;clear hX4 Gl c0 c1 d0 d1;go_wp2_with fail;refine (hX5 W0 _ _ hE1 hw3).mono ?_;rintro _ w4 ⟨rfl,hb4⟩;clear hX5 hw3;have B:=BR.below hb4 BR.lt;have hb5:=hb.trans (hb4.mono (by have h1:=hb.size;have h2:=hgA.out;omega));have hle:gA<=gB+1:=by have:=hgA.out;have:=hgB.out;omega
   clear BR hb4 hb BA BB cA cB;have r0:=B.cell 0 rfl;have q1:=B.cell 1 rfl;have f0:=B.frozen 0;have f1:=B.frozen 1;have B2:=(B.set 0 (.string ⟨r1.toArray⟩)).set 1 (.string ⟨r2.toArray⟩);have hb2:=(hb5.setCell (p:=⟨gB+1,0,none⟩) hle (.string ⟨r1.toArray⟩)).setCell (p:=⟨gB+1,1,none⟩) hle (.string ⟨r2.toArray⟩);go_wp2;exact bodyPost_ret (bG rfl _ _ rfl rfl B2) rfl ⟨rfl,by rw[hgA.out];exact hb2⟩
theorem w_ (a1 a2 b1 b2 p q s:List UInt8) (c0 c1 c2 c3:Bool) (w:World) (hE:Env w) (Vx:a1.length<=1000000) (Vw:a2.length<=1000000) (Vu:b1.length<=1000000) (Vt:b2.length<=1000000) (h0:(!Rq.okB a1 a2|| !Rq.okB b1 b2)=c0) (hbad:c0=true∨c1=true∨c2=true∨c3=true)
 (hX1:c0=false->∀W0 W g,Env W0->Wk W0 W g false->Calls Tryz.prog 211 #[.pointer (some ⟨g,0,none⟩),.string ⟨a1.toArray⟩,.string ⟨b2.toArray⟩] W fun e w'=>e=.returned (.string ⟨p.toArray⟩)/\Wk W0 w' g c1)
 (hX2:c0=false->∀W0 W g,Env W0->Wk W0 W g false->Calls Tryz.prog 211 #[.pointer (some ⟨g,0,none⟩),.string ⟨b1.toArray⟩,.string ⟨a2.toArray⟩] W fun e w'=>e=.returned (.string ⟨q.toArray⟩)/\Wk W0 w' g c2)
 (l7:c0=false->c1=false->c2=false->∀W0 W g,Env W0->Wk W0 W g false->Calls Tryz.prog 151 #[.pointer (some ⟨g,0,none⟩),.func (.func 223) #[] #[],.string ⟨p.toArray⟩,.string ⟨q.toArray⟩] W fun e w'=>e=.returned (.string ⟨s.toArray⟩)/\Wk W0 w' g c3) :
 aT 222 #[.func (.func 223) #[] #[],.agg #[.string ⟨a1.toArray⟩,.string ⟨a2.toArray⟩],.agg #[.string ⟨b1.toArray⟩,.string ⟨b2.toArray⟩]] w (.tuple #[QZ,.int .i64 40]):=by
 unfold QZ
 have hb:=bNew (bNew (aA w (.cells #[.string ⟨a1.toArray⟩,.string ⟨a2.toArray⟩] 77)) (.cells #[.string ⟨b1.toArray⟩,.string ⟨b2.toArray⟩] 77)) (.cells #[.string ⟨#[]⟩,.string ⟨#[]⟩] 77);have BA:=((Bx.mk w 77 #[.string ⟨a1.toArray⟩,.string ⟨a2.toArray⟩]).new (.cells #[.string ⟨b1.toArray⟩,.string ⟨b2.toArray⟩] 77)).new (.cells #[.string ⟨#[]⟩,.string ⟨#[]⟩] 77);have BB:=(Bx.mk (w.alloc (.cells #[.string ⟨a1.toArray⟩,.string ⟨a2.toArray⟩] 77)) 77 #[.string ⟨b1.toArray⟩,.string ⟨b2.toArray⟩]).new (.cells #[.string ⟨#[]⟩,.string ⟨#[]⟩] 77);have BR:=Bx.mk ((w.alloc (.cells #[.string ⟨a1.toArray⟩,.string ⟨a2.toArray⟩] 77)).alloc (.cells #[.string ⟨b1.toArray⟩,.string ⟨b2.toArray⟩] 77)) 77 #[.string ⟨#[]⟩,.string ⟨#[]⟩];rw [aj]at BB;rw [aj,aj]at BR;have hE1:=hE.below hb;have hsz:(((w.alloc (.cells #[.string ⟨a1.toArray⟩,.string ⟨a2.toArray⟩] 77)).alloc (.cells #[.string ⟨b1.toArray⟩,.string ⟨b2.toArray⟩] 77)).alloc (.cells #[.string ⟨#[]⟩,.string ⟨#[]⟩] 77)).heap.size=w.heap.size+3:=by rw[aj,aj,aj]
 have Um:=BA.cell 0 rfl;have Ul:=BA.cell 1 rfl;have cB0:=BB.cell 0 rfl;have cB1:=BB.cell 1 rfl;have hC:=zW a1 a2 b1 b2 _ _ hsz Vx Vw Vu Vt hE1;clear Vx Vw Vu Vt
 go_enter Tryz.func222,Tryz.ntmps222
 go_wp2_with fail;generalize (((w.alloc (.cells #[.string ⟨a1.toArray⟩,.string ⟨a2.toArray⟩] 77)).alloc (.cells #[.string ⟨b1.toArray⟩,.string ⟨b2.toArray⟩] 77)).alloc (.cells #[.string ⟨#[]⟩,.string ⟨#[]⟩] 77))=W0 at *;replace hsz:=Kp.mk hsz;refine hC.mono ?_;rintro _ w1 ⟨⟨v,rfl⟩,hw1⟩;clear hC Um Ul cB0 cB1;go_wp2_with fail;generalize hg3:w.heap.size+3=g at *;generalize hgB:w.heap.size+1=gB at *;generalize hgA:w.heap.size=gA at *;have cA:∀w2 b,Wk W0 w2 g b->w2.cell? ⟨gA,0,none⟩=some (.string ⟨a1.toArray⟩)/\w2.cell? ⟨gA,1,none⟩=some (.string ⟨a2.toArray⟩):=fun w2 b h=>⟨(BA.below h.hb BA.lt).cell 0 rfl,(BA.below h.hb BA.lt).cell 1 rfl⟩
 have cB:∀w2 b,Wk W0 w2 g b->w2.cell? ⟨gB,0,none⟩=some (.string ⟨b1.toArray⟩)/\w2.cell? ⟨gB,1,none⟩=some (.string ⟨b2.toArray⟩):=fun w2 b h=>⟨(BB.below h.hb BB.lt).cell 0 rfl,(BB.below h.hb BB.lt).cell 1 rfl⟩
 replace hgA:=Kp.mk hgA;replace hgB:=Kp.mk hgB;replace hg3:=Kp.mk hg3;rw [h0]at hw1;clear h0;refine RK.au (aac W0 g) [RK.ak (.pointer (some ⟨g,0,none⟩)),RK.ak (.func (.func 223) #[] #[]),RK.ak (.pointer (some ⟨g,0,none⟩)),RK.ak (.pointer (some ⟨gA,0,none⟩)),RK.ak (.string ⟨a1.toArray⟩),RK.ak (.pointer (some ⟨gB,1,none⟩)),RK.ak (.string ⟨b2.toArray⟩),PB W0 g c1 p,RK.ak (.pointer (some ⟨g,0,none⟩)),RK.ak (.pointer (some ⟨gB,0,none⟩)),RK.ak (.string ⟨b1.toArray⟩),RK.ak (.pointer (some ⟨gA,1,none⟩)),RK.ak (.string ⟨a2.toArray⟩),PB W0 g c2 q,PB W0 g c3 s,PB W0 g c3 s] 16 43 (by kernel_rfl) rfl rfl (by kernel_rfl) ?_ ?_ ?_
 · simp only[RK.aY]
   and_intros <;> first|exact RK.aB _|exact UW _ _ _ _|trivial
 · simp only[RK.Users,List.take,List.length];refine ⟨?_,?_,?_,?_,?_,?_,?_,?_,?_,?_,?_,?_,?_,?_,?_,?_,trivial⟩;all_goals (intro vs w2 hb2 hd;simp only[RK.aJ,Act.put,List.nil_append,List.cons_append,List.setIfInBounds_toArray,List.set_cons_succ,List.set_cons_zero,Nat.reduceAdd])
   · clear hd hX1 hX2 l7 cA cB hbad;go_wp2;exact⟨K1.refl' _ _ _,rfl⟩
   · clear hd hX1 hX2 l7 cA cB hbad;go_wp2;exact⟨K1.refl' _ _ _,rfl⟩
   · clear hd hX1 hX2 l7 cA cB hbad;go_wp2;exact⟨K1.refl' _ _ _,rfl⟩
   · clear hd hX1 hX2 l7 cA cB hbad;go_wp2;exact⟨K1.refl' _ _ _,rfl⟩
   · have e0:vs 3=_:=hd 3 rfl;obtain⟨bb,hw,hmono⟩:=hb2 _ hw1;clear hmono;have c0':=(cA _ _ hw).1;have c1':=(cA _ _ hw).2;clear hw;clear hd hX1 hX2 l7 cA cB hbad;rw[e0];go_wp2;exact⟨K1.refl' _ _ _,rfl⟩
   · clear hd hX1 hX2 l7 cA cB hbad;go_wp2;exact⟨K1.refl' _ _ _,rfl⟩
   · have e0:vs 5=_:=hd 5 rfl;obtain⟨bb,hw,hmono⟩:=hb2 _ hw1;clear hmono;have c0':=(cB _ _ hw).1;have c1':=(cB _ _ hw).2;clear hw;clear hd hX1 hX2 l7 cA cB hbad;rw[e0];go_wp2;exact⟨K1.refl' _ _ _,rfl⟩
   · have e0:vs 2=_:=hd 2 rfl;have e1:vs 4=_:=hd 4 rfl;have e2:vs 6=_:=hd 6 rfl;rw[e0,e1,e2];clear hd e0 e1 e2;obtain ⟨bb,hw,hmono⟩:=hb2 _ hw1;cases bb
     · have hc0:c0=false:=by cases c0 <;> first|rfl|exact absurd (hmono rfl) (by decide)
       have hC:=hX1 hc0 W0 w2 g hE1 hw;clear hX1 hX2 l7 cA cB hmono hb2 hc0 hbad;go_wp2_with fail;refine hC.mono ?_;rintro _ w9 ⟨rfl,AB⟩;clear hC;go_wp2;refine ⟨K1.to hw AB (fun h=>by cases h),p,rfl,?_⟩;cases c1
       · exact .inr ⟨rfl,rfl⟩
       · exact .inl AB
     · have hC:=xW a1 b2 W0 w2 g hw;clear hX1 hX2 l7 cA cB hmono hb2 hbad;go_wp2_with fail;refine hC.mono ?_;rintro _ w9 ⟨rfl,AB⟩;clear hC;go_wp2;exact ⟨K1.to hw AB (fun _=>rfl),[],rfl,.inl AB⟩
   · clear hd hX1 hX2 l7 cA cB hbad;go_wp2;exact⟨K1.refl' _ _ _,rfl⟩
   · clear hd hX1 hX2 l7 cA cB hbad;go_wp2;exact⟨K1.refl' _ _ _,rfl⟩
   · have e0:vs 9=_:=hd 9 rfl;obtain⟨bb,hw,hmono⟩:=hb2 _ hw1;clear hmono;have c0':=(cB _ _ hw).1;have c1':=(cB _ _ hw).2;clear hw;clear hd hX1 hX2 l7 cA cB hbad;rw[e0];go_wp2;exact⟨K1.refl' _ _ _,rfl⟩
   · clear hd hX1 hX2 l7 cA cB hbad;go_wp2;exact⟨K1.refl' _ _ _,rfl⟩
   · have e0:vs 11=_:=hd 11 rfl;obtain⟨bb,hw,hmono⟩:=hb2 _ hw1;clear hmono;have c0':=(cA _ _ hw).1;have c1':=(cA _ _ hw).2;clear hw;clear hd hX1 hX2 l7 cA cB hbad;rw[e0];go_wp2;exact⟨K1.refl' _ _ _,rfl⟩
   · have e0:vs 8=_:=hd 8 rfl;have e1:vs 10=_:=hd 10 rfl;have e2:vs 12=_:=hd 12 rfl;rw[e0,e1,e2];clear hd e0 e1 e2;obtain ⟨bb,hw,hmono⟩:=hb2 _ hw1;cases bb
     · have hc0:c0=false:=by cases c0 <;> first|rfl|exact absurd (hmono rfl) (by decide)
       have hC:=hX2 hc0 W0 w2 g hE1 hw;clear hX1 hX2 l7 cA cB hmono hb2 hc0 hbad;go_wp2_with fail;refine hC.mono ?_;rintro _ w9 ⟨rfl,AB⟩;clear hC;go_wp2;refine ⟨K1.to hw AB (fun h=>by cases h),q,rfl,?_⟩;cases c2
       · exact .inr ⟨rfl,rfl⟩
       · exact .inl AB
     · have hC:=xW b1 a2 W0 w2 g hw;clear hX1 hX2 l7 cA cB hmono hb2 hbad;go_wp2_with fail;refine hC.mono ?_;rintro _ w9 ⟨rfl,AB⟩;clear hC;go_wp2;exact ⟨K1.to hw AB (fun _=>rfl),[],rfl,.inl AB⟩
   · have e0:vs 0=_:=hd 0 rfl;have e1:vs 1=_:=hd 1 rfl;have e2:=hd 7 rfl;change PB W0 g c1 p (vs 7) w2 at e2;have e3:=hd 13 rfl;change PB W0 g c2 q (vs 13) w2 at e3;obtain ⟨y,ey,hy⟩:=e2;obtain ⟨z,ez,hz⟩:=e3;rw [e0,e1,ey,ez];clear hd e0 e1 ey ez;obtain ⟨bb,hw,hmono⟩:=hb2 _ hw1;cases bb
     · have hc0:c0=false:=by cases c0 <;> first|rfl|exact absurd (hmono rfl) (by decide)
       obtain⟨hc1,rfl⟩:c1=false/\y=p:=by
        rcases hy with h|h
        · exact absurd (hw.det h) (by decide)
        · exact h
       obtain⟨hc2,rfl⟩:c2=false/\z=q:=by
        rcases hz with h|h
        · exact absurd (hw.det h) (by decide)
        · exact h
       have hC:=l7 hc0 hc1 hc2 W0 w2 g hE1 hw;clear hX1 hX2 l7 cA cB hmono hb2 hc0 hc1 hc2 hbad hy hz;go_wp2_with fail;refine hC.mono ?_;rintro _ w9 ⟨rfl,AB⟩;clear hC;go_wp2;refine ⟨K1.to hw AB (fun h=>by cases h),s,rfl,?_⟩;cases c3
       · exact .inr ⟨rfl,rfl⟩
       · exact .inl AB
     · have hC:=MW y z W0 w2 g hw;clear hX1 hX2 l7 cA cB hmono hb2 hbad hy hz;go_wp2_with fail;refine hC.mono ?_;rintro _ w9 ⟨rfl,rfl⟩;clear hC;go_wp2;exact ⟨K1.to hw hw (fun _=>rfl),[],rfl,.inl hw⟩
   · have e0:=hd 14 rfl;change PB W0 g c3 s (vs 14) w2 at e0;obtain ⟨y,ey,hy⟩:=e0;rw [ey];clear hd ey hX1 hX2 l7 cA cB hbad;go_wp2;exact ⟨K1.refl' _ _ _,y,rfl,hy⟩
 · intro vs wa hba hR2;simp only[RK.bP,RK.ak]at hR2;obtain ⟨e0,e1,e2,e3,e4,e5,e6,e7,e8,e9,e10,e11,e12,e13,e14,e15,-⟩:=hR2;simp only[List.drop,List.take,List.map,RK.aJ,Act.put,List.setIfInBounds_toArray,List.set_cons_succ,List.set_cons_zero,Nat.reduceAdd];obtain ⟨y7,f7,g7⟩:=e7;obtain ⟨y13,f13,g13⟩:=e13;obtain ⟨y14,f14,g14⟩:=e14;obtain ⟨y15,f15,g15⟩:=e15;rw [e0,e1,e2,e3,e4,e5,e6,f7,e8,e9,e10,e11,e12,f13,f14,f15]
   have Gl:Wk W0 wa g true:=by
    obtain⟨bb,hw,hmono⟩:=hba _ hw1;cases bb
    · exfalso
      rcases hbad with h|h|h|h
      · exact absurd (hmono h) (by decide)
      · rcases g7 with h'|h'
        · exact absurd (hw.det h') (by decide)
        · rw[h]at h';exact absurd h'.1 (by decide)
      · rcases g13 with h'|h'
        · exact absurd (hw.det h') (by decide)
        · rw[h]at h';exact absurd h'.1 (by decide)
      · rcases g15 with h'|h'
        · exact absurd (hw.det h') (by decide)
        · rw[h]at h';exact absurd h'.1 (by decide)
    · exact hw
   clear hX1 hX2 l7 hw1 hbad g7 g13 g14 g15;have c0':=(cA _ _ Gl).1;have c1':=(cA _ _ Gl).2;have d0:=(cB _ _ Gl).1;have d1:=(cB _ _ Gl).2;go_wp2_with fail;refine (xW _ _ W0 _ _ Gl).mono ?_;rintro _ w3 ⟨rfl,hw3⟩;clear Gl c0' c1' d0 d1;go_wp2_with fail;refine (rJ _ _ W0 _ _ hw3).mono ?_;rintro _ w4 ⟨rfl,hb4⟩;clear hw3;obtain ⟨r1,hr1⟩:=AZ ([]:List UInt8);obtain ⟨r2,hr2⟩:=AZ ([]:List UInt8);have B:=BR.below hb4 BR.lt;have hb5:=hb.trans (hb4.mono (by have h1:=hb.size;have h2:=hgA.out;omega));have hle:gA<=gB+1:=by have:=hgA.out;have:=hgB.out;omega
   clear BR hb4 hb BA BB cA cB;have r0:=B.cell 0 rfl;have q1:=B.cell 1 rfl;have f0:=B.frozen 0;have f1:=B.frozen 1;have B2:=(B.set 0 (.string ⟨([]:List UInt8).toArray⟩)).set 1 (.string ⟨([]:List UInt8).toArray⟩);have hb2:=(hb5.setCell (p:=⟨gB+1,0,none⟩) hle (.string ⟨([]:List UInt8).toArray⟩)).setCell (p:=⟨gB+1,1,none⟩) hle (.string ⟨([]:List UInt8).toArray⟩);go_wp2;exact bodyPost_ret (bG rfl _ _ rfl rfl B2) rfl ⟨rfl,by rw[hgA.out];exact hb2⟩
theorem lJ {z:Int} (h:I64 z):Ig.fits z:=by
 have h1:z.natAbs<10 ^ 20:=by have:=h.1;have:=h.2;omega
 exact Nat.lt_of_lt_of_le h1 (Nat.pow_le_pow_right (by decide) (by decide))
theorem Yg (n d:Int) (w:World) (hn:I64 n) (hf:I64 d) (hd:d≠0) (hE:Env w) :
 aT 17 #[.int .i64 n,.int .i64 d] w (.tuple #[QV (Rat.divInt n d),.int .i64 0]):=by
 have hF1:=fun w0 hE0=>oO n w0 hn.1 hn.2 hE0
 have hF2:=fun w0 hE0=>oO d w0 hf.1 hf.2 hE0
 have hM:=fun w0 hE0=>DI n d w0 (lJ hn) (lJ hf) hd hE0
 unfold QV at *
 generalize Lib.itoa (Rat.divInt n d).num=sa at *;generalize Lib.itoa ((Rat.divInt n d).den:Int)=sb at *;generalize Lib.itoa n=sn at *;generalize Lib.itoa d=sd at *;have B:=Bx.mk w 77 #[.string ⟨#[]⟩,.string ⟨#[]⟩];have hb:=aA w (.cells #[.string ⟨#[]⟩,.string ⟨#[]⟩] 77);clear hd
 go_enter Tryz.func17,Tryz.ntmps17
 go_wp2_with fail;refine (hF1 _ (hE.below hb)).mono ?_;rintro _ w1 ⟨rfl,hb1⟩;replace hb:=ah hb hb1;replace B:=B.call hb1;clear hF1 hb1;go_wp2_with fail;refine (hF2 _ (hE.below hb)).mono ?_;rintro _ w2 ⟨rfl,hb1⟩;replace hb:=ah hb hb1;replace B:=B.call hb1;clear hF2 hb1;go_wp2_with fail;refine (hM _ (hE.below hb)).mono ?_;rintro _ w3 ⟨rfl,hb1⟩;replace hb:=ah hb hb1;replace B:=B.call hb1;clear hM hb1;have r0:=B.cell 0 rfl;have r1:=B.cell 1 rfl;have f0:=B.frozen 0;have f1:=B.frozen 1;have B2:=(B.set 0 (.string ⟨sa.toArray⟩)).set 1 (.string ⟨sb.toArray⟩);have hb2:=aK (aK hb (p:=⟨w.heap.size,0,none⟩) (Nat.le_refl _) (.string ⟨sa.toArray⟩)) (p:=⟨w.heap.size,1,none⟩) (Nat.le_refl _) (.string ⟨sb.toArray⟩);go_wp2;exact bodyPost_ret (bG rfl _ _ rfl rfl B2) rfl ⟨rfl,hb2⟩
theorem tq {x y:Int} (h:x<y):dJ x y= -1:=by unfold dJ;rw[if_pos h]
theorem tu {x y:Int} (h:y<x):dJ x y=1:=by unfold dJ;rw[if_neg (by omega),if_pos h]
theorem uQ (x:Int):dJ x x=0:=by unfold dJ;rw[if_neg (by omega),if_neg (by omega)]
theorem Nh (x y:Int):dJ y x= -dJ x y:=by unfold dJ;split <;> split <;> (try split) <;> (try split) <;> omega
theorem Sm {x y u v:Int} (h:x-y=u-v):dJ x y=dJ u v:=by
 unfold dJ
 have e1:x<y↔u<v:=by omega
 have e2:x > y↔u > v:=by omega
 simp only[e1,e2]
theorem wR {n d m c:Int} (hq:n / d=m / c):dJ (n*c) (m*d)=dJ (n % d*c) (m % c*d):=by
 apply Sm
 have h1:=Int.mul_ediv_add_emod n d;have h2:=Int.mul_ediv_add_emod m c;rw [hq]at h1;generalize m / c=q at *;generalize n % d=r at *;generalize m % c=s at *;subst h1;subst h2;rw [Int.add_mul,Int.add_mul];have:d*q*c=c*q*d:=by rw[Int.mul_assoc,Int.mul_comm d,Int.mul_comm q c]
 omega
theorem Ky {n d m c:Int} (hd:0<d) (hc:0<c) (hq:n / d<m / c):n*c<m*d:=by
 have h1:=Int.lt_mul_ediv_self_add (x:=n) hd;have h2:=Int.mul_ediv_self_le (x:=m) (show c≠0 by omega)
 have h3:d*(n / d)+d<=d*(m / c):=by
  have:d*(n / d+1)<=d*(m / c):=Int.mul_le_mul_of_nonneg_left (by omega) (by omega);rw [Int.mul_add,Int.mul_one]at this;exact this
 have h4:n<d*(m / c):=by omega
 have h5:n*c<d*(m / c)*c:=Int.mul_lt_mul_of_pos_right h4 hc;have h6:c*(m / c)*d<=m*d:=Int.mul_le_mul_of_nonneg_right h2 (by omega);have h7:d*(m / c)*c=c*(m / c)*d:=by rw[Int.mul_assoc,Int.mul_comm d,Int.mul_comm (m / c) c]
 omega
theorem XW {n d m c:Int} (hd:0<d) (hc:0<c) (hq:n / d<m / c):dJ (n*c) (m*d)= -1:=tq (Ky hd hc hq)
theorem XY {n d m c:Int} (hd:0<d) (hc:0<c) (hq:m / c<n / d):dJ (n*c) (m*d)=1:=tu (Ky hc hd hq)
theorem X3 {n d m c:Int} (hq:n / d=m / c) (hr:n % d=0) (hs:m % c=0):dJ (n*c) (m*d)=0:=by
 rw[wR hq,hr,hs,Int.zero_mul,Int.zero_mul];exact uQ 0
theorem XZ {n d m c:Int} (hd:0<d) (hc:0<c) (hq:n / d=m / c) (hr:n % d=0) (hs:m % c≠0):dJ (n*c) (m*d)= -1:=by
 have h:=Int.emod_nonneg m (show c≠0 by omega);have h2:0<m % c*d:=Int.mul_pos (by omega) hd;rw [wR hq,hr,Int.zero_mul,tq h2]
theorem XV {n d m c:Int} (hd:0<d) (hc:0<c) (hq:n / d=m / c) (hr:n % d≠0) (hs:m % c=0):dJ (n*c) (m*d)=1:=by
 have h:=Int.emod_nonneg n (show d≠0 by omega);have h2:0<n % d*c:=Int.mul_pos (by omega) hc;rw [wR hq,hs,Int.zero_mul,tu h2]
theorem Kv {n d m c:Int} (hq:n / d=m / c):dJ (n*c) (m*d)= -dJ (d*(m % c)) (c*(n % d)):=by
 rw[wR hq,Nh,Int.mul_comm (m % c) d,Int.mul_comm (n % d) c]
theorem mY {n d:Int} (hd:0<d) (hr:n % d≠0):0<n % d/\(n % d).toNat<d.toNat:=by
 have h1:=Int.emod_nonneg n (show d≠0 by omega);have h2:=Int.emod_lt_of_pos n hd;omega
end Go.Proofs.YtohgjenaclfegaaGreatDoor

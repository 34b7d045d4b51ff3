import Derived.Test.YtelljijajgiabaaGreatDoorQ05
set_option linter.unusedVariables false
set_option linter.unusedSimpArgs false
set_option maxRecDepth 100000
set_option maxHeartbeats 8000000
namespace Go.Proofs.YtelljijajgiabaaGreatDoor
open Go.RowKit Go.Shelf
theorem Wk.new (w:World) (b:Bool):Wk w (w.alloc (.cells #[.bool b] 108)) w.heap.size b:=⟨au _ _,Nat.le_refl _,Bx.mk _ _ _⟩
theorem Fe (n d:Int) (w:World) (hn:Ig.fits n) (hf:Ig.fits d) (hd:d≠0) (hE:Env w) :
 aW 63 #[.string ⟨(Lib.itoa n).toArray⟩,.string ⟨(Lib.itoa d).toArray⟩] w (.tuple #[QV (Rat.divInt n d),.int .i64 0]):=by
 have hV1:=fun w0=>ku (Lib.itoa n) (aV hn) w0
 have hV2:=fun w0=>ku (Lib.itoa d) (aV hf) w0
 rw[Ig.bQ hn]at hV1;rw [Ig.bQ hf]at hV2;have hRR:=fun w2 hE2=>o8 n d w2 _ _ hn hf hd hE2 (Wk.new w2 false)
 unfold QV at *
 generalize Lib.itoa (Rat.divInt n d).num=sa at *;generalize Lib.itoa ((Rat.divInt n d).den:Int)=sb at *;generalize Lib.itoa n=sn at *;generalize Lib.itoa d=sd at *;clear hn hf hd;have B:=Bx.mk w 51 #[.string ⟨#[]⟩,.string ⟨#[]⟩];have hb:=au w (.cells #[.string ⟨#[]⟩,.string ⟨#[]⟩] 51)
 go_enter Tryz.func63,Tryz.ntmps63
 go_wp2_with fail;refine (hV1 _).mono ?_;rintro _ w1 ⟨rfl,hb1⟩;replace hb:=aj hb hb1;replace B:=B.call hb1;clear hV1 hb1;go_wp2_with fail;refine (hV2 _).mono ?_;rintro _ w2 ⟨rfl,hb1⟩;replace hb:=aj hb hb1;replace B:=B.call hb1;clear hV2 hb1;have hR:=hRR w2 (hE.below hb);clear hRR;go_wp2_with fail;refine hR.mono ?_;rintro _ w3 ⟨rfl,hb1⟩;replace hb:=aj hb hb1;replace B:=B.call hb1;clear hR hb1;have r0:=B.cell 0 rfl;have r1:=B.cell 1 rfl;have f0:=B.frozen 0;have f1:=B.frozen 1;have B2:=(B.set 0 (.string ⟨sa.toArray⟩)).set 1 (.string ⟨sb.toArray⟩);have hb2:=aJ (aJ hb (p:=⟨w.heap.size,0,none⟩) (Nat.le_refl _) (.string ⟨sa.toArray⟩)) (p:=⟨w.heap.size,1,none⟩) (Nat.le_refl _) (.string ⟨sb.toArray⟩);go_wp2
 first
  | exact bodyPost_ret (aU rfl _ _ rfl rfl B2) rfl ⟨rfl,hb2⟩
  | exact bodyPost_ret (aU rfl _ _ rfl rfl B) rfl ⟨rfl,hb⟩
theorem uZ (a b:List UInt8) (w0 W:World) (g:Nat) (h:Wk w0 W g true) :
 Calls Tryz.prog 70 #[.pointer (some ⟨g,0,none⟩),.string ⟨a.toArray⟩,.string ⟨b.toArray⟩] W fun e w'=>e=.returned (.string ⟨#[]⟩)/\Wk w0 w' g true :=
 (U2 a b w0 W g h).mono fun _ _ ⟨h1,h2⟩=>⟨h1,h2 ▸ h⟩
theorem Tt (a b c d:List UInt8):BI [(a,b),(c,d)]=(!Rq.okB a b|| !Rq.okB c d):=by simp[BI]
theorem wC (a1 a2 b1 b2:List UInt8) (W0:World) (g:Nat) (hg:W0.heap.size=g) (OJ:a1.length<=1000000) (OI:a2.length<=1000000) (OH:b1.length<=1000000) (OG:b2.length<=1000000) (hE:Env W0) :
 Calls Tryz.prog 69 #[.pointer (some ⟨g,0,none⟩),.slice (some ⟨g+1,0,none⟩) 2 2] ((W0.alloc (.cells #[.bool false] 108)).alloc (.cells #[.string ⟨a1.toArray⟩,.string ⟨a2.toArray⟩,.string ⟨b1.toArray⟩,.string ⟨b2.toArray⟩] 51)) fun e w'=>(∃v,e=.returned v)/\Wk W0 w' g (!Rq.okB a1 a2|| !Rq.okB b1 b2):=by
 subst hg;have hw:=(Wk.new W0 false).call (au (W0.alloc (.cells #[.bool false] 108)) (.cells #[.string ⟨a1.toArray⟩,.string ⟨a2.toArray⟩,.string ⟨b1.toArray⟩,.string ⟨b2.toArray⟩] 51));have hB:=Bx.mk (W0.alloc (.cells #[.bool false] 108)) 51 #[.string ⟨a1.toArray⟩,.string ⟨a2.toArray⟩,.string ⟨b1.toArray⟩,.string ⟨b2.toArray⟩];rw [ah]at hB
 have h:=check_any [(a1,a2),(b1,b2)] 2 (W0.heap.size+1) _ W0 _ _ false hE hw (by omega) hB (fun i hi=>by
  rcases (show i=0∨i=1 by simp at hi;omega) with rfl|rfl
  · exact⟨rfl,rfl,OJ,OI⟩
  · exact⟨rfl,rfl,OH,OG⟩) (by simp) (by simp)
 rw[Tt,Bool.false_or]at h;exact h
theorem Az (a1 a2 b1 b2 p q r1 r2:List UInt8) (code:Int) (c1 c2:Bool) (w:World) (hE:Env w) (OJ:a1.length<=1000000) (OI:a2.length<=1000000) (OH:b1.length<=1000000) (OG:b2.length<=1000000)
 (hX1:∀W0 W g,Env W0->Wk W0 W g (!Rq.okB a1 a2|| !Rq.okB b1 b2)->Calls Tryz.prog 70 #[.pointer (some ⟨g,0,none⟩),.string ⟨a1.toArray⟩,.string ⟨b1.toArray⟩] W fun e w'=>e=.returned (.string ⟨p.toArray⟩)/\Wk W0 w' g c1)
 (hX2:∀W0 W g,Env W0->Wk W0 W g c1->Calls Tryz.prog 70 #[.pointer (some ⟨g,0,none⟩),.string ⟨a2.toArray⟩,.string ⟨b2.toArray⟩] W fun e w'=>e=.returned (.string ⟨q.toArray⟩)/\Wk W0 w' g c2)
 (nU:∀W0 W g,Env W0->Wk W0 W g c2->Calls Tryz.prog 71 #[.pointer (some ⟨g,0,none⟩),.string ⟨p.toArray⟩,.string ⟨q.toArray⟩] W fun e w'=>e=.returned (.tuple #[.agg #[.string ⟨r1.toArray⟩,.string ⟨r2.toArray⟩],.int .i64 code])/\Below W0.heap.size W0 w') :
 aW 37 #[.agg #[.string ⟨a1.toArray⟩,.string ⟨a2.toArray⟩],.agg #[.string ⟨b1.toArray⟩,.string ⟨b2.toArray⟩]] w (.tuple #[.agg #[.string ⟨r1.toArray⟩,.string ⟨r2.toArray⟩],.int .i64 code]):=by
 have hb:=bNew (bNew (au w (.cells #[.string ⟨a1.toArray⟩,.string ⟨a2.toArray⟩] 51)) (.cells #[.string ⟨b1.toArray⟩,.string ⟨b2.toArray⟩] 51)) (.cells #[.string ⟨#[]⟩,.string ⟨#[]⟩] 51);have BA:=((Bx.mk w 51 #[.string ⟨a1.toArray⟩,.string ⟨a2.toArray⟩]).new (.cells #[.string ⟨b1.toArray⟩,.string ⟨b2.toArray⟩] 51)).new (.cells #[.string ⟨#[]⟩,.string ⟨#[]⟩] 51);have BB:=(Bx.mk (w.alloc (.cells #[.string ⟨a1.toArray⟩,.string ⟨a2.toArray⟩] 51)) 51 #[.string ⟨b1.toArray⟩,.string ⟨b2.toArray⟩]).new (.cells #[.string ⟨#[]⟩,.string ⟨#[]⟩] 51);have BR:=Bx.mk ((w.alloc (.cells #[.string ⟨a1.toArray⟩,.string ⟨a2.toArray⟩] 51)).alloc (.cells #[.string ⟨b1.toArray⟩,.string ⟨b2.toArray⟩] 51)) 51 #[.string ⟨#[]⟩,.string ⟨#[]⟩];rw [ah]at BB;rw [ah,ah]at BR;have hE1:=hE.below hb;have hsz:(((w.alloc (.cells #[.string ⟨a1.toArray⟩,.string ⟨a2.toArray⟩] 51)).alloc (.cells #[.string ⟨b1.toArray⟩,.string ⟨b2.toArray⟩] 51)).alloc (.cells #[.string ⟨#[]⟩,.string ⟨#[]⟩] 51)).heap.size=w.heap.size+3:=by rw[ah,ah,ah]
 have DF:=BA.cell 0 rfl;have DC:=BA.cell 1 rfl;have cB0:=BB.cell 0 rfl;have cB1:=BB.cell 1 rfl;have hC:=wC a1 a2 b1 b2 _ _ hsz OJ OI OH OG hE1;clear OJ OI OH OG
 go_enter Tryz.func37,Tryz.ntmps37
 go_wp2_with fail;generalize (((w.alloc (.cells #[.string ⟨a1.toArray⟩,.string ⟨a2.toArray⟩] 51)).alloc (.cells #[.string ⟨b1.toArray⟩,.string ⟨b2.toArray⟩] 51)).alloc (.cells #[.string ⟨#[]⟩,.string ⟨#[]⟩] 51))=W0 at *;replace hsz:=Kp.mk hsz;refine hC.mono ?_;rintro _ w1 ⟨⟨v,rfl⟩,hw1⟩;clear hC DF DC cB0 cB1;have DF:=((BA.below hw1.hb BA.lt)).cell 0 rfl;have DC:=((BA.below hw1.hb BA.lt)).cell 1 rfl;have cB0:=((BB.below hw1.hb BB.lt)).cell 0 rfl;have cB1:=((BB.below hw1.hb BB.lt)).cell 1 rfl;go_wp2_with fail;refine (hX1 W0 _ _ hE1 hw1).mono ?_;rintro _ w2 ⟨rfl,hw2⟩;clear hX1 hw1 DF DC cB0 cB1;have DF:=((BA.below hw2.hb BA.lt)).cell 0 rfl;have DC:=((BA.below hw2.hb BA.lt)).cell 1 rfl;have cB0:=((BB.below hw2.hb BB.lt)).cell 0 rfl;have cB1:=((BB.below hw2.hb BB.lt)).cell 1 rfl;go_wp2_with fail;refine (hX2 W0 _ _ hE1 hw2).mono ?_;rintro _ w3 ⟨rfl,hw3⟩;clear hX2 hw2 DF DC cB0 cB1;go_wp2_with fail;refine (nU W0 _ _ hE1 hw3).mono ?_;rintro _ w4 ⟨rfl,hb4⟩;clear nU hw3;have B:=BR.below hb4 BR.lt;have hb5:=hb.trans (hb4.mono hb.size);clear BR hb4 hb BA BB;have r0:=B.cell 0 rfl;have q1:=B.cell 1 rfl;have f0:=B.frozen 0;have f1:=B.frozen 1;have B2:=(B.set 0 (.string ⟨r1.toArray⟩)).set 1 (.string ⟨r2.toArray⟩);have hb2:=aJ (aJ hb5 (p:=⟨w.heap.size+1+1,0,none⟩) (by show w.heap.size<=w.heap.size+1+1;omega) (.string ⟨r1.toArray⟩)) (p:=⟨w.heap.size+1+1,1,none⟩) (by show w.heap.size<=w.heap.size+1+1;omega) (.string ⟨r2.toArray⟩);go_wp2;exact bodyPost_ret (aU rfl _ _ rfl rfl B2) rfl ⟨rfl,hb2⟩
theorem bU {z:Int} (h:Ig.fits z):(Lib.itoa z).length<=1000000:=aV h
section
variable (w:World) (hE:Env w)
theorem lJ (n d:List UInt8) (w0 W:World) (g:Nat) (h:Wk w0 W g true) :
 Calls Tryz.prog 71 #[.pointer (some ⟨g,0,none⟩),.string ⟨n.toArray⟩,.string ⟨d.toArray⟩] W fun e w'=>e=.returned (.tuple #[.agg #[.string ⟨([]:List UInt8).toArray⟩,.string ⟨([]:List UInt8).toArray⟩],.int .i64 40])/\Below w0.heap.size w0 w' :=
 F8 n d w0 W g h
end
section
variable (a b:Rat) (w:World)
theorem DJ (hE:Env w) (ha:Rq.Fq a) (hb:Rq.Fq b) (hn:Ig.fits (a.num*b.num)) (hd:Ig.fits ((a.den:Int)*b.den)) :
 aW 37 #[QV a,QV b] w (.tuple #[QV (a*b),.int .i64 0]):=by
 have hk:(!Rq.okB (Lib.itoa a.num) (Lib.itoa (a.den:Int))|| !Rq.okB (Lib.itoa b.num) (Lib.itoa (b.den:Int)))=false:=by rw[Rq.oq ha,Rq.oq hb];rfl
 refine Az _ _ _ _ (Lib.itoa (a.num*b.num)) (Lib.itoa ((a.den:Int)*b.den)) (Lib.itoa (a*b).num) (Lib.itoa ((a*b).den:Int)) 0 false false w hE (bU ha.num) (bU ha.den) (bU hb.num) (bU hb.den) ?_ ?_ ?_
 · rw[hk];exact fun W0 W g hE h=>(kT _ _ W0 W g ha.num hb.num hn hE h).mono fun _ _ ⟨h1,h2,_⟩=>⟨h1,h2⟩
 · exact fun W0 W g hE h=>(kT _ _ W0 W g ha.den hb.den hd hE h).mono fun _ _ ⟨h1,h2,_⟩=>⟨h1,h2⟩
 · intro W0 W g hE h;have:=o8 _ _ W0 W g hn hd (Int.mul_ne_zero (Rq.lQ a) (Rq.lQ b)) hE h;rw [Rq.wQ]at this;exact this
theorem Om (hE:Env w) (ha:Rq.Fq a) (hb:Rq.Fq b) (hn:¬(Ig.fits (a.num*b.num)/\Ig.fits ((a.den:Int)*b.den))) :
 aW 37 #[QV a,QV b] w (.tuple #[QZ,.int .i64 40]):=by
 have hk:(!Rq.okB (Lib.itoa a.num) (Lib.itoa (a.den:Int))|| !Rq.okB (Lib.itoa b.num) (Lib.itoa (b.den:Int)))=false:=by rw[Rq.oq ha,Rq.oq hb];rfl
 by_cases h1:Ig.fits (a.num*b.num)
 · have h2:¬Ig.fits ((a.den:Int)*b.den):=fun h=>hn ⟨h1,h⟩
   refine Az _ _ _ _ (Lib.itoa (a.num*b.num)) [] [] [] 40 false true w hE (bU ha.num) (bU ha.den) (bU hb.num) (bU hb.den) ?_ ?_ ?_
   · rw[hk];exact fun W0 W g hE h=>(kT _ _ W0 W g ha.num hb.num h1 hE h).mono fun _ _ ⟨h1,h2,_⟩=>⟨h1,h2⟩
   · exact fun W0 W g hE h=>(zB _ _ W0 W g ha.den hb.den h2 hE h).mono fun _ _ ⟨h1,h2,_⟩=>⟨h1,h2⟩
   · exact fun W0 W g _ h=>lJ _ _ W0 W g h
 · refine Az _ _ _ _ [] [] [] [] 40 true true w hE (bU ha.num) (bU ha.den) (bU hb.num) (bU hb.den) ?_ ?_ ?_
   · rw[hk];exact fun W0 W g hE h=>(zB _ _ W0 W g ha.num hb.num h1 hE h).mono fun _ _ ⟨h1,h2,_⟩=>⟨h1,h2⟩
   · exact fun W0 W g _ h=>uZ _ _ W0 W g h
   · exact fun W0 W g _ h=>lJ _ _ W0 W g h
end
theorem Wk.RY {w0 W:World} {g:Nat} {b:Bool} (h:Wk w0 W g b) (n:Nat):Wk w0 { W with drawn:=n } g b:=⟨⟨h.hb.os,h.hb.tape,h.hb.output,h.hb.size,h.hb.block⟩,h.ge,h.bx⟩
theorem Wk.Zo {w0 W:World} {g:Nat} {b b':Bool} (h:Wk w0 W g b) (h':Wk w0 W g b'):b=b':=by
 have h1:=h.cell;rw [h'.cell]at h1;simpa using h1.symm
def K0 (W0:World) (g:Nat) (W W':World):Prop:=Wk W0 W g false->Wk W0 W' g false
theorem YW (W0:World) (g:Nat):RK.Cls (K0 W0 g):=⟨fun _ h=>h,fun h h' k=>h' (h k),fun _ n h=>h.RY n⟩
def K1 (W0:World) (g:Nat) (W W':World):Prop:=∀b,Wk W0 W g b->∃b',Wk W0 W' g b'/\(b=true->b'=true)
theorem K1.refl' (W0:World) (g:Nat) (W:World):K1 W0 g W W:=fun b h=>⟨b,h,fun h=>h⟩
theorem YV (W0:World) (g:Nat):RK.Cls (K1 W0 g) :=
 ⟨K1.refl' W0 g,fun h h' b k=>by
  obtain⟨b1,k1,e1⟩:=h b k;obtain ⟨b2,k2,e2⟩:=h' b1 k1
  exact⟨b2,k2,fun e=>e2 (e1 e)⟩,fun _ n b h=>⟨b,h.RY n,fun h=>h⟩⟩
theorem K1.to {W0:World} {g:Nat} {W W':World} {b b':Bool} (h:Wk W0 W g b) (h':Wk W0 W' g b') (he:b=true->b'=true):K1 W0 g W W':=fun c hc=>by
 have:=h.Zo hc;subst this;exact ⟨b',h',he⟩
def PB (W0:World) (g:Nat) (c:Bool) (x:List UInt8):Value->World->Prop:=fun v w=>∃y:List UInt8,v=.string ⟨y.toArray⟩/\(Wk W0 w g true∨(c=false/\y=x))
theorem UA (W0:World) (g:Nat) (c:Bool) (x:List UInt8):RK.eP (K1 W0 g) (PB W0 g c x):=fun v w w' ⟨y,hv,h⟩ hk=>by
 refine⟨y,hv,?_⟩
 rcases h with h|h
 · obtain⟨b',h',e⟩:=hk true h;rw [e rfl]at h';exact .inl h'
 · exact .inr h
theorem xJ (a1 a2 b1 b2 p q s d r1 r2:List UInt8) (code:Int) (c4:Bool) (w:World) (hE:Env w) (OJ:a1.length<=1000000) (OI:a2.length<=1000000) (OH:b1.length<=1000000) (OG:b2.length<=1000000) (h0:(!Rq.okB a1 a2|| !Rq.okB b1 b2)=false)
 (hX1:∀W0 W g,Env W0->Wk W0 W g false->Calls Tryz.prog 70 #[.pointer (some ⟨g,0,none⟩),.string ⟨a1.toArray⟩,.string ⟨b2.toArray⟩] W fun e w'=>e=.returned (.string ⟨p.toArray⟩)/\Wk W0 w' g false)
 (hX2:∀W0 W g,Env W0->Wk W0 W g false->Calls Tryz.prog 70 #[.pointer (some ⟨g,0,none⟩),.string ⟨b1.toArray⟩,.string ⟨a2.toArray⟩] W fun e w'=>e=.returned (.string ⟨q.toArray⟩)/\Wk W0 w' g false)
 (nU:∀W0 W g,Env W0->Wk W0 W g false->Calls Tryz.prog 110 #[.pointer (some ⟨g,0,none⟩),.func (.func 131) #[] #[],.string ⟨p.toArray⟩,.string ⟨q.toArray⟩] W fun e w'=>e=.returned (.string ⟨s.toArray⟩)/\Wk W0 w' g false)
 (hX4:∀W0 W g,Env W0->Wk W0 W g false->Calls Tryz.prog 70 #[.pointer (some ⟨g,0,none⟩),.string ⟨a2.toArray⟩,.string ⟨b2.toArray⟩] W fun e w'=>e=.returned (.string ⟨d.toArray⟩)/\Wk W0 w' g c4)
 (hX5:∀W0 W g,Env W0->Wk W0 W g c4->Calls Tryz.prog 71 #[.pointer (some ⟨g,0,none⟩),.string ⟨s.toArray⟩,.string ⟨d.toArray⟩] W fun e w'=>e=.returned (.tuple #[.agg #[.string ⟨r1.toArray⟩,.string ⟨r2.toArray⟩],.int .i64 code])/\Below W0.heap.size W0 w') :
 aW 130 #[.func (.func 131) #[] #[],.agg #[.string ⟨a1.toArray⟩,.string ⟨a2.toArray⟩],.agg #[.string ⟨b1.toArray⟩,.string ⟨b2.toArray⟩]] w (.tuple #[.agg #[.string ⟨r1.toArray⟩,.string ⟨r2.toArray⟩],.int .i64 code]):=by
 have hb:=bNew (bNew (au w (.cells #[.string ⟨a1.toArray⟩,.string ⟨a2.toArray⟩] 51)) (.cells #[.string ⟨b1.toArray⟩,.string ⟨b2.toArray⟩] 51)) (.cells #[.string ⟨#[]⟩,.string ⟨#[]⟩] 51);have BA:=((Bx.mk w 51 #[.string ⟨a1.toArray⟩,.string ⟨a2.toArray⟩]).new (.cells #[.string ⟨b1.toArray⟩,.string ⟨b2.toArray⟩] 51)).new (.cells #[.string ⟨#[]⟩,.string ⟨#[]⟩] 51);have BB:=(Bx.mk (w.alloc (.cells #[.string ⟨a1.toArray⟩,.string ⟨a2.toArray⟩] 51)) 51 #[.string ⟨b1.toArray⟩,.string ⟨b2.toArray⟩]).new (.cells #[.string ⟨#[]⟩,.string ⟨#[]⟩] 51);have BR:=Bx.mk ((w.alloc (.cells #[.string ⟨a1.toArray⟩,.string ⟨a2.toArray⟩] 51)).alloc (.cells #[.string ⟨b1.toArray⟩,.string ⟨b2.toArray⟩] 51)) 51 #[.string ⟨#[]⟩,.string ⟨#[]⟩];rw [ah]at BB;rw [ah,ah]at BR;have hE1:=hE.below hb;have hsz:(((w.alloc (.cells #[.string ⟨a1.toArray⟩,.string ⟨a2.toArray⟩] 51)).alloc (.cells #[.string ⟨b1.toArray⟩,.string ⟨b2.toArray⟩] 51)).alloc (.cells #[.string ⟨#[]⟩,.string ⟨#[]⟩] 51)).heap.size=w.heap.size+3:=by rw[ah,ah,ah]
 have DF:=BA.cell 0 rfl;have DC:=BA.cell 1 rfl;have cB0:=BB.cell 0 rfl;have cB1:=BB.cell 1 rfl;have hC:=wC a1 a2 b1 b2 _ _ hsz OJ OI OH OG hE1;clear OJ OI OH OG
 go_enter Tryz.func130,Tryz.ntmps130
 go_wp2_with fail;generalize (((w.alloc (.cells #[.string ⟨a1.toArray⟩,.string ⟨a2.toArray⟩] 51)).alloc (.cells #[.string ⟨b1.toArray⟩,.string ⟨b2.toArray⟩] 51)).alloc (.cells #[.string ⟨#[]⟩,.string ⟨#[]⟩] 51))=W0 at *;replace hsz:=Kp.mk hsz;refine hC.mono ?_;rintro _ w1 ⟨⟨v,rfl⟩,hw1⟩;clear hC DF DC cB0 cB1;go_wp2_with fail;generalize hg3:w.heap.size+3=g at *;generalize hgB:w.heap.size+1=gB at *;generalize hgA:w.heap.size=gA at *;have cA:∀w2 b,Wk W0 w2 g b->w2.cell? ⟨gA,0,none⟩=some (.string ⟨a1.toArray⟩)/\w2.cell? ⟨gA,1,none⟩=some (.string ⟨a2.toArray⟩):=fun w2 b h=>⟨(BA.below h.hb BA.lt).cell 0 rfl,(BA.below h.hb BA.lt).cell 1 rfl⟩
 have cB:∀w2 b,Wk W0 w2 g b->w2.cell? ⟨gB,0,none⟩=some (.string ⟨b1.toArray⟩)/\w2.cell? ⟨gB,1,none⟩=some (.string ⟨b2.toArray⟩):=fun w2 b h=>⟨(BB.below h.hb BB.lt).cell 0 rfl,(BB.below h.hb BB.lt).cell 1 rfl⟩
 replace hgA:=Kp.mk hgA;replace hgB:=Kp.mk hgB;replace hg3:=Kp.mk hg3;rw [h0]at hw1;clear h0;refine RK.aA (YW W0 g) [RK.ak (.pointer (some ⟨g,0,none⟩)),RK.ak (.func (.func 131) #[] #[]),RK.ak (.pointer (some ⟨g,0,none⟩)),RK.ak (.pointer (some ⟨gA,0,none⟩)),RK.ak (.string ⟨a1.toArray⟩),RK.ak (.pointer (some ⟨gB,1,none⟩)),RK.ak (.string ⟨b2.toArray⟩),RK.ak (.string ⟨p.toArray⟩),RK.ak (.pointer (some ⟨g,0,none⟩)),RK.ak (.pointer (some ⟨gB,0,none⟩)),RK.ak (.string ⟨b1.toArray⟩),RK.ak (.pointer (some ⟨gA,1,none⟩)),RK.ak (.string ⟨a2.toArray⟩),RK.ak (.string ⟨q.toArray⟩),RK.ak (.string ⟨s.toArray⟩),RK.ak (.string ⟨s.toArray⟩)] 16 43 (by kernel_rfl) rfl rfl (by kernel_rfl) ?_ ?_ ?_
 · simp only[RK.bV]
   and_intros <;> first|exact RK.aF _|trivial
 · simp only[RK.Users,List.take,List.length];refine ⟨?_,?_,?_,?_,?_,?_,?_,?_,?_,?_,?_,?_,?_,?_,?_,?_,trivial⟩;all_goals (intro vs w2 hb2 hd;simp only[RK.aQ,Act.put,List.nil_append,List.cons_append,List.setIfInBounds_toArray,List.set_cons_succ,List.set_cons_zero,Nat.reduceAdd];clear hX4 hX5)
   · clear hd hX1 hX2 nU cA cB;go_wp2;exact⟨fun h=>h,rfl⟩
   · clear hd hX1 hX2 nU cA cB;go_wp2;exact⟨fun h=>h,rfl⟩
   · clear hd hX1 hX2 nU cA cB;go_wp2;exact⟨fun h=>h,rfl⟩
   · clear hd hX1 hX2 nU cA cB;go_wp2;exact⟨fun h=>h,rfl⟩
   · have e0:vs 3=_:=hd 3 rfl;have hw:=hb2 hw1;have c0:=(cA _ _ hw).1;have c1:=(cA _ _ hw).2;clear hd hX1 hX2 nU cA cB;rw[e0];go_wp2;exact⟨fun h=>h,rfl⟩
   · clear hd hX1 hX2 nU cA cB;go_wp2;exact⟨fun h=>h,rfl⟩
   · have e0:vs 5=_:=hd 5 rfl;have hw:=hb2 hw1;have c0:=(cB _ _ hw).1;have c1:=(cB _ _ hw).2;clear hd hX1 hX2 nU cA cB;rw[e0];go_wp2;exact⟨fun h=>h,rfl⟩
   · have e0:vs 2=_:=hd 2 rfl;have e1:vs 4=_:=hd 4 rfl;have e2:vs 6=_:=hd 6 rfl;have hC:=hX1 W0 w2 g hE1 (hb2 hw1);clear hd hX1 hX2 nU cA cB;rw[e0,e1,e2];go_wp2_with fail;refine hC.mono ?_;rintro _ w9 ⟨rfl,Df⟩;clear hC;go_wp2;exact ⟨fun _=>Df,rfl⟩
   · clear hd hX1 hX2 nU cA cB;go_wp2;exact⟨fun h=>h,rfl⟩
   · clear hd hX1 hX2 nU cA cB;go_wp2;exact⟨fun h=>h,rfl⟩
   · have e0:vs 9=_:=hd 9 rfl;have hw:=hb2 hw1;have c0:=(cB _ _ hw).1;have c1:=(cB _ _ hw).2;clear hd hX1 hX2 nU cA cB;rw[e0];go_wp2;exact⟨fun h=>h,rfl⟩
   · clear hd hX1 hX2 nU cA cB;go_wp2;exact⟨fun h=>h,rfl⟩
   · have e0:vs 11=_:=hd 11 rfl;have hw:=hb2 hw1;have c0:=(cA _ _ hw).1;have c1:=(cA _ _ hw).2;clear hd hX1 hX2 nU cA cB;rw[e0];go_wp2;exact⟨fun h=>h,rfl⟩
   · have e0:vs 8=_:=hd 8 rfl;have e1:vs 10=_:=hd 10 rfl;have e2:vs 12=_:=hd 12 rfl;have hC:=hX2 W0 w2 g hE1 (hb2 hw1);clear hd hX1 hX2 nU cA cB;rw[e0,e1,e2];go_wp2_with fail;refine hC.mono ?_;rintro _ w9 ⟨rfl,Df⟩;clear hC;go_wp2;exact ⟨fun _=>Df,rfl⟩
   · have e0:vs 0=_:=hd 0 rfl;have e1:vs 1=_:=hd 1 rfl;have e2:vs 7=_:=hd 7 rfl;have e3:vs 13=_:=hd 13 rfl;have hC:=nU W0 w2 g hE1 (hb2 hw1);clear hd hX1 hX2 nU cA cB;rw[e0,e1,e2,e3];go_wp2_with fail;refine hC.mono ?_;rintro _ w9 ⟨rfl,Df⟩;clear hC;go_wp2;exact ⟨fun _=>Df,rfl⟩
   · have e0:vs 14=_:=hd 14 rfl;clear hd hX1 hX2 nU cA cB;rw[e0];go_wp2;exact⟨fun h=>h,rfl⟩
 · intro vs wa hba hR2;simp only[RK.cZ,RK.ak]at hR2;obtain ⟨e0,e1,e2,e3,e4,e5,e6,e7,e8,e9,e10,e11,e12,e13,e14,e15,-⟩:=hR2;simp only[List.drop,List.take,List.map,RK.aQ,Act.put,List.setIfInBounds_toArray,List.set_cons_succ,List.set_cons_zero,Nat.reduceAdd];rw [e0,e1,e2,e3,e4,e5,e6,e7,e8,e9,e10,e11,e12,e13,e14,e15];have IV:=hba hw1;clear hX1 hX2 nU hw1;have c0:=(cA _ _ IV).1;have c1:=(cA _ _ IV).2;have d0:=(cB _ _ IV).1;have d1:=(cB _ _ IV).2;go_wp2_with fail;refine (hX4 W0 _ _ hE1 IV).mono ?_;rintro _ w3 ⟨rfl,hw3⟩;clear hX4 IV c0 c1 d0 d1;go_wp2_with fail;refine (hX5 W0 _ _ hE1 hw3).mono ?_;rintro _ w4 ⟨rfl,hb4⟩;clear hX5 hw3;have B:=BR.below hb4 BR.lt;have hb5:=hb.trans (hb4.mono (by have h1:=hb.size;have h2:=hgA.out;omega));have hle:gA<=gB+1:=by have:=hgA.out;have:=hgB.out;omega
   clear BR hb4 hb BA BB cA cB;have r0:=B.cell 0 rfl;have q1:=B.cell 1 rfl;have f0:=B.frozen 0;have f1:=B.frozen 1;have B2:=(B.set 0 (.string ⟨r1.toArray⟩)).set 1 (.string ⟨r2.toArray⟩);have hb2:=(hb5.setCell (p:=⟨gB+1,0,none⟩) hle (.string ⟨r1.toArray⟩)).setCell (p:=⟨gB+1,1,none⟩) hle (.string ⟨r2.toArray⟩);go_wp2;exact bodyPost_ret (aU rfl _ _ rfl rfl B2) rfl ⟨rfl,by rw[hgA.out];exact hb2⟩
theorem yY (a1 a2 b1 b2 p q s:List UInt8) (c0 c1 c2 c3:Bool) (w:World) (hE:Env w) (OJ:a1.length<=1000000) (OI:a2.length<=1000000) (OH:b1.length<=1000000) (OG:b2.length<=1000000) (h0:(!Rq.okB a1 a2|| !Rq.okB b1 b2)=c0) (hbad:c0=true∨c1=true∨c2=true∨c3=true)
 (hX1:c0=false->∀W0 W g,Env W0->Wk W0 W g false->Calls Tryz.prog 70 #[.pointer (some ⟨g,0,none⟩),.string ⟨a1.toArray⟩,.string ⟨b2.toArray⟩] W fun e w'=>e=.returned (.string ⟨p.toArray⟩)/\Wk W0 w' g c1)
 (hX2:c0=false->∀W0 W g,Env W0->Wk W0 W g false->Calls Tryz.prog 70 #[.pointer (some ⟨g,0,none⟩),.string ⟨b1.toArray⟩,.string ⟨a2.toArray⟩] W fun e w'=>e=.returned (.string ⟨q.toArray⟩)/\Wk W0 w' g c2)
 (nU:c0=false->c1=false->c2=false->∀W0 W g,Env W0->Wk W0 W g false->Calls Tryz.prog 110 #[.pointer (some ⟨g,0,none⟩),.func (.func 131) #[] #[],.string ⟨p.toArray⟩,.string ⟨q.toArray⟩] W fun e w'=>e=.returned (.string ⟨s.toArray⟩)/\Wk W0 w' g c3) :
 aW 130 #[.func (.func 131) #[] #[],.agg #[.string ⟨a1.toArray⟩,.string ⟨a2.toArray⟩],.agg #[.string ⟨b1.toArray⟩,.string ⟨b2.toArray⟩]] w (.tuple #[QZ,.int .i64 40]):=by
 unfold QZ
 have hb:=bNew (bNew (au w (.cells #[.string ⟨a1.toArray⟩,.string ⟨a2.toArray⟩] 51)) (.cells #[.string ⟨b1.toArray⟩,.string ⟨b2.toArray⟩] 51)) (.cells #[.string ⟨#[]⟩,.string ⟨#[]⟩] 51);have BA:=((Bx.mk w 51 #[.string ⟨a1.toArray⟩,.string ⟨a2.toArray⟩]).new (.cells #[.string ⟨b1.toArray⟩,.string ⟨b2.toArray⟩] 51)).new (.cells #[.string ⟨#[]⟩,.string ⟨#[]⟩] 51);have BB:=(Bx.mk (w.alloc (.cells #[.string ⟨a1.toArray⟩,.string ⟨a2.toArray⟩] 51)) 51 #[.string ⟨b1.toArray⟩,.string ⟨b2.toArray⟩]).new (.cells #[.string ⟨#[]⟩,.string ⟨#[]⟩] 51);have BR:=Bx.mk ((w.alloc (.cells #[.string ⟨a1.toArray⟩,.string ⟨a2.toArray⟩] 51)).alloc (.cells #[.string ⟨b1.toArray⟩,.string ⟨b2.toArray⟩] 51)) 51 #[.string ⟨#[]⟩,.string ⟨#[]⟩];rw [ah]at BB;rw [ah,ah]at BR;have hE1:=hE.below hb;have hsz:(((w.alloc (.cells #[.string ⟨a1.toArray⟩,.string ⟨a2.toArray⟩] 51)).alloc (.cells #[.string ⟨b1.toArray⟩,.string ⟨b2.toArray⟩] 51)).alloc (.cells #[.string ⟨#[]⟩,.string ⟨#[]⟩] 51)).heap.size=w.heap.size+3:=by rw[ah,ah,ah]
 have DF:=BA.cell 0 rfl;have DC:=BA.cell 1 rfl;have cB0:=BB.cell 0 rfl;have cB1:=BB.cell 1 rfl;have hC:=wC a1 a2 b1 b2 _ _ hsz OJ OI OH OG hE1;clear OJ OI OH OG
 go_enter Tryz.func130,Tryz.ntmps130
 go_wp2_with fail;generalize (((w.alloc (.cells #[.string ⟨a1.toArray⟩,.string ⟨a2.toArray⟩] 51)).alloc (.cells #[.string ⟨b1.toArray⟩,.string ⟨b2.toArray⟩] 51)).alloc (.cells #[.string ⟨#[]⟩,.string ⟨#[]⟩] 51))=W0 at *;replace hsz:=Kp.mk hsz;refine hC.mono ?_;rintro _ w1 ⟨⟨v,rfl⟩,hw1⟩;clear hC DF DC cB0 cB1;go_wp2_with fail;generalize hg3:w.heap.size+3=g at *;generalize hgB:w.heap.size+1=gB at *;generalize hgA:w.heap.size=gA at *;have cA:∀w2 b,Wk W0 w2 g b->w2.cell? ⟨gA,0,none⟩=some (.string ⟨a1.toArray⟩)/\w2.cell? ⟨gA,1,none⟩=some (.string ⟨a2.toArray⟩):=fun w2 b h=>⟨(BA.below h.hb BA.lt).cell 0 rfl,(BA.below h.hb BA.lt).cell 1 rfl⟩
 have cB:∀w2 b,Wk W0 w2 g b->w2.cell? ⟨gB,0,none⟩=some (.string ⟨b1.toArray⟩)/\w2.cell? ⟨gB,1,none⟩=some (.string ⟨b2.toArray⟩):=fun w2 b h=>⟨(BB.below h.hb BB.lt).cell 0 rfl,(BB.below h.hb BB.lt).cell 1 rfl⟩
 replace hgA:=Kp.mk hgA;replace hgB:=Kp.mk hgB;replace hg3:=Kp.mk hg3;rw [h0]at hw1;clear h0;refine RK.aA (YV W0 g) [RK.ak (.pointer (some ⟨g,0,none⟩)),RK.ak (.func (.func 131) #[] #[]),RK.ak (.pointer (some ⟨g,0,none⟩)),RK.ak (.pointer (some ⟨gA,0,none⟩)),RK.ak (.string ⟨a1.toArray⟩),RK.ak (.pointer (some ⟨gB,1,none⟩)),RK.ak (.string ⟨b2.toArray⟩),PB W0 g c1 p,RK.ak (.pointer (some ⟨g,0,none⟩)),RK.ak (.pointer (some ⟨gB,0,none⟩)),RK.ak (.string ⟨b1.toArray⟩),RK.ak (.pointer (some ⟨gA,1,none⟩)),RK.ak (.string ⟨a2.toArray⟩),PB W0 g c2 q,PB W0 g c3 s,PB W0 g c3 s] 16 43 (by kernel_rfl) rfl rfl (by kernel_rfl) ?_ ?_ ?_
 · simp only[RK.bV]
   and_intros <;> first|exact RK.aF _|exact UA _ _ _ _|trivial
 · simp only[RK.Users,List.take,List.length];refine ⟨?_,?_,?_,?_,?_,?_,?_,?_,?_,?_,?_,?_,?_,?_,?_,?_,trivial⟩;all_goals (intro vs w2 hb2 hd;simp only[RK.aQ,Act.put,List.nil_append,List.cons_append,List.setIfInBounds_toArray,List.set_cons_succ,List.set_cons_zero,Nat.reduceAdd])
   · clear hd hX1 hX2 nU cA cB hbad;go_wp2;exact⟨K1.refl' _ _ _,rfl⟩
   · clear hd hX1 hX2 nU cA cB hbad;go_wp2;exact⟨K1.refl' _ _ _,rfl⟩
   · clear hd hX1 hX2 nU cA cB hbad;go_wp2;exact⟨K1.refl' _ _ _,rfl⟩
   · clear hd hX1 hX2 nU cA cB hbad;go_wp2;exact⟨K1.refl' _ _ _,rfl⟩
   · have e0:vs 3=_:=hd 3 rfl;obtain⟨bb,hw,hmono⟩:=hb2 _ hw1;clear hmono;have c0':=(cA _ _ hw).1;have c1':=(cA _ _ hw).2;clear hw;clear hd hX1 hX2 nU cA cB hbad;rw[e0];go_wp2;exact⟨K1.refl' _ _ _,rfl⟩
   · clear hd hX1 hX2 nU cA cB hbad;go_wp2;exact⟨K1.refl' _ _ _,rfl⟩
   · have e0:vs 5=_:=hd 5 rfl;obtain⟨bb,hw,hmono⟩:=hb2 _ hw1;clear hmono;have c0':=(cB _ _ hw).1;have c1':=(cB _ _ hw).2;clear hw;clear hd hX1 hX2 nU cA cB hbad;rw[e0];go_wp2;exact⟨K1.refl' _ _ _,rfl⟩
   · have e0:vs 2=_:=hd 2 rfl;have e1:vs 4=_:=hd 4 rfl;have e2:vs 6=_:=hd 6 rfl;rw[e0,e1,e2];clear hd e0 e1 e2;obtain ⟨bb,hw,hmono⟩:=hb2 _ hw1;cases bb
     · have hc0:c0=false:=by cases c0 <;> first|rfl|exact absurd (hmono rfl) (by decide)
       have hC:=hX1 hc0 W0 w2 g hE1 hw;clear hX1 hX2 nU cA cB hmono hb2 hc0 hbad;go_wp2_with fail;refine hC.mono ?_;rintro _ w9 ⟨rfl,Df⟩;clear hC;go_wp2;refine ⟨K1.to hw Df (fun h=>by cases h),p,rfl,?_⟩;cases c1
       · exact .inr ⟨rfl,rfl⟩
       · exact .inl Df
     · have hC:=uZ a1 b2 W0 w2 g hw;clear hX1 hX2 nU cA cB hmono hb2 hbad;go_wp2_with fail;refine hC.mono ?_;rintro _ w9 ⟨rfl,Df⟩;clear hC;go_wp2;exact ⟨K1.to hw Df (fun _=>rfl),[],rfl,.inl Df⟩
   · clear hd hX1 hX2 nU cA cB hbad;go_wp2;exact⟨K1.refl' _ _ _,rfl⟩
   · clear hd hX1 hX2 nU cA cB hbad;go_wp2;exact⟨K1.refl' _ _ _,rfl⟩
   · have e0:vs 9=_:=hd 9 rfl;obtain⟨bb,hw,hmono⟩:=hb2 _ hw1;clear hmono;have c0':=(cB _ _ hw).1;have c1':=(cB _ _ hw).2;clear hw;clear hd hX1 hX2 nU cA cB hbad;rw[e0];go_wp2;exact⟨K1.refl' _ _ _,rfl⟩
   · clear hd hX1 hX2 nU cA cB hbad;go_wp2;exact⟨K1.refl' _ _ _,rfl⟩
   · have e0:vs 11=_:=hd 11 rfl;obtain⟨bb,hw,hmono⟩:=hb2 _ hw1;clear hmono;have c0':=(cA _ _ hw).1;have c1':=(cA _ _ hw).2;clear hw;clear hd hX1 hX2 nU cA cB hbad;rw[e0];go_wp2;exact⟨K1.refl' _ _ _,rfl⟩
   · have e0:vs 8=_:=hd 8 rfl;have e1:vs 10=_:=hd 10 rfl;have e2:vs 12=_:=hd 12 rfl;rw[e0,e1,e2];clear hd e0 e1 e2;obtain ⟨bb,hw,hmono⟩:=hb2 _ hw1;cases bb
     · have hc0:c0=false:=by cases c0 <;> first|rfl|exact absurd (hmono rfl) (by decide)
       have hC:=hX2 hc0 W0 w2 g hE1 hw;clear hX1 hX2 nU cA cB hmono hb2 hc0 hbad;go_wp2_with fail;refine hC.mono ?_;rintro _ w9 ⟨rfl,Df⟩;clear hC;go_wp2;refine ⟨K1.to hw Df (fun h=>by cases h),q,rfl,?_⟩;cases c2
       · exact .inr ⟨rfl,rfl⟩
       · exact .inl Df
     · have hC:=uZ b1 a2 W0 w2 g hw;clear hX1 hX2 nU cA cB hmono hb2 hbad;go_wp2_with fail;refine hC.mono ?_;rintro _ w9 ⟨rfl,Df⟩;clear hC;go_wp2;exact ⟨K1.to hw Df (fun _=>rfl),[],rfl,.inl Df⟩
   · have e0:vs 0=_:=hd 0 rfl;have e1:vs 1=_:=hd 1 rfl;have e2:=hd 7 rfl;change PB W0 g c1 p (vs 7) w2 at e2;have e3:=hd 13 rfl;change PB W0 g c2 q (vs 13) w2 at e3;obtain ⟨y,ey,hy⟩:=e2;obtain ⟨z,ez,hz⟩:=e3;rw [e0,e1,ey,ez];clear hd e0 e1 ey ez;obtain ⟨bb,hw,hmono⟩:=hb2 _ hw1;cases bb
     · have hc0:c0=false:=by cases c0 <;> first|rfl|exact absurd (hmono rfl) (by decide)
       obtain⟨hc1,rfl⟩:c1=false/\y=p:=by
        rcases hy with h|h
        · exact absurd (hw.Zo h) (by decide)
        · exact h
       obtain⟨hc2,rfl⟩:c2=false/\z=q:=by
        rcases hz with h|h
        · exact absurd (hw.Zo h) (by decide)
        · exact h
       have hC:=nU hc0 hc1 hc2 W0 w2 g hE1 hw;clear hX1 hX2 nU cA cB hmono hb2 hc0 hc1 hc2 hbad hy hz;go_wp2_with fail;refine hC.mono ?_;rintro _ w9 ⟨rfl,Df⟩;clear hC;go_wp2;refine ⟨K1.to hw Df (fun h=>by cases h),s,rfl,?_⟩;cases c3
       · exact .inr ⟨rfl,rfl⟩
       · exact .inl Df
     · have hC:=NV y z W0 w2 g hw;clear hX1 hX2 nU cA cB hmono hb2 hbad hy hz;go_wp2_with fail;refine hC.mono ?_;rintro _ w9 ⟨rfl,rfl⟩;clear hC;go_wp2;exact ⟨K1.to hw hw (fun _=>rfl),[],rfl,.inl hw⟩
   · have e0:=hd 14 rfl;change PB W0 g c3 s (vs 14) w2 at e0;obtain ⟨y,ey,hy⟩:=e0;rw [ey];clear hd ey hX1 hX2 nU cA cB hbad;go_wp2;exact ⟨K1.refl' _ _ _,y,rfl,hy⟩
 · intro vs wa hba hR2;simp only[RK.cZ,RK.ak]at hR2;obtain ⟨e0,e1,e2,e3,e4,e5,e6,e7,e8,e9,e10,e11,e12,e13,e14,e15,-⟩:=hR2;simp only[List.drop,List.take,List.map,RK.aQ,Act.put,List.setIfInBounds_toArray,List.set_cons_succ,List.set_cons_zero,Nat.reduceAdd];obtain ⟨y7,f7,g7⟩:=e7;obtain ⟨y13,f13,g13⟩:=e13;obtain ⟨y14,f14,g14⟩:=e14;obtain ⟨y15,f15,g15⟩:=e15;rw [e0,e1,e2,e3,e4,e5,e6,f7,e8,e9,e10,e11,e12,f13,f14,f15]
   have IV:Wk W0 wa g true:=by
    obtain⟨bb,hw,hmono⟩:=hba _ hw1;cases bb
    · exfalso
      rcases hbad with h|h|h|h
      · exact absurd (hmono h) (by decide)
      · rcases g7 with h'|h'
        · exact absurd (hw.Zo h') (by decide)
        · rw[h]at h';exact absurd h'.1 (by decide)
      · rcases g13 with h'|h'
        · exact absurd (hw.Zo h') (by decide)
        · rw[h]at h';exact absurd h'.1 (by decide)
      · rcases g15 with h'|h'
        · exact absurd (hw.Zo h') (by decide)
        · rw[h]at h';exact absurd h'.1 (by decide)
    · exact hw
   clear hX1 hX2 nU hw1 hbad g7 g13 g14 g15;have c0':=(cA _ _ IV).1;have c1':=(cA _ _ IV).2;have d0:=(cB _ _ IV).1;have d1:=(cB _ _ IV).2;go_wp2_with fail;refine (uZ _ _ W0 _ _ IV).mono ?_;rintro _ w3 ⟨rfl,hw3⟩;clear IV c0' c1' d0 d1;go_wp2_with fail;refine (lJ _ _ W0 _ _ hw3).mono ?_;rintro _ w4 ⟨rfl,hb4⟩;clear hw3;obtain ⟨r1,hr1⟩:=jH ([]:List UInt8);obtain ⟨r2,hr2⟩:=jH ([]:List UInt8);have B:=BR.below hb4 BR.lt;have hb5:=hb.trans (hb4.mono (by have h1:=hb.size;have h2:=hgA.out;omega));have hle:gA<=gB+1:=by have:=hgA.out;have:=hgB.out;omega
   clear BR hb4 hb BA BB cA cB;have r0:=B.cell 0 rfl;have q1:=B.cell 1 rfl;have f0:=B.frozen 0;have f1:=B.frozen 1;have B2:=(B.set 0 (.string ⟨([]:List UInt8).toArray⟩)).set 1 (.string ⟨([]:List UInt8).toArray⟩);have hb2:=(hb5.setCell (p:=⟨gB+1,0,none⟩) hle (.string ⟨([]:List UInt8).toArray⟩)).setCell (p:=⟨gB+1,1,none⟩) hle (.string ⟨([]:List UInt8).toArray⟩);go_wp2;exact bodyPost_ret (aU rfl _ _ rfl rfl B2) rfl ⟨rfl,by rw[hgA.out];exact hb2⟩
theorem zq {z:Int} (h:Ig.fits z):(Ig.resE z != 0)=false:=by rw[Ig.dO h];rfl
theorem rV {z:Int} (h:¬Ig.fits z):(Ig.resE z != 0)=true:=by rw[Ig.zi h];rfl
theorem LM {z:Int} (h:(Ig.resE z != 0)=false):Ig.fits z:=by
 by_cases hf:Ig.fits z
 · exact hf
 · rw[rV hf]at h;cases h
theorem wz (a1 a2 b1 b2 r1 r2:List UInt8) (code:Int) (w:World)
 (hS:∀w0,Below w.heap.size w w0->aW 130 #[.func (.func 131) #[] #[],.agg #[.string ⟨a1.toArray⟩,.string ⟨a2.toArray⟩],.agg #[.string ⟨b1.toArray⟩,.string ⟨b2.toArray⟩]] w0 (.tuple #[.agg #[.string ⟨r1.toArray⟩,.string ⟨r2.toArray⟩],.int .i64 code])) :
 aW 90 #[.agg #[.string ⟨a1.toArray⟩,.string ⟨a2.toArray⟩],.agg #[.string ⟨b1.toArray⟩,.string ⟨b2.toArray⟩]] w (.tuple #[.agg #[.string ⟨r1.toArray⟩,.string ⟨r2.toArray⟩],.int .i64 code]):=by
 have hb:=bNew (bNew (au w (.cells #[.string ⟨a1.toArray⟩,.string ⟨a2.toArray⟩] 51)) (.cells #[.string ⟨b1.toArray⟩,.string ⟨b2.toArray⟩] 51)) (.cells #[.string ⟨#[]⟩,.string ⟨#[]⟩] 51);have BA:=((Bx.mk w 51 #[.string ⟨a1.toArray⟩,.string ⟨a2.toArray⟩]).new (.cells #[.string ⟨b1.toArray⟩,.string ⟨b2.toArray⟩] 51)).new (.cells #[.string ⟨#[]⟩,.string ⟨#[]⟩] 51);have BB:=(Bx.mk (w.alloc (.cells #[.string ⟨a1.toArray⟩,.string ⟨a2.toArray⟩] 51)) 51 #[.string ⟨b1.toArray⟩,.string ⟨b2.toArray⟩]).new (.cells #[.string ⟨#[]⟩,.string ⟨#[]⟩] 51);have BR:=Bx.mk ((w.alloc (.cells #[.string ⟨a1.toArray⟩,.string ⟨a2.toArray⟩] 51)).alloc (.cells #[.string ⟨b1.toArray⟩,.string ⟨b2.toArray⟩] 51)) 51 #[.string ⟨#[]⟩,.string ⟨#[]⟩];rw [ah]at BB;rw [ah,ah]at BR;have DF:=BA.cell 0 rfl;have DC:=BA.cell 1 rfl;have cB0:=BB.cell 0 rfl;have cB1:=BB.cell 1 rfl;have hC:=hS _ hb;clear hS
 go_enter Tryz.func90,Tryz.ntmps90
 go_wp2_with fail;refine hC.mono ?_;rintro _ w1 ⟨rfl,hb1⟩;clear hC BA BB DF DC cB0 cB1;have B:=BR.call hb1;replace hb:=aj hb hb1;clear BR hb1;have r0:=B.cell 0 rfl;have q1:=B.cell 1 rfl;have f0:=B.frozen 0;have f1:=B.frozen 1;have B2:=(B.set 0 (.string ⟨r1.toArray⟩)).set 1 (.string ⟨r2.toArray⟩);have hb2:=aJ (aJ hb (p:=⟨w.heap.size+1+1,0,none⟩) (by show w.heap.size<=w.heap.size+1+1;omega) (.string ⟨r1.toArray⟩)) (p:=⟨w.heap.size+1+1,1,none⟩) (by show w.heap.size<=w.heap.size+1+1;omega) (.string ⟨r2.toArray⟩);go_wp2;exact bodyPost_ret (aU rfl _ _ rfl rfl B2) rfl ⟨rfl,hb2⟩
theorem xB (x y:Int) (w0 W:World) (g:Nat) (hx:Ig.fits x) (hy:Ig.fits y) (hE:Env w0) (h:Wk w0 W g false) :
 Calls Tryz.prog 110 #[.pointer (some ⟨g,0,none⟩),.func (.func 131) #[] #[],.string ⟨(Lib.itoa x).toArray⟩,.string ⟨(Lib.itoa y).toArray⟩] W fun e w'=>e=.returned (.string ⟨(Ig.iq (x+y)).toArray⟩)/\Wk w0 w' g (Ig.resE (x+y) != 0) :=
 (JY _ _ _ _ w0 W g h (fun W' hb=>MC x y W' hx hy (hE.below hb))).mono fun _ _ ⟨h1,h2,_⟩=>⟨h1,h2⟩
theorem TN (a1 a2 b1 b2:List UInt8) (w:World) (hE:Env w) (OJ:a1.length<=1000000) (OI:a2.length<=1000000) (OH:b1.length<=1000000) (OG:b2.length<=1000000) (h:Rq.okB a1 a2=false∨Rq.okB b1 b2=false) :
 aW 90 #[.agg #[.string ⟨a1.toArray⟩,.string ⟨a2.toArray⟩],.agg #[.string ⟨b1.toArray⟩,.string ⟨b2.toArray⟩]] w (.tuple #[QZ,.int .i64 40]):=by
 have hb:(!Rq.okB a1 a2|| !Rq.okB b1 b2)=true:=by rcases h with h|h <;> simp[h]
 exact wz a1 a2 b1 b2 [] [] 40 w fun w0 hw0=>yY a1 a2 b1 b2 [] [] [] true true true true w0 (hE.below hw0) OJ OI OH OG hb (.inl rfl) (fun h=>by cases h) (fun h=>by cases h) (fun h=>by cases h)
section
variable (a b:Rat) (w:World)
def jY (a b:Rat):Prop:=Ig.fits (a.num*b.den)/\Ig.fits (b.num*a.den)/\Ig.fits (a.num*b.den+b.num*a.den)/\Ig.fits ((a.den:Int)*b.den)
theorem Oq (hE:Env w) (ha:Rq.Fq a) (hb:Rq.Fq b) (hf:jY a b) :
 aW 90 #[QV a,QV b] w (.tuple #[QV (a+b),.int .i64 0]):=by
 obtain⟨h1,h2,h3,h4⟩:=hf;have hk:(!Rq.okB (Lib.itoa a.num) (Lib.itoa (a.den:Int))|| !Rq.okB (Lib.itoa b.num) (Lib.itoa (b.den:Int)))=false:=by rw[Rq.oq ha,Rq.oq hb];rfl
 refine wz _ _ _ _ (Lib.itoa (a+b).num) (Lib.itoa ((a+b).den:Int)) 0 w fun w0 hw0=>?_
 refine xJ _ _ _ _ (Lib.itoa (a.num*b.den)) (Lib.itoa (b.num*a.den)) (Lib.itoa (a.num*b.den+b.num*a.den)) (Lib.itoa ((a.den:Int)*b.den)) _ _ 0 false w0 (hE.below hw0) (bU ha.num) (bU ha.den) (bU hb.num) (bU hb.den) hk ?_ ?_ ?_ ?_ ?_
 · exact fun W0 W g hE h=>(kT _ _ W0 W g ha.num hb.den h1 hE h).mono fun _ _ ⟨h1,h2,_⟩=>⟨h1,h2⟩
 · exact fun W0 W g hE h=>(kT _ _ W0 W g hb.num ha.den h2 hE h).mono fun _ _ ⟨h1,h2,_⟩=>⟨h1,h2⟩
 · intro W0 W g hE h;have:=xB _ _ W0 W g h1 h2 hE h;rw [Ig.dh h3,zq h3]at this;exact this
 · exact fun W0 W g hE h=>(kT _ _ W0 W g ha.den hb.den h4 hE h).mono fun _ _ ⟨h1,h2,_⟩=>⟨h1,h2⟩
 · intro W0 W g hE h;have:=o8 _ _ W0 W g h3 h4 (Int.mul_ne_zero (Rq.lQ a) (Rq.lQ b)) hE h;rw [Rq.TG]at this;exact this
theorem Oo (hE:Env w) (ha:Rq.Fq a) (hb:Rq.Fq b) (hf:¬jY a b) :
 aW 90 #[QV a,QV b] w (.tuple #[QZ,.int .i64 40]):=by
 have hk:(!Rq.okB (Lib.itoa a.num) (Lib.itoa (a.den:Int))|| !Rq.okB (Lib.itoa b.num) (Lib.itoa (b.den:Int)))=false:=by rw[Rq.oq ha,Rq.oq hb];rfl
 by_cases h3:Ig.fits (a.num*b.den)/\Ig.fits (b.num*a.den)/\Ig.fits (a.num*b.den+b.num*a.den)
 · have h4:¬Ig.fits ((a.den:Int)*b.den):=fun h=>hf ⟨h3.1,h3.2.1,h3.2.2,h⟩
   obtain⟨h1,h2,h3⟩:=h3;refine wz _ _ _ _ [] [] 40 w fun w0 hw0=>?_
   refine xJ _ _ _ _ (Lib.itoa (a.num*b.den)) (Lib.itoa (b.num*a.den)) (Lib.itoa (a.num*b.den+b.num*a.den)) [] _ _ 40 true w0 (hE.below hw0) (bU ha.num) (bU ha.den) (bU hb.num) (bU hb.den) hk ?_ ?_ ?_ ?_ ?_
   · exact fun W0 W g hE h=>(kT _ _ W0 W g ha.num hb.den h1 hE h).mono fun _ _ ⟨h1,h2,_⟩=>⟨h1,h2⟩
   · exact fun W0 W g hE h=>(kT _ _ W0 W g hb.num ha.den h2 hE h).mono fun _ _ ⟨h1,h2,_⟩=>⟨h1,h2⟩
   · intro W0 W g hE h;have:=xB _ _ W0 W g h1 h2 hE h;rw [Ig.dh h3,zq h3]at this;exact this
   · exact fun W0 W g hE h=>(zB _ _ W0 W g ha.den hb.den h4 hE h).mono fun _ _ ⟨h1,h2,_⟩=>⟨h1,h2⟩
   · exact fun W0 W g _ h=>lJ _ _ W0 W g h
 · refine wz _ _ _ _ [] [] 40 w fun w0 hw0=>?_
   refine yY _ _ _ _ (Ig.iq (a.num*b.den)) (Ig.iq (b.num*a.den)) (Ig.iq (a.num*b.den+b.num*a.den)) false (Ig.resE (a.num*b.den) != 0) (Ig.resE (b.num*a.den) != 0) (Ig.resE (a.num*b.den+b.num*a.den) != 0) w0 (hE.below hw0) (bU ha.num) (bU ha.den) (bU hb.num) (bU hb.den) hk ?_ ?_ ?_ ?_
   · by_cases h1:Ig.fits (a.num*b.den)
     · by_cases h2:Ig.fits (b.num*a.den)
       · exact .inr (.inr (.inr (rV fun h=>h3 ⟨h1,h2,h⟩)))
       · exact .inr (.inr (.inl (rV h2)))
     · exact .inr (.inl (rV h1))
   · exact fun _ W0 W g hE h=>(yL _ _ W0 W g ha.num hb.den hE h).mono fun _ _ ⟨h1,h2,_⟩=>⟨h1,h2⟩
   · exact fun _ W0 W g hE h=>(yL _ _ W0 W g hb.num ha.den hE h).mono fun _ _ ⟨h1,h2,_⟩=>⟨h1,h2⟩
   · intro _ e1 e2 W0 W g hE h;have h1:=LM e1;have h2:=LM e2;rw [Ig.dh h1,Ig.dh h2];exact xB _ _ W0 W g h1 h2 hE h
end
section
variable (a b:Rat) (w:World)
end
end Go.Proofs.YtelljijajgiabaaGreatDoor
namespace Tb
theorem SN:∀n k:Nat,ch n k<=2 ^ n
 | 0,0=>by decide
 | 0,k+1=>by show 0<=_;omega
 | n+1,0=>by show 1<=_;exact Nat.one_le_two_pow
 | n+1,k+1=>by
  have h1:=SN n k;have h2:=SN n (k+1);rw [pU,Nat.pow_succ];omega
theorem Um:2 ^ 101<10 ^ 31:=by decide
theorem qZ {n:Nat} (h:n<=101) (k:Nat):Rq.Sz 31 (ch n k:Int):=by
 unfold Rq.Sz
 rw[Int.natAbs_natCast];exact Nat.lt_of_le_of_lt (Nat.le_trans (SN n k) (Nat.pow_le_pow_right (by decide) h)) Um
theorem jU {c:Int} (h0:0<=c) (h1:c<=1000) (n:Nat):Rq.Sz (3*n+1) (c ^ n):=by
 unfold Rq.Sz
 rw[Int.natAbs_pow];have h2:c.natAbs ^ n<=1000 ^ n:=Nat.pow_le_pow_left (by omega) n;have h3:1000 ^ n=10 ^ (3*n):=by rw[show (1000:Nat)=10 ^ 3 from rfl,←Nat.pow_mul]
 rw[h3]at h2;exact Nat.lt_of_le_of_lt h2 (Nat.pow_lt_pow_right (by decide) (by omega))
theorem Pz {f:Nat->Int} {j k:Nat} (hf:∀i,Rq.Sz j (f i)):∀m,(sm f k m).natAbs<=m*10 ^ j
 | 0=>by simp[sm]
 | m+1=>by
  have h:=Pz (k:=k) hf m;have h2:=hf (k+m)
  unfold Rq.Sz at h2
  show (sm f k m+f (k+m)).natAbs<=_
  rw[Nat.add_mul];omega
theorem CB {f:Nat->Int} {j:Nat} (k:Nat) (hf:∀i,Rq.Sz j (f i)) {m:Nat} (hm:m<=999):Rq.Sz (j+3) (sm f k m):=by
 have h:=Pz (k:=k) hf m
 unfold Rq.Sz
 have h2:m*10 ^ j<10 ^ 3*10 ^ j:=Nat.mul_lt_mul_of_pos_right (show m<10 ^ 3 by omega) (Nat.pow_pos (by decide));rw [Nat.pow_add,Nat.mul_comm (10 ^ j)];exact Nat.lt_of_le_of_lt h h2
theorem V6 {n:Nat} {c d:Int} (hn:n<=50) (hc:0<=c) (hc1:c<=1000) (hd:0<=d) (hd1:d<=1000) (i:Nat):Rq.Sz 183 (tm n c d i):=by
 rcases Nat.lt_or_ge n i with h|h
 · rw[KE h];exact Rq.Sz.mono (show Rq.Sz 1 0 from Rq.Uw) (by decide)
 · unfold tm
   have h1:=qZ (show n<=101 by omega) i;have h2:=(jU hc hc1 i).mul (jU hd hd1 (n-i));exact (h1.mul h2).mono (by omega)
theorem V3 {a b m:Nat} (ha:a<=101) (hb:b<=101) (i:Nat):Rq.Sz 62 (vt a b m i):=(qZ ha i).mul (qZ hb (m-i))
theorem Eb {q:Rat} {k:Nat} (h0:0<=q) (h1:q<=1) (hd:Rq.Sz k (q.den:Int)):Rq.Qz k k q:=by
 refine⟨?_,hd⟩;have h2:=Rat.num_nonneg.2 h0;have h3:q.num<=q.den:=by have:=(Rat.le_iff _ _).1 h1;simpa using this
 unfold Rq.Sz at *
 rw[Int.natAbs_natCast]at hd;omega
theorem Pg {a b:Int} {k:Nat} (h0:0<=a) (h:a<=b) (hb:Rq.Sz k b):Rq.Sz k a:=by
 unfold Rq.Sz at *
 omega
theorem TP {n:Nat} {c d:Int} (hc:0<=c) (hd:0<=d) (h1:1<=c+d) (h2:c+d<=1000) (k:Nat):Rq.Qz (3*n+1) (3*n+1) (Pq n k c d) :=
 Eb (Fa hc hd h1) (Xi hc hd h1) (Pg (by omega) (z_ (den_pos h1)) (jU (by omega) h2 n))
theorem xG {t m d k:Nat} (hd:d<=t):0<=Hq t m d k:=by
 have hp:=Ah hd
 unfold Hq
 rw[Rat.divInt_nonneg_iff_of_pos_right (by omega)];exact wG fun i=>Int.mul_nonneg (by omega) (by omega)
theorem Xl {t m d k:Nat} (h:m<=t) (hd:d<=t) (hk:k<=d+1):Hq t m d k<=1:=by
 have h1:=Ox h hd hk;have h2:=xG (m:=t-m) (k:=d+1-k) hd
 grind
theorem Hq_qz {t m d k:Nat} (ht:t<=100) (h:m<=t) (hd:d<=t) (hk:k<=d+1):Rq.Qz 31 31 (Hq t m d k) :=
 Eb (xG hd) (Xl h hd hk) (Pg (by omega) (z_ (by have:=Ah hd;omega)) (qZ (by omega) d))
theorem Vr {a b:Rat} {j k:Nat} (ha:Rq.Qz j j a) (hb:Rq.Qz k k b) (h:j+k+1<=200):Go.Proofs.YtelljijajgiabaaGreatDoor.jY a b :=
 ⟨(ha.num.mul hb.den).fits (by omega),(hb.num.mul ha.den).fits (by omega),(((ha.num.mul hb.den).mono (show j+k<=j+k by omega)).add ((hb.num.mul ha.den).mono (show k+j<=j+k by omega))).fits (by omega),(ha.den.mul hb.den).fits (by omega)⟩
end Tb

import Derived.Test.YtohgjenaclfegaaGreatDoorQA03
set_option linter.unusedVariables false
set_option linter.unusedSimpArgs false
set_option maxRecDepth 100000
set_option maxHeartbeats 8000000
namespace Go.Proofs.YtohgjenaclfegaaGreatDoor
open Go.RowKit Go.Shelf
theorem hnI:∃i z,Tryz.prog.info? 70=some i/\i.zero=some z/\i.size=3/\z.cells.size=3/\i.bytes=32:=by
 have h:(Tryz.prog.info? 70).map (fun i=>(i.zero,i.size,i.bytes))=some (some (.agg #[.int .i64 0,.int .i64 0,.string ⟨#[]⟩]),3,32):=by kernel_rfl
 obtain⟨i,h1,h2,h3,h4⟩:=info_parts h;exact ⟨i,_,h1,h2,h3,rfl,h4⟩
theorem EU (h:Sh.Hn):∀u∈dw h,u.oneCell'=true:=fun u hu=>by
 simp only[dw,List.mem_cons,List.not_mem_nil,or_false]at hu
 rcases hu with rfl|rfl|rfl <;> rfl
theorem qy {fn:Func} {t u:Tmp} {g:Nat} {a b c d e f:Value} (hf:fn.results=#[.cell t 32,.tmp u]) (tmps:Array Value) (w:World) (ht:tmps.getD t undef=.pointer (some ⟨g,0,none⟩)) (hu:tmps.getD u undef=f) (hB:Bx w g 32 #[a,b,c,d,e]) :
 (results fn tmps).run Tryz.prog w=.ok (.tuple #[.agg #[a,b,c,d,e],f]) w:=by
 obtain⟨h0,h1,h2,h3,h4⟩:=hB.p5;have ht':tmps[t]?.getD undef=.pointer (some ⟨g,0,none⟩):=by simpa using ht
 have hu':tmps[u]?.getD undef=f:=by simpa using hu
 simp only[results,hf];simp [go_sem,ht',hu',h0,h1,h2,h3,h4,loadVar]
theorem tu {fn:Func} {t:Tmp} {g:Nat} {a b c d e:Value} (hf:fn.results=#[.cell t 32]) (tmps:Array Value) (w:World) (ht:tmps.getD t undef=.pointer (some ⟨g,0,none⟩)) (hB:Bx w g 32 #[a,b,c,d,e]) :
 (results fn tmps).run Tryz.prog w=.ok (.agg #[a,b,c,d,e]) w:=by
 obtain⟨h0,h1,h2,h3,h4⟩:=hB.p5;have ht':tmps[t]?.getD undef=.pointer (some ⟨g,0,none⟩):=by simpa using ht
 simp only[results,hf];simp [go_sem,ht',h0,h1,h2,h3,h4,loadVar]
theorem Df {fn:Func} {t:Tmp} {g:Nat} {a b c d:Value} (hf:fn.results=#[.cell t 29]) (tmps:Array Value) (w:World) (ht:tmps.getD t undef=.pointer (some ⟨g,0,none⟩)) (hB:Bx w g 29 #[a,b,c,d]) :
 (results fn tmps).run Tryz.prog w=.ok (.agg #[a,b,c,d]) w:=by
 obtain⟨h0,h1,h2,h3⟩:=hB.p4;have ht':tmps[t]?.getD undef=.pointer (some ⟨g,0,none⟩):=by simpa using ht
 simp only[results,hf];simp [go_sem,ht',h0,h1,h2,h3,loadVar]
def Qy (B:Nat) (d:Sh.Dl) (m:Nat) (fl:List Value):RS.Rl:=fun _ v w=>∃v',v=.agg (dD d v')/\y9 70 3 B m fl undef v' w
theorem sQ {B pos:Nat} {news:List Value} {d:Sh.Dl} {m:Nat} {fl:List Value} (hS:RS.b_ (KH B 70 pos news) (y9 70 3 B m fl)):RS.b_ (KW B pos news d m fl) (Qy B d m fl):=fun x v w w' ⟨v',e,h⟩ hK=>⟨v',e,hS _ _ _ _ h hK.kh⟩
theorem Dz {w w1:World} (hgr:w.grownBy w1 none):Below w.heap.size w w1:=(Below.refl w.heap.size w).grown hgr (Nat.le_refl _) (fun k hk=>by cases hk)
theorem Pj {w w1:World} {z:List UInt8} (hz:List.replicate 32 (0:UInt8)=z) (hown:w1.ownsRow w.heap.size 5 1 (.slice (some ⟨w.heap.size,0,none⟩) 32 32) 32 (madeCells (Value.int .u8 0).cells (32*1)).toList):Bx w1 w.heap.size 5 (Sh.bC z):=by
 subst hz
 rcases hown.2 with ⟨h,-⟩|⟨g,cap,cur,hv,-,hg,-,-,hcs,htk⟩
 · cases h
 · simp only[Value.slice.injEq,Option.some.injEq,Addr.mk.injEq,and_true,true_and]at hv;obtain ⟨rfl,rfl⟩:=hv;have hB:Bx w1 w.heap.size 5 cur:=hg
   have hc:cur=Sh.bC (List.replicate 32 0):=by
    apply Array.ext'
    rw[List.take_of_length_le (by rw[Array.length_toList,hcs];exact Nat.le_refl _)]at htk;exact htk.trans J_
   rw[hc]at hB;exact hB
theorem Em (hs r:List Sh.Hn):∀i,i<=hs.length->bf (hs++r) i=bf hs i
 | 0,_=>rfl
 | k+1,h=>by rw[bf,bf,List.getElem?_append_left (by omega)]
theorem Eo {w:World} {g cap:Nat} {cells:Array Value} {hs:List Sh.Hn} (hB:Bx w g 70 cells) (hc:cells.size=cap*3) (hn:hs.length<=cap) (hf:cells.toList.take (hs.length*3)=hs.flatMap dw):At 3 dw w w.heap.size (some ⟨g,0,none⟩) hs:=by
 obtain⟨A,h1,h2,-⟩:=dI.at (f:=dw) (fun _=>rfl) (show dI 70 3 0 cap hs.length (hs.flatMap dw) (.slice (some ⟨g,0,none⟩) hs.length cap) w from ⟨g,cells,rfl,Nat.zero_le _,hn,hB,hc,hf⟩);cases h1
 exact h2
theorem Jp (key:List UInt8) (d:Sh.Dl) (hs:List Sh.Hn) (c l:Int) (A:Option Addr) (cap:Nat) (w:World) (hkey:key.length=32) (hA:At 3 dw w w.heap.size A hs) (hn:hs.length<=cap) (hf:iK d (hs++[(⟨c,l,List.replicate 32 0⟩:Sh.Hn)])) :
 Calls Tryz.prog 71 #[.string ⟨key.toArray⟩,.agg (dD d (.slice A hs.length cap)),.int .i64 c,.int .i64 l] w fun e w'=>(∃v,e=.returned (.tuple #[.agg (dD d v),.int .i64 0])/\aF 70 3 w.heap.size (hs.length+1) ((hs++[(⟨c,l,Sh.sg key (Sh.cont d (hs.length:Nat) c l (bf hs hs.length))⟩:Sh.Hn)]).flatMap dw) v w')/\Below w.heap.size w w':=by
 obtain⟨bi,hbi,hbz,hbs,hbb⟩:=Ei;obtain ⟨ti,tz,hti,hzz,hs1,hz1,hby⟩:=hnI;have hlen:hs.length<=7:=by have:=hf.len.2;simp at this;omega
 have hcl:(Sh.cont d (hs.length:Nat) c l (bf hs hs.length)).length<=100000:=by
  have h9:=rY (i:=hs.length) (h:=(⟨c,l,List.replicate 32 0⟩:Sh.Hn)) (hs:=hs++[(⟨c,l,List.replicate 32 0⟩:Sh.Hn)]) hf.dl (hf.hn _ (by simp)) (by omega) hf.hn
  rwa [Em hs _ _ (Nat.le_refl _)]at h9
 have WR:key.length<=100000:=by omega
 obtain⟨z,hz⟩:∃z,Kp (List.replicate 32 (0:UInt8)=z):=⟨_,⟨rfl⟩⟩
 have hzl:Kp (z.length=32):=⟨by rw[←hz.out];rfl⟩
 rw[hz.out]at hf;have hfK:=Kp.mk hf;have hfl:(hs.flatMap dw).length=hs.length*3:=lV (f:=dw) (size:=3) (fun _=>rfl) hs;have hb:=bY w (.cells (dD d (.slice A hs.length cap)) 32);have BA:=Bx.mk w 32 (dD d (.slice A hs.length cap));have hbn:=bY (w.alloc (.cells (dD d (.slice A hs.length cap)) 32)) (.cells #[.int .i64 0,.int .i64 0,.int .i64 0,.int .i64 0,.slice none 0 0] 32);have BR:=Bx.mk (w.alloc (.cells (dD d (.slice A hs.length cap)) 32)) 32 #[.int .i64 0,.int .i64 0,.int .i64 0,.int .i64 0,.slice none 0 0];replace BA:=BA.call hbn;replace hb:=ah hb hbn;rw [World.size_alloc]at BR;have hA3:=hA.aU hb;obtain ⟨w3,hw3⟩:∃w3,Kp ((w.alloc (.cells (dD d (.slice A hs.length cap)) 32)).alloc (.cells #[.int .i64 0,.int .i64 0,.int .i64 0,.int .i64 0,.slice none 0 0] 32)=w3):=⟨_,⟨rfl⟩⟩
 rw[hw3.out]at BA BR hb hA3
 unfold dD at BA hw3 ⊢
 have hS:RS.b_ (KH w3.heap.size 70 (hs.length*3) (dw ⟨c,l,z⟩)) (y9 70 3 w3.heap.size (hs.length+1) (hs.flatMap dw++dw ⟨c,l,z⟩)):=F7 (m:=1) hfl rfl;clear hf hbn hA
 go_enter Tryz.func71,Tryz.ntmps71
 go_wp2_with fail;rw [hw3.out];clear hw3;refine RS.au (Ef (w3.heap.size) (hs.length*3) (dw ⟨c,l,z⟩) d (hs.length+1) (hs.flatMap dw++dw ⟨c,l,z⟩) hS) [(15,14)] [RS.ak (.pointer (some ⟨w.heap.size,0,none⟩)),RS.ak (.agg #[.int .i64 d.r,.int .i64 d.d,.int .i64 d.t,.int .i64 d.n]),Yg (w3.heap.size) 70,RS.ak (.pointer (some ⟨w.heap.size,4,none⟩)),RS.ak (.slice A hs.length cap),y9 70 3 (w3.heap.size) hs.length (hs.flatMap dw),RS.ak (.int .i64 c),RS.ak (.int .i64 l),SlB (w3.heap.size) 32 (Sh.bC z),RS.ak (.string ⟨z.toArray⟩),RS.ak (.agg #[.int .i64 c,.int .i64 l,.string ⟨z.toArray⟩]),SlN (w3.heap.size) 70 1 (dw ⟨c,l,z⟩),y9 70 3 (w3.heap.size) (hs.length+1) (hs.flatMap dw++dw ⟨c,l,z⟩),Qy (w3.heap.size) d (hs.length+1) (hs.flatMap dw++dw ⟨c,l,z⟩),Yi (w3.heap.size),Yd (w3.heap.size) d (hs.length+1) (hs.flatMap dw++dw ⟨c,l,z⟩)] 16 50 (by kernel_rfl) rfl rfl (by kernel_rfl) (by kernel_rfl) ?_ ?_ ?_
 · simp only[RS.aY]
   and_intros <;> first|exact RS.aI _|exact rJ Jd|exact rJ (sO hfl)|exact Jc|exact rJ (Jb (by show _∨3<=_;omega))|exact rJ hS|exact sQ hS|exact zy|exact zx hS|trivial
 · simp only[RS.aT,List.take,List.length];refine ⟨?_,?_,?_,?_,?_,?_,?_,?_,?_,?_,?_,?_,?_,?_,?_,?_,trivial⟩;all_goals (intro vs w2 hb2 hd;simp only[RS.aN,Act.put,List.nil_append,List.cons_append,List.setIfInBounds_toArray,List.set_cons_succ,List.set_cons_zero,Nat.reduceAdd];clear BR hb)
   · clear hd BA hA3;go_wp2;first|exact⟨KW.rf _ _ _ _ _ _ _,rfl⟩|exact⟨KW.rf _ _ _ _ _ _ _,by simp[RS.ak]⟩|exact KW.rf _ _ _ _ _ _ _|rfl|(simp [RS.ak])
   · have e0:vs 0=_:=hd 0 rfl;have x0:=(BA.below hb2.bl BA.lt).cell 0 rfl;have x1:=(BA.below hb2.bl BA.lt).cell 1 rfl;have x2:=(BA.below hb2.bl BA.lt).cell 2 rfl;have x3:=(BA.below hb2.bl BA.lt).cell 3 rfl;clear hd BA hA3;rw [e0];go_wp2;first|exact⟨KW.rf _ _ _ _ _ _ _,rfl⟩|exact⟨KW.rf _ _ _ _ _ _ _,by simp[RS.ak]⟩|exact KW.rf _ _ _ _ _ _ _|rfl|(simp [RS.ak])
   · have hK9:=hb2.call (Nat.le_refl _) (bY w2 (.cells #[] 70));have vN:=OW (B:=w3.heap.size) (e:=70) w2 hb2.size undef;clear hd BA hA3;go_wp2;first|exact⟨hK9,vN⟩|exact vN
   · clear hd BA hA3;go_wp2;first|exact⟨KW.rf _ _ _ _ _ _ _,rfl⟩|exact⟨KW.rf _ _ _ _ _ _ _,by simp[RS.ak]⟩|exact KW.rf _ _ _ _ _ _ _|rfl|(simp [RS.ak])
   · have e3:vs 3=_:=hd 3 rfl;have x4:=(BA.below hb2.bl BA.lt).cell 4 rfl;clear hd BA hA3;rw [e3];go_wp2;first|exact⟨KW.rf _ _ _ _ _ _ _,rfl⟩|exact⟨KW.rf _ _ _ _ _ _ _,by simp[RS.ak]⟩|exact KW.rf _ _ _ _ _ _ _|rfl|(simp [RS.ak])
   · have e4:vs 4=_:=hd 4 rfl;have hrow1:Yg (w3.heap.size) 70 undef (vs 2) w2:=hd 2 rfl;have hsrc:=At.src (P:=Tryz.prog) (e:=70) (t:=30) (f:=dw) (fun _=>rfl) EU Tryz.underlying30 ((hA3.below hb2.bl).more hb2.size) cap;have hsz2:w3.heap.size<=w2.heap.size:=hb2.size;clear hd BA hA3;rw [e4];obtain ⟨v9,w9,Ce,f1,f2⟩:=Ya (P:=Tryz.prog) 30 30 70 ti tz 3 (w3.heap.size) hs.length (hs.flatMap dw) _ _ undef Tryz.underlying30 hti hzz hs1 hz1 hrow1 hsz2 hsrc (by unfold maxLen;omega) (by rw[hby];omega);refine sF (by rfl) (.tmp 14) (.tmp 16) 30 rfl _ _ v9 rfl rfl Ce ?_;exact ⟨rfl,rfl,KW.of hsz2 f1,f2⟩
   · clear hd BA hA3;go_wp2;first|exact⟨KW.rf _ _ _ _ _ _ _,rfl⟩|exact⟨KW.rf _ _ _ _ _ _ _,by simp[RS.ak]⟩|exact KW.rf _ _ _ _ _ _ _|rfl|(simp [RS.ak])
   · clear hd BA hA3;go_wp2;first|exact⟨KW.rf _ _ _ _ _ _ _,rfl⟩|exact⟨KW.rf _ _ _ _ _ _ _,by simp[RS.ak]⟩|exact KW.rf _ _ _ _ _ _ _|rfl|(simp [RS.ak])
   · have hsz2:w3.heap.size<=w2.heap.size:=hb2.size;clear hd BA hA3
     at_make
     refine wpList_make_full _ rfl (.const (.int .i64 32)) (.const (.int .i64 32)) 157 rfl w2.heap.size 5 bi (.int .u8 0) 1 bT hbi hbz hbs .i64 .i64 32 32 32 rfl rfl rfl rfl (by rw[hbb];decide) (by decide) (Nat.le_refl _) ?_;intro w9 hown hgr;have hK9:=hb2.call (Nat.le_refl _) (Dz hgr);have pI:SlB (w3.heap.size) 32 (Sh.bC z) undef (.slice (some ⟨w2.heap.size,0,none⟩) 32 32) w9:=⟨_,rfl,hsz2,Pj hz.out hown⟩
     clear hown hgr;go_wp2;first|exact⟨hK9,pI⟩|exact pI
   · obtain⟨g8,e8,U7,rW⟩:=hd 8 rfl;change vs 8=_ at e8;have hcv:=pW w2 g8 32 z (fun j x hx=>rW.cell j (Sh.uN hx));rw [hzl.out]at hcv;clear hd rW BA hA3;rw [e8];go_wp2;first|exact⟨KW.rf _ _ _ _ _ _ _,rfl⟩|exact KW.rf _ _ _ _ _ _ _|rfl
   · have e6:vs 6=_:=hd 6 rfl;have e7:vs 7=_:=hd 7 rfl;have e9:vs 9=_:=hd 9 rfl;clear hd BA hA3;rw [e6,e7,e9];go_wp2;first|exact⟨KW.rf _ _ _ _ _ _ _,rfl⟩|exact⟨KW.rf _ _ _ _ _ _ _,by simp[RS.ak]⟩|exact KW.rf _ _ _ _ _ _ _|rfl|(simp [RS.ak])
   · have e3:vs 10=_:=hd 10 rfl;have hK9:=hb2.call (Nat.le_refl _) (bY w2 (.cells (dw (⟨c,l,z⟩:Sh.Hn)).toArray 70));have pI:SlN (w3.heap.size) 70 1 (dw ⟨c,l,z⟩) undef (.slice (some ⟨w2.heap.size,0,none⟩) 1 1) (w2.alloc (.cells (dw (⟨c,l,z⟩:Sh.Hn)).toArray 70)):=⟨_,rfl,hb2.size,Bx.mk _ _ _⟩
     clear hd BA hA3;rw [e3];go_wp2;first|exact⟨hK9,pI⟩|exact pI
   · have hrow1:aF 70 3 (w3.heap.size) hs.length (hs.flatMap dw) (vs 5) w2:=hd 5 rfl;obtain ⟨g4,e4,hg4,hB4⟩:=hd 11 rfl;change vs 11=_ at e4;have hsrc:=dI.src (P:=Tryz.prog) (B:=w3.heap.size) (cap:=1) (e:=70) (size:=3) (t:=30) (EU (⟨c,l,z⟩:Sh.Hn)) Tryz.underlying30 (show dI 70 3 (w3.heap.size) 1 1 (dw (⟨c,l,z⟩:Sh.Hn)) (vs 11) w2 from ⟨g4,_,e4,hg4,Nat.le_refl _,hB4,rfl,rfl⟩);have hsz2:w3.heap.size<=w2.heap.size:=hb2.size;clear hd hb2 BA hA3;obtain ⟨v9,w9,Ce,f1,f2⟩:=UK (P:=Tryz.prog) 30 30 70 ti tz 3 (w3.heap.size) hs.length 1 (hs.flatMap dw) (dw (⟨c,l,z⟩:Sh.Hn)) _ _ Tryz.underlying30 hti hzz hs1 hz1 hrow1 hsz2 hsrc (by omega) (by unfold maxLen;omega) (by rw[hby];omega);refine sF (by rfl) (.tmp 17) (.tmp 23) 30 rfl _ _ v9 rfl rfl Ce ?_;exact ⟨rfl,rfl,KW.he f1,f2⟩
   · have e1:vs 1=_:=hd 1 rfl;have hrow1:y9 70 3 (w3.heap.size) (hs.length+1) (hs.flatMap dw++dw ⟨c,l,z⟩) undef (vs 12) w2:=hd 12 rfl;obtain ⟨v9,e9⟩:∃v9,vs 12=v9:=⟨_,rfl⟩
     rw[e9]at hrow1;obtain ⟨A9,c9,e8⟩:=aF.U2 hrow1;have E8:Qy (w3.heap.size) d (hs.length+1) (hs.flatMap dw++dw ⟨c,l,z⟩) undef (.agg (dD d v9)) w2:=⟨v9,rfl,hrow1⟩
     unfold dD at E8
     subst e8;clear hd hrow1 BA hA3;rw [e1,e9];go_wp2;first|exact⟨KW.rf _ _ _ _ _ _ _,E8⟩|exact E8
   · have hsz:=hb2.size;have hK9:=hb2.call (Nat.le_refl _) (bY w2 (.cells #[.int .i64 0,.int .i64 0,.int .i64 0,.int .i64 0,.slice none 0 0] 32));have pI:Yi (w3.heap.size) undef (.pointer (some ⟨w2.heap.size,0,none⟩)) (w2.alloc (.cells #[.int .i64 0,.int .i64 0,.int .i64 0,.int .i64 0,.slice none 0 0] 32)):=⟨w2.heap.size,_,rfl,hsz,rfl,Bx.mk w2 32 #[.int .i64 0,.int .i64 0,.int .i64 0,.int .i64 0,.slice none 0 0]⟩
     clear hd BA hA3;go_wp2;first|exact⟨hK9,pI⟩|exact pI
   · obtain⟨g8,c8,e8,U7,hc8,rW⟩:=hd 14 rfl;change vs 14=_ at e8;obtain ⟨v9,e13,hrow1⟩:Qy (w3.heap.size) d (hs.length+1) (hs.flatMap dw++dw ⟨c,l,z⟩) undef (vs 13) w2:=hd 13 rfl;have hK9:=KW.put (B:=w3.heap.size) (pos:=hs.length*3) (news:=dw ⟨c,l,z⟩) (d:=d) hS U7 rW hc8 v9 hrow1 (vs 14) e8 undef
     obtain⟨x0,x1,x2,x3,x4,rfl⟩:∃x0 x1 x2 x3 x4,c8=#[x0,x1,x2,x3,x4]:=by
      rcases c8 with ⟨l8⟩
      match l8,hc8 with
      | [x0,x1,x2,x3,x4],_=>exact⟨x0,x1,x2,x3,x4,rfl⟩
     obtain⟨b0,b1,b2,b3,b4⟩:=rW.p5;have f0:=fun i=>rW.frozen i
     obtain⟨A9,c9,e7⟩:=aF.U2 hrow1;subst e7
     unfold dD at e13
     unfold jl at hK9
     clear hd hb2 hrow1 rW BA hA3;rw [e8,e13];obtain ⟨hK8,Rf⟩:=hK9;clear e8 e13;go_wp2;first|exact Rf|exact⟨hK8,Rf⟩
 · intro vs wa hba hR2;simp only[RS.bV,RS.ak]at hR2;obtain ⟨-,-,-,-,-,-,-,-,-,-,-,-,-,-,⟨gP,cP,e14,-,-,-⟩,⟨gR,cR,e15,hgR,BW,hGW⟩,-⟩:=hR2;simp only[List.drop,List.take,List.map,RS.aN,Act.put,List.setIfInBounds_toArray,List.set_cons_succ,List.set_cons_zero,Nat.reduceAdd];change vs 14=_ at e14;replace e15:vs 14=.pointer (some ⟨gR,0,none⟩):=e15;rw [e15];clear e14 e15 cP gP;obtain ⟨vR,rfl,hrow⟩:=hGW
   rcases (show aF 70 3 w3.heap.size (hs.length+1) (hs.flatMap dw++dw ⟨c,l,z⟩) vR wa from hrow) with ⟨-,h0,-⟩|⟨cH,⟨gH,cells,rfl,hgH,LV,hbx,hcs,LG⟩,hcm⟩
   · omega
   have EX:∀x:Sh.Hn,hs.flatMap dw++dw x=(hs++[x]).flatMap dw:=fun x=>by rw[List.flatMap_append,List.flatMap_singleton]
   have hle1:∀x:Sh.Hn,(hs++[x]).length=hs.length+1:=fun x=>by simp
   have hC:=sZ d (hs++[⟨c,l,z⟩]) (some ⟨gH,0,none⟩) cH wa (Eo hbx hcs (by rw[hle1];exact LV) (by rw[hle1,LG,EX])) (by rw[hle1];exact LV) hfK.out;rw [hle1]at hC;have hb3:w.heap.size+1<w3.heap.size:=BR.lt;replace hb:=ah hb (hba.bl);replace BR:=BR.call hba.bl
   unfold dD at hC BW
   have r0:=BW.cell 0 (v:=.int .i64 d.r) rfl;have r1:=BW.cell 1 (v:=.int .i64 d.d) rfl;have r2:=BW.cell 2 (v:=.int .i64 d.t) rfl;have r3:=BW.cell 3 (v:=.int .i64 d.n) rfl;have r4:=BW.cell 4 (v:=.slice (some ⟨gH,0,none⟩) (hs.length+1) cH) rfl;clear hrow hba hA3 hS BA;go_wp2_with fail;refine hC.mono ?_;rintro _ w5 ⟨rfl,hb5⟩;replace hb:=ah hb hb5;replace BR:=BR.call hb5;replace BW:=BW.call hb5;replace hbx:=hbx.call hb5;clear hC hb5 r0 r1 r2 r3 r4;have r4:=BW.cell 4 (v:=.slice (some ⟨gH,0,none⟩) (hs.length+1) cH) rfl;have hcast:((hs.length+1:Nat):Int)-1=(hs.length:Int):=by omega
   go_upto_region 5 with fail;clear r4 hcast
   have hok:∀s:List UInt8,s.length=32->∀x∈hs++[(⟨c,l,s⟩:Sh.Hn)],ql x:=fun s hs9 x hx=>by
    rcases List.mem_append.1 hx with h|h
    · exact hfK.out.hn x (by simp[h])
    · have h9:=hfK.out.hn ⟨c,l,z⟩ (by simp);rw [List.mem_singleton]at h;subst h;exact ⟨h9.c,h9.l,by simp[hs9]⟩
   have hdl:=hfK.out.dl;obtain ⟨Y6,hsg⟩:∃s,Kp (Sh.sg key (Sh.cont d (hs.length:Nat) c l (bf hs hs.length))=s):=⟨_,⟨rfl⟩⟩
   have hsl:Y6.length=32:=by rw[←hsg.out];exact Sh.CX _ _
   obtain⟨cells2,hst1⟩:∃c2,cells.setIfInBounds (hs.length*3+2) (.string ⟨(Sh.sg key (Sh.cont d (hs.length:Nat) c l (bf hs hs.length))).toArray⟩)=c2:=⟨_,rfl⟩
   have hst2:cells2.setIfInBounds (hs.length*3+2) (.string ⟨(Sh.sg key (Sh.cont d (hs.length:Nat) c l (bf hs hs.length))).toArray⟩)=cells2:=by rw[←hst1,Array.setIfInBounds_setIfInBounds]
   have hsz:hs.length*3+2<cells.size:=by rw[hcs];omega
   have hcs2:cells2.size=cH*3:=by rw[←hst1,Array.size_setIfInBounds,hcs]
   have TQ:cells2.toList.take ((hs.length+1)*3)=hs.flatMap dw++dw ⟨c,l,Y6⟩:=by
    rw[←hst1,hsg.out,Array.toList_setIfInBounds,List.take_set,LG,List.set_append_right _ _ (by rw[hfl];omega),hfl,Nat.add_sub_cancel_left];rfl
   have Q8:cells.toList.take (hs.length*3+3)=hs.flatMap dw++dw ⟨c,l,z⟩:=by rw[←LG,Nat.add_mul]
   have hcz:cells[hs.length*3+2]? = some (.string ⟨z.toArray⟩):=by
    rw[je (flat:=hs.flatMap dw++dw ⟨c,l,z⟩) (k:=hs.length*3+3) (by rw[List.length_append,hfl];rfl) Q8 (by show _<hs.length*3+3;omega),List.getElem?_append_right (by rw[hfl];omega),hfl,Nat.add_sub_cancel_left];rfl
   have Xe:cells2[hs.length*3+2]? = some (.string ⟨(Sh.sg key (Sh.cont d (hs.length:Nat) c l (bf hs hs.length))).toArray⟩):=by
    rw[←hst1];exact Array.getElem?_setIfInBounds_self_of_lt hsz
   have jS:∀w2,RS.KZ gH 70 cells cells2 w5 w2->bP 119 #[.agg #[.int .i64 d.r,.int .i64 d.d,.int .i64 d.t,.int .i64 d.n,.slice (some ⟨gH,0,none⟩) (hs.length+1) cH],.int .i64 (hs.length:Nat)] w2 (.string ⟨(Sh.cont d (hs.length:Nat) c l (bf hs hs.length)).toArray⟩):=fun w2 hK=>by
    have VP:∀x:List UInt8,x.length=32->At 3 dw w2 w2.heap.size (some ⟨gH,0,none⟩) (hs++[⟨c,l,x⟩])->bP 119 #[.agg #[.int .i64 d.r,.int .i64 d.d,.int .i64 d.t,.int .i64 d.n,.slice (some ⟨gH,0,none⟩) (hs.length+1) cH],.int .i64 (hs.length:Nat)] w2 (.string ⟨(Sh.cont d (hs.length:Nat) c l (bf hs hs.length)).toArray⟩):=fun x hx hAt=>by
     have h9:=oO d (hs++[(⟨c,l,x⟩:Sh.Hn)]) hs.length ⟨c,l,x⟩ _ cH w2 hAt (by rw[hle1];exact LV) (by rw[hle1];omega) (by simp) hdl (hok x hx);rw [Em _ _ _ (Nat.le_refl _),hle1]at h9;exact h9
    rcases hK.own gH cells (Nat.le_refl _) hbx with h|⟨-,h⟩
    · exact VP z hzl.out (Eo h hcs (by rw[hle1];exact LV) (by rw[hle1,LG,EX]))
    · exact VP Y6 hsl (Eo h hcs2 (by rw[hle1];exact LV) (by rw[hle1,TQ,EX]))
   clear hfK hok hdl;refine RS.au (RS.dX (gH) 70 cells cells2) [] [RS.ak (.pointer (some ⟨gR,4,none⟩)),RS.ak (.slice (some ⟨gH,0,none⟩) (hs.length+1) cH),RS.ak (.int .i64 (hs.length:Nat)),RS.ak (.string ⟨key.toArray⟩),RS.ak (.agg #[.int .i64 d.r,.int .i64 d.d,.int .i64 d.t,.int .i64 d.n,.slice (some ⟨gH,0,none⟩) (hs.length+1) cH]),RS.ak (.int .i64 (hs.length:Nat)),RS.ak (.string ⟨(Sh.cont d (hs.length:Nat) c l (bf hs hs.length)).toArray⟩),RS.ak (.string ⟨(Sh.sg key (Sh.cont d (hs.length:Nat) c l (bf hs hs.length))).toArray⟩),RS.ak (.pointer (some ⟨gH,hs.length*3,none⟩)),RS.ak (.pointer (some ⟨gH,hs.length*3+2,none⟩)),RS.BoZ (gH) 70 cells2] 11 50 (by kernel_rfl) rfl rfl (by kernel_rfl) (by kernel_rfl) ?_ ?_ ?_
   · simp only[RS.aY]
     and_intros <;> first|exact RS.aI _|exact RS.zA|trivial
   · simp only[RS.aT,List.take,List.length];refine ⟨?_,?_,?_,?_,?_,?_,?_,?_,?_,?_,?_,trivial⟩;all_goals (intro vs w2 hb2 hd;simp only[RS.aN,Act.put,List.nil_append,List.cons_append,List.setIfInBounds_toArray,List.set_cons_succ,List.set_cons_zero,Nat.reduceAdd])
     · clear hd jS BW;go_wp2;exact aO
     · have e0:vs 0=_:=hd 0 rfl;have q0:=(hb2.Gt.bx (by decide) BW).cell 4 (v:=.slice (some ⟨gH,0,none⟩) (hs.length+1) cH) rfl;clear hd jS BW;rw [e0];go_wp2;exact aO
     · clear hd jS BW;go_wp2;exact aO
     · clear hd jS BW;go_wp2;exact aO
     · have q0:=(hb2.Gt.bx (by decide) BW).cell 0 (v:=.int .i64 d.r) rfl;have q1:=(hb2.Gt.bx (by decide) BW).cell 1 (v:=.int .i64 d.d) rfl;have q2:=(hb2.Gt.bx (by decide) BW).cell 2 (v:=.int .i64 d.t) rfl;have q3:=(hb2.Gt.bx (by decide) BW).cell 3 (v:=.int .i64 d.n) rfl;have q4:=(hb2.Gt.bx (by decide) BW).cell 4 (v:=.slice (some ⟨gH,0,none⟩) (hs.length+1) cH) rfl;clear hd jS BW;go_wp2;exact aO
     · clear hd jS BW;go_wp2;exact aO
     · have e0:vs 4=_:=hd 4 rfl;have e1:vs 5=_:=hd 5 rfl;have hC:=jS w2 hb2;clear hd jS BW;rw [e0,e1];go_wp2_with fail;refine hC.mono ?_;rintro _ w9 ⟨rfl,aX⟩;clear hC;have hK9:=hb2.call (Nat.le_of_lt hbx.lt) aX;go_wp2;first|exact⟨hK9,rfl⟩|exact hK9|rfl
     · have e0:vs 3=_:=hd 3 rfl;have e1:vs 6=_:=hd 6 rfl;have hC:=wz key (Sh.cont d (hs.length:Nat) c l (bf hs hs.length)) w2 WR hcl;clear hd jS BW;rw [e0,e1];go_wp2_with fail;refine hC.mono ?_;rintro _ w9 ⟨rfl,aX⟩;clear hC;have hK9:=hb2.call (Nat.le_of_lt hbx.lt) aX;go_wp2;first|exact⟨hK9,rfl⟩|exact hK9|rfl
     · have e0:vs 1=_:=hd 1 rfl;have e1:vs 2=_:=hd 2 rfl;clear hd jS BW;rw [e0,e1];go_wp2;exact aO
     · have e0:vs 8=_:=hd 8 rfl;clear hd jS BW;rw [e0];go_wp2;exact aO
     · have e0:vs 7=_:=hd 7 rfl;have e1:vs 9=_:=hd 9 rfl
       rcases hb2.own _ _ (Nat.le_refl _) hbx with hBg|⟨-,hBg⟩
       · have hN:Bx (w2.setCell ⟨gH,hs.length*3+2,none⟩ (.string ⟨(Sh.sg key (Sh.cont d (hs.length:Nat) c l (bf hs hs.length))).toArray⟩)) (gH) 70 cells2:=by have h9:=hBg.set (hs.length*3+2) (.string ⟨(Sh.sg key (Sh.cont d (hs.length:Nat) c l (bf hs hs.length))).toArray⟩);rw[hst1]at h9;exact h9
         have hK:RS.KZ (gH) 70 cells cells2 w2 (w2.setCell ⟨gH,hs.length*3+2,none⟩ (.string ⟨(Sh.sg key (Sh.cont d (hs.length:Nat) c l (bf hs hs.length))).toArray⟩)):=RS.KZ.put (Nat.le_refl _) (.inl hBg) (Below.setCell (Below.refl (gH) w2) (p:=⟨gH,hs.length*3+2,none⟩) (Nat.le_refl _) (.string ⟨(Sh.sg key (Sh.cont d (hs.length:Nat) c l (bf hs hs.length))).toArray⟩)).size (Below.setCell (Below.refl (gH) w2) (p:=⟨gH,hs.length*3+2,none⟩) (Nat.le_refl _) (.string ⟨(Sh.sg key (Sh.cont d (hs.length:Nat) c l (bf hs hs.length))).toArray⟩)) (fun b e=>Below.heap_setCell _ ⟨gH,hs.length*3+2,none⟩ _ b e) hN;have q0:=hBg.cell (hs.length*3+2) hcz;have f0:=hBg.frozen (hs.length*3+2);clear hd jS BW;rw [e0,e1];clear hBg hb2;go_wp2;first|exact⟨hK,hN⟩|exact hN|exact hK
       · have hN:Bx (w2.setCell ⟨gH,hs.length*3+2,none⟩ (.string ⟨(Sh.sg key (Sh.cont d (hs.length:Nat) c l (bf hs hs.length))).toArray⟩)) (gH) 70 cells2:=by have h9:=hBg.set (hs.length*3+2) (.string ⟨(Sh.sg key (Sh.cont d (hs.length:Nat) c l (bf hs hs.length))).toArray⟩);rw[hst2]at h9;exact h9
         have hK:RS.KZ (gH) 70 cells cells2 w2 (w2.setCell ⟨gH,hs.length*3+2,none⟩ (.string ⟨(Sh.sg key (Sh.cont d (hs.length:Nat) c l (bf hs hs.length))).toArray⟩)):=RS.KZ.put (Nat.le_refl _) (.inr hBg) (Below.setCell (Below.refl (gH) w2) (p:=⟨gH,hs.length*3+2,none⟩) (Nat.le_refl _) (.string ⟨(Sh.sg key (Sh.cont d (hs.length:Nat) c l (bf hs hs.length))).toArray⟩)).size (Below.setCell (Below.refl (gH) w2) (p:=⟨gH,hs.length*3+2,none⟩) (Nat.le_refl _) (.string ⟨(Sh.sg key (Sh.cont d (hs.length:Nat) c l (bf hs hs.length))).toArray⟩)) (fun b e=>Below.heap_setCell _ ⟨gH,hs.length*3+2,none⟩ _ b e) hN;have q0:=hBg.cell (hs.length*3+2) Xe;have f0:=hBg.frozen (hs.length*3+2);clear hd jS BW;rw [e0,e1];clear hBg hb2;go_wp2;first|exact⟨hK,hN⟩|exact hN|exact hK
   · intro vs wa hba hR2;simp only[RS.bV,RS.ak]at hR2;obtain ⟨e0,e1,e2,e3,e4,e5,e6,e7,e8,e9,e10,-⟩:=hR2;simp only[List.drop,List.take,List.map,RS.aN,Act.put,List.setIfInBounds_toArray,List.set_cons_succ,List.set_cons_zero,Nat.reduceAdd];rw [e0,e1,e2,e3,e4,e5,e6,e7,e8,e9];clear e0 e1 e2 e3 e4 e5 e6 e7 e8 e9;have BN:=e10;clear e10;change Bx _ _ _ _ at BN;have Qv:=hba.Gt.bx (by decide) BW;have RY:=hba.Gt.bx (by decide) BR;have hbf:=hb.trans (hba.bl.mono (by omega));have Z7:gH≠w.heap.size+1:=by omega
     have hfin:=hbf.trans (iU (d:=d) (B:=w.heap.size) (w:=wa) (g:=w.heap.size+1) (by omega) (.slice (some ⟨gH,0,none⟩) (hs.length+1) cH));have hbx2:=lD (d:=d) (w:=wa) (.slice (some ⟨gH,0,none⟩) (hs.length+1) cH) Z7 BN;have QZ:aF 70 3 w.heap.size (hs.length+1) ((hs++[(⟨c,l,Sh.sg key (Sh.cont d (hs.length:Nat) c l (bf hs hs.length))⟩:Sh.Hn)]).flatMap dw) (.slice (some ⟨gH,0,none⟩) (hs.length+1) cH) (jl wa (w.heap.size+1) d (.slice (some ⟨gH,0,none⟩) (hs.length+1) cH)):=.inr ⟨cH,⟨gH,cells2,rfl,by omega,LV,hbx2,hcs2,by rw[←EX,hsg.out];exact TQ⟩,hcm⟩;have r0:=Qv.cell 0 (v:=.int .i64 d.r) rfl;have r1:=Qv.cell 1 (v:=.int .i64 d.d) rfl;have r2:=Qv.cell 2 (v:=.int .i64 d.t) rfl;have r3:=Qv.cell 3 (v:=.int .i64 d.n) rfl;have r4:=Qv.cell 4 (v:=.slice (some ⟨gH,0,none⟩) (hs.length+1) cH) rfl;have b0:=RY.cell 0 (v:=.int .i64 0) rfl;have b1:=RY.cell 1 (v:=.int .i64 0) rfl;have b2:=RY.cell 2 (v:=.int .i64 0) rfl;have b3:=RY.cell 3 (v:=.int .i64 0) rfl;have b4:=RY.cell 4 (v:=.slice none 0 0) rfl;have f0:=fun i=>RY.frozen i
     have NT:=oL (d:=d) RY rfl (.slice (some ⟨gH,0,none⟩) (hs.length+1) cH)
     unfold dD at NT
     unfold jl at hfin QZ NT
     clear hba BW BR Qv RY hbf hbx2 BN hb hst1 hst2 hcz Xe TQ LG Q8 hcs2 hcs hbx;go_wp2;exact bodyPost_ret (qy rfl _ _ rfl rfl NT) rfl ⟨⟨_,rfl,QZ⟩,hfin⟩
def mg (k:List UInt8):Prop:=k.length=32∨k=[]
theorem Jw (ks:List (List UInt8)) (K:Option Addr) (kc:Nat) (w:World) (hK:At 1 h_ w w.heap.size K ks) (h8:ks.length=8) (hks:∀k∈ks,mg k) :
 bP 73 #[.slice K 8 kc,.bool false] w (.bool true):=by
 have YS:=Kp.mk h8;obtain ⟨pk,ok,rfl,hpk,hkc⟩:=hK (by omega)
 have hc:∀k s,ks[k]? = some s->w.cell? ⟨pk,ok+k,none⟩=some (.string ⟨s.toArray⟩):=fun k s hs=>by
  have h9:=hkc k s hs 0 _ rfl
  rwa [Nat.mul_one,Nat.add_zero]at h9
 have hb0:=aP w;clear hK hkc h8
 go_enter Tryz.func73,Tryz.ntmps73
 go_wp2_with fail
 go_loopw [5] (fun s5 wr=>∃k:Nat,k<=8/\s5=.int .i64 k/\Below w.heap.size w wr) (fun s5 _=>8-(intOf s5).toNat)
 case atStart=>exact⟨0,by omega,rfl,hb0⟩
 case round =>
  clear hb0;obtain ⟨k,hk,rfl,hb⟩:=hrel;by_cases hlt:k<8
  · obtain⟨s,hs⟩:∃s,ks[k]? = some s:=⟨_,List.getElem?_eq_getElem (by rw[YS.out];exact hlt)⟩
    have c0:=(hb.cell (p:=⟨pk,ok+k,none⟩) hpk).trans (hc k s hs);have hkey:=hks s (List.mem_of_getElem? hs);clear hs hc hks
    rcases hkey with h32|rfl
    · go_wp2;exact ⟨⟨k+1,by omega,by go_num,hb⟩,by simp[intOf];omega⟩
    · go_wp2;exact ⟨⟨k+1,by omega,by go_num,hb⟩,by simp[intOf];omega⟩
  · have hk8:k=8:=by omega
    clear hc hks;go_wp2;go_ret;exact ⟨rfl,hb⟩
def dN (d:Sh.Dl) (hs:List Sh.Hn) (B:Nat) (v:Value) (w:World):Prop:=aF 70 3 B hs.length (hs.flatMap dw) v w
def nX (key:List UInt8) (d:Sh.Dl) (hs:List Sh.Hn) (c l:Int):List Sh.Hn:=hs++[⟨c,l,Sh.sg key (Sh.cont d (hs.length:Nat) c l (bf hs hs.length))⟩]
theorem oW (key:List UInt8) (d:Sh.Dl) (hs:List Sh.Hn) (c l:Int):(nX key d hs c l).length=hs.length+1:=by simp[nX]
theorem wu (key:List UInt8) (d:Sh.Dl) (hs:List Sh.Hn) (c l:Int) (A:Option Addr) (cap:Nat) (w:World) (hkey:key.length=32) (hA:At 3 dw w w.heap.size A hs) (hn:hs.length<=cap) (hf:iK d (hs++[(⟨c,l,List.replicate 32 0⟩:Sh.Hn)])) :
 Calls Tryz.prog 71 #[.string ⟨key.toArray⟩,.agg (dD d (.slice A hs.length cap)),.int .i64 c,.int .i64 l] w fun e w'=>(∃A' c',e=.returned (.tuple #[.agg (dD d (.slice A' (hs.length+1) c')),.int .i64 0])/\dN d (nX key d hs c l) w.heap.size (.slice A' (hs.length+1) c') w')/\Below w.heap.size w w' :=
 (Jp key d hs c l A cap w hkey hA hn hf).mono (fun e w' ⟨⟨v,h1,h2⟩,h3⟩=>by
  rcases h2 with ⟨-,h0,-⟩|⟨cap',⟨g,cells,rfl,hg,hn,hB,hs,hf⟩,hm⟩
  · omega
  · exact⟨⟨_,_,h1,by unfold dN;rw[oW];exact .inr ⟨cap',⟨g,cells,rfl,hg,hn,hB,hs,hf⟩,hm⟩⟩,h3⟩)
theorem dN.jl {d d':Sh.Dl} {hs:List Sh.Hn} {B g:Nat} {v v':Value} {w:World} (h:dN d hs B v w) (hg:g<B):dN d hs B v (jl w g d' v'):=by
 rcases h with h|⟨cap,⟨g1,cells,h1,h2,h3,h4,h5,h6⟩,h7⟩
 · exact .inl h
 · exact .inr ⟨cap,⟨g1,cells,h1,h2,h3,lD v' (by omega) h4,h5,h6⟩,h7⟩
theorem dN.mono {d:Sh.Dl} {hs:List Sh.Hn} {B B':Nat} {v:Value} {w:World} (h:dN d hs B v w) (hB:B'<=B):dN d hs B' v w:=by
 rcases h with h|⟨cap,⟨g1,cells,h1,h2,h3,h4,h5,h6⟩,h7⟩
 · exact .inl h
 · exact .inr ⟨cap,⟨g1,cells,h1,by omega,h3,h4,h5,h6⟩,h7⟩
theorem dN.call {d:Sh.Dl} {hs:List Sh.Hn} {B:Nat} {v:Value} {w w':World} (h:dN d hs B v w) (hb:Below w.heap.size w w'):dN d hs B v w':=aW _ _ _ _ _ _ _ _ h hb
theorem Gl (key:List UInt8) (d:Sh.Dl) (c l:Int) (w:World) (hkey:key.length=32) (hf:iK d [(⟨c,l,List.replicate 32 0⟩:Sh.Hn)]) :
 Calls Tryz.prog 22 #[.string ⟨key.toArray⟩,.agg #[.int .i64 d.r,.int .i64 d.d,.int .i64 d.t,.int .i64 d.n],.int .i64 c,.int .i64 l] w fun e w'=>(∃A' c',e=.returned (.tuple #[.agg (dD d (.slice A' 1 c')),.int .i64 0])/\dN d (nX key d [] c l) w.heap.size (.slice A' 1 c') w')/\Below w.heap.size w w':=by
 have hC:=fun w0=>wu key d [] c l none 0 w0 hkey At.nil (Nat.le_refl _) hf
 have hb:=bY w (.cells #[.int .i64 d.r,.int .i64 d.d,.int .i64 d.t,.int .i64 d.n] 29);have BA:=Bx.mk w 29 #[.int .i64 d.r,.int .i64 d.d,.int .i64 d.t,.int .i64 d.n];have hbn:=bY (w.alloc (.cells #[.int .i64 d.r,.int .i64 d.d,.int .i64 d.t,.int .i64 d.n] 29)) (.cells #[.int .i64 0,.int .i64 0,.int .i64 0,.int .i64 0,.slice none 0 0] 32);have BR:=Bx.mk (w.alloc (.cells #[.int .i64 d.r,.int .i64 d.d,.int .i64 d.t,.int .i64 d.n] 29)) 32 #[.int .i64 0,.int .i64 0,.int .i64 0,.int .i64 0,.slice none 0 0];replace BA:=BA.call hbn;replace hb:=ah hb hbn;rw [World.size_alloc]at BR;have b0:=BA.cell 0 (v:=.int .i64 d.r) rfl;have b1:=BA.cell 1 (v:=.int .i64 d.d) rfl;have b2:=BA.cell 2 (v:=.int .i64 d.t) rfl;have b3:=BA.cell 3 (v:=.int .i64 d.n) rfl;have hC2:=hC ((w.alloc (.cells #[.int .i64 d.r,.int .i64 d.d,.int .i64 d.t,.int .i64 d.n] 29)).alloc (.cells #[.int .i64 0,.int .i64 0,.int .i64 0,.int .i64 0,.slice none 0 0] 32))
 unfold dD at hC2 ⊢
 clear hf hbn hC
 go_enter Tryz.func22,Tryz.ntmps22
 go_wp2_with fail;refine hC2.mono ?_;rintro _ w1 ⟨⟨A',c',rfl,hM⟩,hb1⟩;replace BR:=BR.call hb1;replace hb:=ah hb hb1;rw [World.size_alloc,World.size_alloc]at hM;clear hC2 hb1 b0 b1 b2 b3 BA;have hbf:=hb.trans (iU (d:=d) (B:=w.heap.size) (w:=w1) (g:=w.heap.size+1) (by omega) (.slice A' (0+1) c'));have hMf:=(dN.jl (d':=d) (v':=.slice A' (0+1) c') (g:=w.heap.size+1) hM (by omega)).mono (B':=w.heap.size) (by omega);have NT:=oL (d:=d) BR rfl (.slice A' (0+1) c');have r0:=BR.cell 0 (v:=.int .i64 0) rfl;have r1:=BR.cell 1 (v:=.int .i64 0) rfl;have r2:=BR.cell 2 (v:=.int .i64 0) rfl;have r3:=BR.cell 3 (v:=.int .i64 0) rfl;have r4:=BR.cell 4 (v:=.slice none 0 0) rfl;have f0:=fun i=>BR.frozen i
 unfold jl dD at NT
 unfold jl at hbf hMf
 clear BR hM hb;go_wp2;exact bodyPost_ret (qy rfl _ _ rfl rfl NT) rfl ⟨⟨_,_,rfl,hMf⟩,hbf⟩
def UM (B:Nat) (d:Sh.Dl) (m:Nat) (fl:List Value):RS.Rl:=fun _ v w=>∃v',v=.tuple #[.agg (dD d v'),.int .i64 0]/\aF 70 3 B m fl v' w
theorem zu {B pos:Nat} {news:List Value} {d:Sh.Dl} {m:Nat} {fl:List Value} (hS:RS.b_ (KH B 70 pos news) (y9 70 3 B m fl)):RS.b_ (KW B pos news d m fl) (UM B d m fl):=fun x v w w' ⟨v',e,h⟩ hK=>⟨v',e,hS x _ _ _ h hK.kh⟩
def BoW (B:Nat) (d:Sh.Dl) (m:Nat) (fl:List Value):RS.Rl:=fun _ _ w=>∃c,Bx w B 32 c/\qm B d m fl w c
theorem Jg {B pos:Nat} {news:List Value} {d:Sh.Dl} {m:Nat} {fl:List Value} (hS:RS.b_ (KH B 70 pos news) (y9 70 3 B m fl)):RS.b_ (KW B pos news d m fl) (BoW B d m fl):=fun x v w w' ⟨c,h3,h4⟩ hK=>by
 obtain⟨c',s,b,o⟩:=hK.kr B c (Nat.le_refl _) h4.size h3
 rcases o with rfl|o
 · exact⟨c',b,h4.mono hS hK.kh⟩
 · exact⟨c',b,o⟩
theorem UD {B:Nat} {d:Sh.Dl} {m:Nat} {fl:List Value} {y:Value} {w:World} (h:Yd B d m fl (.pointer (some ⟨B,0,none⟩)) y w):BoW B d m fl undef undef w:=by
 obtain⟨g,c,h1,-,h3,h4⟩:=h;simp only[Value.pointer.injEq,Option.some.injEq,Addr.mk.injEq,and_true]at h1;subst h1;exact ⟨c,h3,h4⟩
theorem SA {key:List UInt8} {d:Sh.Dl} {hs:List Sh.Hn} {c l:Int} {B:Nat} {v:Value} {w:World} (h:dN d (nX key d hs c l) B v w):aF 70 3 B (hs.length+1) ((nX key d hs c l).flatMap dw) v w:=by
 have h9:=h
 unfold dN at h9
 rwa [oW]at h9
def y7 (ks:List (List UInt8)) (d:Sh.Dl) (hs:List Sh.Hn) (i:Nat) (h:Sh.Hn):Int:=if EF ks d hs i h then h.l else min h.l 1
theorem Jq (key:List UInt8) (ks:List (List UInt8)) (K:Option Addr) (kc:Nat) (d:Sh.Dl) (hs:List Sh.Hn) (i:Nat) (h:Sh.Hn) (c:Int) (A:Option Addr) (cap:Nat) (w:World) (hkey:key.length=32) (hK:At 1 h_ w w.heap.size K ks) (h8:ks.length=8) (hkc:8<=kc) (hks:∀k∈ks,mg k) (hA:At 3 dw w w.heap.size A hs) (hn:hs.length<=cap) (hi:hs[i]? = some h) (hil:hs.length=i+1) (hf:iK d hs) (hf2:iK d (hs++[(⟨c,y7 ks d hs i h,List.replicate 32 0⟩:Sh.Hn)])) :
 Calls Tryz.prog 24 #[.string ⟨key.toArray⟩,.slice K 8 kc,.agg (dD d (.slice A hs.length cap)),.int .i64 c] w fun e w'=>(∃A' c',e=.returned (.tuple #[.agg (dD d (.slice A' (hs.length+1) c')),.int .i64 0])/\dN d (nX key d hs c (y7 ks d hs i h)) w.heap.size (.slice A' (hs.length+1) c') w')/\Below w.heap.size w w':=by
 have II:=(hf.hand i h hi).1;have ZT:=hf.len.2;have WI:∀k∈ks,k.length<=1000:=fun k hk=>by rcases hks k hk with h|rfl <;> simp_all
 have hC:=fun (w0:World) (hb:Below w.heap.size w w0)=>wu key d hs c (y7 ks d hs i h) A cap w0 hkey (hA.aU hb) hn hf2
 have pI:=fun (w0:World) (hb:Below w.heap.size w w0)=>F9 ks K kc d hs i h A cap w0 (hK.aU hb) (by omega) (by omega) WI (by rw[h8];omega) (hA.aU hb) hn (by omega) hi hil hf.dl hf.hn
 have hF:=fun (w0:World) (hb:Below w.heap.size w w0)=>sZ d hs A cap w0 (hA.aU hb) hn hf
 have hY:=fun (w0:World) (hb:Below w.heap.size w w0)=>Jw ks K kc w0 (hK.aU hb) h8 hks
 obtain⟨lv,hlv⟩:∃lv,Kp (y7 ks d hs i h=lv):=⟨_,⟨rfl⟩⟩
 change ∀w0,Below w.heap.size w w0->Calls _ _ _ w0 fun e w'=>e=.returned (.int .i64 (y7 ks d hs i h))/\_ at pI
 rw[hlv.out]at hC pI ⊢;rw [h8]at pI;have WG:0<hs.length:=by omega
 have hb:=bY w (.cells (dD d (.slice A hs.length cap)) 32);have BA:=Bx.mk w 32 (dD d (.slice A hs.length cap));have hbn:=bY (w.alloc (.cells (dD d (.slice A hs.length cap)) 32)) (.cells #[.int .i64 0,.int .i64 0,.int .i64 0,.int .i64 0,.slice none 0 0] 32);have BR:=Bx.mk (w.alloc (.cells (dD d (.slice A hs.length cap)) 32)) 32 #[.int .i64 0,.int .i64 0,.int .i64 0,.int .i64 0,.slice none 0 0];replace BA:=BA.call hbn;replace hb:=ah hb hbn;rw [World.size_alloc]at BR
 obtain⟨A1,hAsh⟩:∃A1,A=some A1:=by
  obtain⟨p,off,rfl,-,-⟩:=hA WG;exact ⟨_,rfl⟩
 subst hAsh;obtain ⟨w3,hw3⟩:∃w3,Kp ((w.alloc (.cells (dD d (.slice (some A1) hs.length cap)) 32)).alloc (.cells #[.int .i64 0,.int .i64 0,.int .i64 0,.int .i64 0,.slice none 0 0] 32)=w3):=⟨_,⟨rfl⟩⟩
 rw[hw3.out]at BA BR hb
 unfold dD at BA hw3 hC pI hF ⊢
 clear hf hf2 hbn hA hK hks WI h8 hi hil II;have b0:=BA.cell 0 (v:=.int .i64 d.r) rfl;have b1:=BA.cell 1 (v:=.int .i64 d.d) rfl;have b2:=BA.cell 2 (v:=.int .i64 d.t) rfl;have b3:=BA.cell 3 (v:=.int .i64 d.n) rfl;have b4:=BA.cell 4 (v:=.slice (some A1) hs.length cap) rfl;have hF3:=hF w3 hb
 go_enter Tryz.func24,Tryz.ntmps24
 go_upto_region 1 with fail;rw [hw3.out];clear hw3 hF;go_wp2_with fail;refine hF3.mono ?_;rintro _ w4 ⟨rfl,hb1⟩;replace BA:=BA.call hb1;replace BR:=BR.call hb1;replace hb:=ah hb hb1;have hY4:=hY w4 hb;clear hF3 hb1 hY b0 b1 b2 b3 b4;go_wp2_with fail;refine hY4.mono ?_;rintro _ w5 ⟨rfl,hb1⟩;replace BA:=BA.call hb1;replace BR:=BR.call hb1;replace hb:=ah hb hb1;clear hY4 hb1;go_upto_region 3 with fail;have hS:RS.b_ (KH (w.heap.size+1) 70 ((hs.length+1)*3) []) (y9 70 3 (w.heap.size+1) (hs.length+1) ((nX key d hs c lv).flatMap dw)):=sO (by rw[lV (f:=dw) (size:=3) (fun _=>rfl),oW]);have hBl:w.heap.size+1<=w5.heap.size:=Nat.le_of_lt BR.lt;have hW:∀w2,KW (w.heap.size+1) ((hs.length+1)*3) [] d (hs.length+1) ((nX key d hs c lv).flatMap dw) w5 w2->Below w.heap.size w w2:=fun w2 h=>hb.trans (h.bl.mono (by omega))
 have zh:∀w2,KW (w.heap.size+1) ((hs.length+1)*3) [] d (hs.length+1) ((nX key d hs c lv).flatMap dw) w5 w2->Bx w2 w.heap.size 32 #[.int .i64 d.r,.int .i64 d.d,.int .i64 d.t,.int .i64 d.n,.slice (some A1) hs.length cap]:=fun w2 h=>BA.below h.bl (Nat.lt_succ_self _)
 have hbR:∀w2,KW (w.heap.size+1) ((hs.length+1)*3) [] d (hs.length+1) ((nX key d hs c lv).flatMap dw) w5 w2->∃c8:Array Value,c8.size=5/\Bx w2 (w.heap.size+1) 32 c8:=fun w2 h=>by
  obtain⟨c8,h1,h2,-⟩:=h.kr _ _ (Nat.le_refl _) rfl BR;exact ⟨c8,h1,h2⟩
 refine RS.au (Ef (w.heap.size+1) ((hs.length+1)*3) [] d (hs.length+1) ((nX key d hs c lv).flatMap dw) hS) [] [RS.ak (.string ⟨key.toArray⟩),RS.ak (.agg #[.int .i64 d.r,.int .i64 d.d,.int .i64 d.t,.int .i64 d.n,.slice (some A1) hs.length cap]),RS.ak (.int .i64 c),RS.ak (.slice K 8 kc),RS.ak (.agg #[.int .i64 d.r,.int .i64 d.d,.int .i64 d.t,.int .i64 d.n,.slice (some A1) hs.length cap]),RS.ak (.int .i64 lv),UM (w.heap.size+1) d (hs.length+1) ((nX key d hs c lv).flatMap dw),Qy (w.heap.size+1) d (hs.length+1) ((nX key d hs c lv).flatMap dw),RS.ak (.int .i64 0),BoW (w.heap.size+1) d (hs.length+1) ((nX key d hs c lv).flatMap dw),RS.ak (.int .i64 0)] 11 28 (by kernel_rfl) rfl rfl (by kernel_rfl) (by kernel_rfl) ?_ ?_ ?_
 · simp only[RS.aY]
   and_intros <;> first|exact RS.aI _|exact zu hS|exact sQ hS|exact Jg hS|trivial
 · simp only[RS.aT,List.take,List.length];refine ⟨?_,?_,?_,?_,?_,?_,?_,?_,?_,?_,?_,trivial⟩;all_goals (intro vs w2 hb2 hd;simp only[RS.aN,Act.put,List.nil_append,List.cons_append,List.setIfInBounds_toArray,List.set_cons_succ,List.set_cons_zero,Nat.reduceAdd])
   · clear hd zh hbR BA BR hb hC pI;go_wp2;first|exact⟨KW.rf _ _ _ _ _ _ _,rfl⟩|exact⟨KW.rf _ _ _ _ _ _ _,by simp[RS.ak]⟩|exact KW.rf _ _ _ _ _ _ _|rfl|(simp [RS.ak])
   · have x0:=(zh w2 hb2).cell 0 rfl;have x1:=(zh w2 hb2).cell 1 rfl;have x2:=(zh w2 hb2).cell 2 rfl;have x3:=(zh w2 hb2).cell 3 rfl;have x4:=(zh w2 hb2).cell 4 rfl;clear hd zh hbR BA BR hb hC pI;go_wp2;first|exact⟨KW.rf _ _ _ _ _ _ _,rfl⟩|exact⟨KW.rf _ _ _ _ _ _ _,by simp[RS.ak]⟩|exact KW.rf _ _ _ _ _ _ _|rfl|(simp [RS.ak])
   · clear hd zh hbR BA BR hb hC pI;go_wp2;first|exact⟨KW.rf _ _ _ _ _ _ _,rfl⟩|exact⟨KW.rf _ _ _ _ _ _ _,by simp[RS.ak]⟩|exact KW.rf _ _ _ _ _ _ _|rfl|(simp [RS.ak])
   · clear hd zh hbR BA BR hb hC pI;go_wp2;first|exact⟨KW.rf _ _ _ _ _ _ _,rfl⟩|exact⟨KW.rf _ _ _ _ _ _ _,by simp[RS.ak]⟩|exact KW.rf _ _ _ _ _ _ _|rfl|(simp [RS.ak])
   · have x0:=(zh w2 hb2).cell 0 rfl;have x1:=(zh w2 hb2).cell 1 rfl;have x2:=(zh w2 hb2).cell 2 rfl;have x3:=(zh w2 hb2).cell 3 rfl;have x4:=(zh w2 hb2).cell 4 rfl;clear hd zh hbR BA BR hb hC pI;go_wp2;first|exact⟨KW.rf _ _ _ _ _ _ _,rfl⟩|exact⟨KW.rf _ _ _ _ _ _ _,by simp[RS.ak]⟩|exact KW.rf _ _ _ _ _ _ _|rfl|(simp [RS.ak])
   · have e3:vs 3=_:=hd 3 rfl;have e4:vs 4=_:=hd 4 rfl;have w_:=pI w2 (hW w2 hb2);clear hd zh hbR BA BR hb hC pI;rw [e3,e4];go_wp2_with fail;refine w_.mono ?_;rintro _ w9 ⟨rfl,aX⟩;clear w_;have hK9:=hb2.call hBl aX;go_wp2;first|exact⟨hK9,rfl⟩|exact hK9|rfl
   · have e0:vs 0=_:=hd 0 rfl;have e1:vs 1=_:=hd 1 rfl;have e2:vs 2=_:=hd 2 rfl;have e5:vs 5=_:=hd 5 rfl;have w_:=hC w2 (hW w2 hb2);have N7:w.heap.size+1<=w2.heap.size:=Nat.le_trans (Nat.le_of_lt BR.lt) hb2.size;clear hd BA BR hb hC pI;rw [e0,e1,e2,e5];go_wp2_with fail;refine w_.mono ?_;rintro _ w9 ⟨⟨A9,c9,rfl,LY⟩,aX⟩;clear w_;have hK9:=hb2.call (hBl) aX;have Ci:UM (w.heap.size+1) d (hs.length+1) ((nX key d hs c lv).flatMap dw) undef (.tuple #[.agg (dD d (.slice A9 (hs.length+1) c9)),.int .i64 0]) w9:=⟨_,rfl,SA (LY.mono N7)⟩
     unfold dD at Ci
     clear LY aX;go_wp2;first|exact⟨hK9,Ci⟩|exact Ci
   · obtain⟨v9,e6,vN⟩:=hd 6 rfl;change vs 6=_ at e6;obtain ⟨A9,c9,e8⟩:=aF.U2 vN;subst e8;have E8:Qy (w.heap.size+1) d (hs.length+1) ((nX key d hs c lv).flatMap dw) undef (.agg (dD d (.slice A9 (hs.length+1) c9))) w2:=⟨_,rfl,vN⟩
     unfold dD at E8 e6
     clear hd vN BA BR hb hC pI;rw [e6];go_wp2;first|exact⟨KW.rf _ _ _ _ _ _ _,E8⟩|exact E8
   · obtain⟨v9,e6,vN⟩:=hd 6 rfl;change vs 6=_ at e6
     unfold dD at e6
     clear hd vN BA BR hb hC pI;rw [e6];go_wp2;first|exact⟨KW.rf _ _ _ _ _ _ _,rfl⟩|exact KW.rf _ _ _ _ _ _ _|rfl
   · obtain⟨v9,e7,vN⟩:=hd 7 rfl;change vs 7=_ at e7;obtain ⟨c8,hc8,rW⟩:=hbR w2 hb2;have hK9:=KW.put (B:=(w.heap.size+1)) (pos:=(hs.length+1)*3) (news:=[]) (d:=d) hS (Nat.le_refl _) rW hc8 v9 vN (.pointer (some ⟨w.heap.size+1,0,none⟩)) rfl undef
     obtain⟨x0,x1,x2,x3,x4,rfl⟩:∃x0 x1 x2 x3 x4,c8=#[x0,x1,x2,x3,x4]:=by
      rcases c8 with ⟨l8⟩
      match l8,hc8 with
      | [x0,x1,x2,x3,x4],_=>exact⟨x0,x1,x2,x3,x4,rfl⟩
     obtain⟨b0,b1,b2,b3,b4⟩:=rW.p5;have f0:=fun i=>rW.frozen i
     obtain⟨A9,c9,e8⟩:=aF.U2 vN;subst e8
     unfold dD at e7
     obtain⟨hK8,Rf⟩:=hK9;have hS7:=UD Rf
     unfold jl at hK8 hS7
     clear Rf hd hb2 vN rW hbR BA BR hb hC pI;rw [e7];clear e7;go_wp2;first|exact⟨hK8,hS7⟩|exact hS7
   · have e8:vs 8=_:=hd 8 rfl;clear hd zh hbR BA BR hb hC pI;rw [e8];go_wp2;first|exact⟨KW.rf _ _ _ _ _ _ _,rfl⟩|exact⟨KW.rf _ _ _ _ _ _ _,by simp[RS.ak]⟩|exact KW.rf _ _ _ _ _ _ _|rfl|(simp [RS.ak])
 · intro vs wa hba hR2;simp only[RS.bV,RS.ak]at hR2;obtain ⟨-,-,-,-,-,-,-,-,-,⟨cF,BF,vF,rfl,hRF⟩,e10,-⟩:=hR2;simp only[List.drop,List.take,List.map,RS.aN,Act.put,List.setIfInBounds_toArray,List.set_cons_succ,List.set_cons_zero,Nat.reduceAdd];change vs 10=_ at e10;rw [e10];have hbf:=hW wa hba
   rcases (show aF 70 3 (w.heap.size+1) (hs.length+1) ((nX key d hs c lv).flatMap dw) vF wa from hRF) with ⟨-,h0,-⟩|⟨cap',⟨g,cells,rfl,hg,kT,Ve,hs9,YL⟩,vJ⟩
   · omega
   have hM:dN d (nX key d hs c lv) w.heap.size (.slice (some ⟨g,0,none⟩) (hs.length+1) cap') wa:=by unfold dN;rw[oW];exact .inr ⟨cap',⟨g,cells,rfl,by omega,kT,Ve,hs9,YL⟩,vJ⟩
   unfold dD at BF
   clear hba zh hbR hS pI hC hW BA BR hb hRF e10;go_wp2;exact bodyPost_ret (qy rfl _ _ rfl rfl BF) rfl ⟨⟨_,_,rfl,hM⟩,hbf⟩
namespace Sh
def pk (c n:Int):Int:=(if c<0 then -(c+1) else c) % n
theorem iW (c:Int) {n:Int} (h:0<n):0<=pk c n/\pk c n<n:=⟨Int.emod_nonneg _ (by omega),Int.emod_lt_of_pos _ h⟩
theorem JE {c n:Int} (hc:0<=c):pk c n=c % n:=by unfold pk;rw[if_neg (by omega)]
theorem JF {c n:Int} (hc:c<0):pk c n=(-(c+1)) % n:=by unfold pk;rw[if_pos hc]
end Sh
def uY (x:Int):Prop:= -9223372036854775808<=x/\x<=9223372036854775807
theorem eu (c n:Int) (h0:0<n) (h:uY c) (w:World) :
 bP 21 #[.int .i64 c,.int .i64 n] w (.int .i64 (Sh.pk c n)):=by
 obtain⟨h1,h2⟩:=h;have hb:=aP w;by_cases hc:c<0
 · have hm:0<= -(c+1):=by omega
   go_enter Tryz.func21,Tryz.ntmps21
   go_wp2;go_ret;refine ⟨gJ ?_,hb⟩;rw [Sh.JF hc,←Int.neg_tmod];exact Int.tmod_eq_emod_of_nonneg hm
 · have hm:0<=c:=by omega
   go_enter Tryz.func21,Tryz.ntmps21
   go_wp2;go_ret;exact ⟨gJ (Sh.JE hm).symm,hb⟩
theorem D6 (x0 x1 x2 x3:Int) (w:World) (h0:uY x0) (h1:uY x1) (h2:uY x2) (h3:uY x3) :
 bP 23 #[.agg #[.int .i64 x0,.int .i64 x1,.int .i64 x2,.int .i64 x3]] w (.agg #[.int .i64 (Sh.pk x0 100),.int .i64 (Sh.pk x1 100),.int .i64 (Sh.pk x2 1000),.int .i64 (Sh.pk x3 100)]):=by
 have hb:=bY w (.cells #[.int .i64 x0,.int .i64 x1,.int .i64 x2,.int .i64 x3] 22);have BA:=Bx.mk w 22 #[.int .i64 x0,.int .i64 x1,.int .i64 x2,.int .i64 x3];have hbn:=bY (w.alloc (.cells #[.int .i64 x0,.int .i64 x1,.int .i64 x2,.int .i64 x3] 22)) (.cells #[.int .i64 0,.int .i64 0,.int .i64 0,.int .i64 0] 29);have BR:=Bx.mk (w.alloc (.cells #[.int .i64 x0,.int .i64 x1,.int .i64 x2,.int .i64 x3] 22)) 29 #[.int .i64 0,.int .i64 0,.int .i64 0,.int .i64 0];replace BA:=BA.call hbn;replace hb:=ah hb hbn;rw [World.size_alloc]at BR;obtain ⟨w3,hw3⟩:∃w3,Kp ((w.alloc (.cells #[.int .i64 x0,.int .i64 x1,.int .i64 x2,.int .i64 x3] 22)).alloc (.cells #[.int .i64 0,.int .i64 0,.int .i64 0,.int .i64 0] 29)=w3):=⟨_,⟨rfl⟩⟩
 rw[hw3.out]at BA BR hb;clear hbn
 go_enter Tryz.func23,Tryz.ntmps23
 go_wp2_with fail;rw [hw3.out];clear hw3;refine RS.au (RS.dX (w3.heap.size) 4 #[] #[]) [] [RS.ak (.pointer (some ⟨w.heap.size,0,none⟩)),RS.ak (.int .i64 x0),RS.ak (.int .i64 (Sh.pk x0 100)),RS.ak (.pointer (some ⟨w.heap.size,1,none⟩)),RS.ak (.int .i64 x1),RS.ak (.int .i64 (Sh.pk x1 100)),RS.ak (.pointer (some ⟨w.heap.size,2,none⟩)),RS.ak (.int .i64 x2),RS.ak (.int .i64 (Sh.pk x2 1000)),RS.ak (.pointer (some ⟨w.heap.size,3,none⟩)),RS.ak (.int .i64 x3),RS.ak (.int .i64 (Sh.pk x3 100)),RS.ak (.agg #[.int .i64 (Sh.pk x0 100),.int .i64 (Sh.pk x1 100),.int .i64 (Sh.pk x2 1000),.int .i64 (Sh.pk x3 100)])] 13 16 (by kernel_rfl) rfl rfl (by kernel_rfl) (by kernel_rfl) ?_ ?_ ?_
 · simp only[RS.aY]
   and_intros <;> first|exact RS.aI _|trivial
 · simp only[RS.aT,List.take,List.length];refine ⟨?_,?_,?_,?_,?_,?_,?_,?_,?_,?_,?_,?_,?_,trivial⟩;all_goals (intro vs w2 hb2 hd;simp only[RS.aN,Act.put,List.nil_append,List.cons_append,List.setIfInBounds_toArray,List.set_cons_succ,List.set_cons_zero,Nat.reduceAdd];clear BR hb)
   · clear hd;go_wp2;exact aO
   · have e0:vs 0=_:=hd 0 rfl;have q0:=(BA.call hb2.bl).cell 0 (v:=.int .i64 x0) rfl;clear hd;rw [e0];go_wp2;exact aO
   · have e0:vs 1=_:=hd 1 rfl;have hC:=eu x0 100 (by decide) h0 w2;clear hd;rw [e0];go_wp2_with fail;refine hC.mono ?_;rintro _ w9 ⟨rfl,aX⟩;clear hC;have hK9:=hb2.call (Nat.le_refl _) aX;go_wp2;first|exact⟨hK9,rfl⟩|exact hK9|rfl
   · clear hd;go_wp2;exact aO
   · have e0:vs 3=_:=hd 3 rfl;have q0:=(BA.call hb2.bl).cell 1 (v:=.int .i64 x1) rfl;clear hd;rw [e0];go_wp2;exact aO
   · have e0:vs 4=_:=hd 4 rfl;have hC:=eu x1 100 (by decide) h1 w2;clear hd;rw [e0];go_wp2_with fail;refine hC.mono ?_;rintro _ w9 ⟨rfl,aX⟩;clear hC;have hK9:=hb2.call (Nat.le_refl _) aX;go_wp2;first|exact⟨hK9,rfl⟩|exact hK9|rfl
   · clear hd;go_wp2;exact aO
   · have e0:vs 6=_:=hd 6 rfl;have q0:=(BA.call hb2.bl).cell 2 (v:=.int .i64 x2) rfl;clear hd;rw [e0];go_wp2;exact aO
   · have e0:vs 7=_:=hd 7 rfl;have hC:=eu x2 1000 (by decide) h2 w2;clear hd;rw [e0];go_wp2_with fail;refine hC.mono ?_;rintro _ w9 ⟨rfl,aX⟩;clear hC;have hK9:=hb2.call (Nat.le_refl _) aX;go_wp2;first|exact⟨hK9,rfl⟩|exact hK9|rfl
   · clear hd;go_wp2;exact aO
   · have e0:vs 9=_:=hd 9 rfl;have q0:=(BA.call hb2.bl).cell 3 (v:=.int .i64 x3) rfl;clear hd;rw [e0];go_wp2;exact aO
   · have e0:vs 10=_:=hd 10 rfl;have hC:=eu x3 100 (by decide) h3 w2;clear hd;rw [e0];go_wp2_with fail;refine hC.mono ?_;rintro _ w9 ⟨rfl,aX⟩;clear hC;have hK9:=hb2.call (Nat.le_refl _) aX;go_wp2;first|exact⟨hK9,rfl⟩|exact hK9|rfl
   · have e0:vs 2=_:=hd 2 rfl;have e1:vs 5=_:=hd 5 rfl;have e2:vs 8=_:=hd 8 rfl;have e3:vs 11=_:=hd 11 rfl;clear hd;rw [e0,e1,e2,e3];go_wp2;exact aO
 · intro vs wa hba hR2;simp only[RS.bV,RS.ak]at hR2;obtain ⟨e0,e1,e2,e3,e4,e5,e6,e7,e8,e9,e10,e11,e12,-⟩:=hR2;simp only[List.drop,List.take,List.map,RS.aN,Act.put,List.setIfInBounds_toArray,List.set_cons_succ,List.set_cons_zero,Nat.reduceAdd];rw [e0,e1,e2,e3,e4,e5,e6,e7,e8,e9,e10,e11,e12];clear e0 e1 e2 e3 e4 e5 e6 e7 e8 e9 e10 e11 e12;replace BR:=BR.call hba.bl;replace hb:=ah hb hba.bl;have f0:=fun i=>BR.frozen i
   have b0:=BR.cell 0 (v:=.int .i64 0) rfl;have b1:=BR.cell 1 (v:=.int .i64 0) rfl;have b2:=BR.cell 2 (v:=.int .i64 0) rfl;have b3:=BR.cell 3 (v:=.int .i64 0) rfl;have BN:=(((BR.set 0 (.int .i64 (Sh.pk x0 100))).set 1 (.int .i64 (Sh.pk x1 100))).set 2 (.int .i64 (Sh.pk x2 1000))).set 3 (.int .i64 (Sh.pk x3 100));have hbf:=(((hb.setCell (p:=⟨w.heap.size+1,0,none⟩) (Nat.le_succ _) (.int .i64 (Sh.pk x0 100))).setCell (p:=⟨w.heap.size+1,1,none⟩) (Nat.le_succ _) (.int .i64 (Sh.pk x1 100))).setCell (p:=⟨w.heap.size+1,2,none⟩) (Nat.le_succ _) (.int .i64 (Sh.pk x2 1000))).setCell (p:=⟨w.heap.size+1,3,none⟩) (Nat.le_succ _) (.int .i64 (Sh.pk x3 100));clear hba BA BR hb h0 h1 h2 h3;go_wp2;exact bodyPost_ret (Df rfl _ _ rfl BN) rfl ⟨rfl,hbf⟩
structure lg where
 (a b c e lv k0 k1 k2 k3 k4 k5 k6 k7:Int)
 cs:List Int
def zO (x:lg) (v:Value):Array Value:=#[.int .i64 x.a,.int .i64 x.b,.int .i64 x.c,.int .i64 x.e,.int .i64 x.lv,v,.int .i64 x.k0,.int .i64 x.k1,.int .i64 x.k2,.int .i64 x.k3,.int .i64 x.k4,.int .i64 x.k5,.int .i64 x.k6,.int .i64 x.k7]
def lg.ks (x:lg):List Int:=[x.k0,x.k1,x.k2,x.k3,x.k4,x.k5,x.k6,x.k7]
structure BQ (x:lg):Prop where
 ka:uY x.a
 kb:uY x.b
 kc:uY x.c
 ke:uY x.e
 kl:uY x.lv
 kk:∀y∈x.ks,uY y
 kcs:∀y∈x.cs,uY y
def lg.jk (x:lg):List Nat:=x.ks.map fun y=>(Sh.pk y 256).toNat
def jo (n:Nat):List Value:=[.int .i64 (n:Int)]
theorem kC:Tryz.prog.underlying 23=some (.slice 3):=by kernel_rfl
theorem QX:∃i,Tryz.prog.info? 3=some i/\i.zero=some (.int .i64 0)/\i.size=1/\i.bytes=8:=by
 have h:(Tryz.prog.info? 3).map (fun i=>(i.zero,i.size,i.bytes))=some (some (.int .i64 0),1,8):=by kernel_rfl
 exact info_parts h
theorem JV {w:World} {g:Nat} {n:Nat} (h:Bx w g 3 #[.int .i64 (n:Int)]):Src Tryz.prog 1 23 (.slice (some ⟨g,0,none⟩) 1 1) 1 (jo n) w :=
 dI.src (P:=Tryz.prog) (size:=1) (B:=0) (cap:=1) (e:=3) (t:=23) (fun u hu=>by simp only[jo,List.mem_cons,List.not_mem_nil,or_false]at hu;subst hu;rfl) kC ⟨g,_,rfl,Nat.zero_le _,Nat.le_refl _,h,rfl,rfl⟩
theorem qP (x:lg) (v:Value) (hv:∃A n c,v=.slice A n c) (w:World) (hx:BQ x) :
 Calls Tryz.prog 13 #[.agg (zO x v)] w fun e w'=>(∃u,e=.returned u/\aF 3 1 w.heap.size 8 (x.jk.flatMap jo) u w')/\Below w.heap.size w w':=by
 obtain⟨bi,hbi,hbz,hbs,hbb⟩:=QX;obtain ⟨vA,vn,vc,rfl⟩:=hv;have hkk:=hx.kk;have hb:=bY w (.cells (zO x (.slice vA vn vc)) 26);have BA:=Bx.mk w 26 (zO x (.slice vA vn vc))
 have hcell:∀(k:Nat) (y:Int),x.ks[k]? = some y->(zO x (.slice vA vn vc))[6+k]? = some (.int .i64 y):=fun k y h=>by
  match k,h with
  | 0,h=>cases h;rfl
  | 1,h=>cases h;rfl
  | 2,h=>cases h;rfl
  | 3,h=>cases h;rfl
  | 4,h=>cases h;rfl
  | 5,h=>cases h;rfl
  | 6,h=>cases h;rfl
  | 7,h=>cases h;rfl
  | n+8,h=>cases h
 have hc2:∀wr,Below (w.alloc (.cells (zO x (.slice vA vn vc)) 26)).heap.size (w.alloc (.cells (zO x (.slice vA vn vc)) 26)) wr->∀(k:Nat) (y:Int),x.ks[k]? = some y->wr.cell? ⟨w.heap.size,6+k,none⟩=some (.int .i64 y):=fun wr h k y hy=>(BA.call h).cell (6+k) (hcell k y hy)
 have hkl:x.ks.length=8:=rfl;have hkn:∀k y,x.ks[k]? = some y->x.jk[k]? = some (Sh.pk y 256).toNat:=fun k y h=>by rw[lg.jk,List.getElem?_map,h];rfl
 have hk9:x.jk.length=8:=rfl;obtain ⟨W0,hW0⟩:∃W0,Kp (w.alloc (.cells (zO x (.slice vA vn vc)) 26)=W0):=⟨_,⟨rfl⟩⟩
 rw[hW0.out]at hb hc2;have hlt0:w.heap.size<=W0.heap.size:=hb.size;generalize x.ks=ks at *;generalize x.jk=jk at *;have hr0:aF 3 1 W0.heap.size 0 ((jk.take 0).flatMap jo) (.slice none 0 0) W0:=.inl ⟨rfl,rfl,rfl⟩
 unfold zO at hW0 ⊢
 clear BA hcell hx
 go_enter Tryz.func13,Tryz.ntmps13
 go_wp2_with fail;rw [hW0.out];clear hW0
 go_loopw [3,4] (fun s3 s4 wr=>∃k:Nat,k<=8/\s4=.int .i64 k/\aF 3 1 W0.heap.size k ((jk.take k).flatMap jo) s3 wr/\Below W0.heap.size W0 wr) (fun s3 s4 _=>8-(intOf s4).toNat)
 case atStart=>exact⟨0,by omega,rfl,hr0,Below.refl _ _⟩
 case round =>
  clear hr0;obtain ⟨k,hk,rfl,hrow,hbr⟩:=hrel;obtain ⟨v3,hv3⟩:∃v,v=u3:=⟨_,rfl⟩
  rw[←hv3]at hrow ⊢;clear hv3;by_cases hlt:k<8
  · obtain⟨y,hy⟩:∃y,ks[k]? = some y:=⟨_,List.getElem?_eq_getElem (by omega)⟩
    have c0:=hc2 wr hbr k y hy;have Zv:=hkk y (List.mem_of_getElem? hy);have hgk:=hkn k y hy;have hC:=eu y 256 (by decide) Zv wr;have hpp:=Sh.iW y (n:=256) (by decide);obtain ⟨q,hq⟩:∃q:Nat,Sh.pk y 256=(q:Int):=Int.eq_ofNat_of_zero_le hpp.1
    rw[hq]at hC hgk;rw [Int.toNat_natCast]at hgk;have hnx:Kp ((jk.take k).flatMap jo++jo q=(jk.take (k+1)).flatMap jo):=⟨by rw[List.take_add_one,hgk,List.flatMap_append];simp⟩
    clear hkk hkn hc2 hy hgk hpp hq;generalize (jk.take k).flatMap jo=F at *;go_wp2_with fail;refine hC.mono ?_;rintro _ w5 ⟨rfl,hb5⟩;replace hrow:=aW _ _ _ _ _ _ _ _ hrow hb5;replace hbr:=ah hbr hb5;clear hC hb5 c0;have hbn:=bY w5 (.cells #[.int .i64 (q:Int)] 3);have hs1:=JV (Bx.mk w5 3 #[.int .i64 (q:Int)]);have KT:=Kp.mk (aW _ _ _ _ _ _ _ _ hrow hbn);have hbw:=ah hbr hbn;have hzn:=hbw.size;have qp:=Kp.mk hbw;clear hbn hbw hrow hbr
    go_wp2_with (at_builtin;refine aH rfl (.tmp 9) (.tmp 15) 23 3 rfl bi (.int .i64 0) 1 W0.heap.size k 1 F (jo q) v3 (.slice (some ⟨w5.heap.size,0,none⟩) 1 1) kC hbi hbz hbs rfl rfl rfl KT.out hzn hs1 (by decide) (by unfold maxLen;omega) (by rw[hbb];omega) ?_)
    intro v7 w7 hb7 bH;rw [hnx.out]at bH;replace hb7:=qp.out.trans hb7;clear KT hs1 hzn qp hnx;go_wp2;exact ⟨⟨k+1,by omega,by go_num,bH,hb7⟩,by simp[intOf];omega⟩
  · have hk8:k=8:=by omega
    rw[List.take_of_length_le (by omega),hk8]at hrow;clear hk8 hkk hkn hc2;go_wp2;go_ret;exact ⟨⟨_,rfl,hrow.mono hlt0⟩,ah hb hbr⟩
theorem jM (c:Nat):(key1 c).length=32:=by simp[key1]
theorem Py (c:Nat):key1 c≠[]:=fun h=>by have:=jM c;rw[h]at this;cases this
theorem cu:keysA.length=8:=by simp[keysA]
theorem lJ {c:Nat} (h:c<8):keysA[c]? = some (key1 c):=by simp[keysA,h]
theorem zZ {set c:Nat} (h:c<8):(f_ keysA set).getD c []=if set / 2 ^ c % 2=1 then key1 c else []:=by
 rw[List.getD_eq_getElem?_getD,yA (lJ h)];rfl
theorem rP (set:Nat):∀k∈f_ keysA set,mg k:=fun k hk=>by
 obtain⟨i,hi⟩:=List.getElem?_of_mem hk;have hl:=(List.getElem?_eq_some_iff.1 hi).1;rw [yx,cu]at hl;rw [yA (lJ hl)]at hi;cases hi
 split
 · exact .inl (jM i)
 · exact .inr rfl
theorem lI (set:Nat):(f_ keysA set).length=8:=by rw[yx,cu]
def oq (d:Sh.Dl) (hs:List Sh.Hn) (i:Nat) (h:Sh.Hn):Prop:=h.s=Sh.sg (key1 h.c.toNat) (Sh.cont d i h.c h.l (bf hs i))
theorem sU {set:Nat} {d:Sh.Dl} {hs:List Sh.Hn} {i:Nat} {h:Sh.Hn} (hc:0<=h.c/\h.c<=7) (hs9:oq d hs i h):EF (f_ keysA set) d hs i h=decide (set / 2 ^ h.c.toNat % 2=1):=by
 unfold EF
 rw[zZ (show h.c.toNat<8 by omega)];by_cases hb:set / 2 ^ h.c.toNat % 2=1
 · rw[if_pos hb,decide_eq_true hb,bne_iff_ne.2 (Py _),Bool.true_and,beq_iff_eq];exact hs9
 · rw[if_neg hb,decide_eq_false hb];rfl
structure yY (d:Sh.Dl) (kn:List Nat) (hs:List Sh.Hn):Prop where
 fm:iK d hs
 sl:∀(i:Nat) (h:Sh.Hn),hs[i]? = some h->oq d hs i h
 lv:∀(i:Nat) (g h:Sh.Hn),hs[i]? = some g->hs[i+1]? = some h->h.l=if kn.getD h.c.toNat 0 / 2 ^ g.c.toNat % 2=1 then g.l else min g.l 1
theorem MI {d:Sh.Dl} {c l:Int} {s:List UInt8} (hr:0<=d.r/\d.r<=99999999) (hd:0<=d.d/\d.d<=99999999) (ht:0<=d.t/\d.t<=10000000) (hn:0<=d.n/\d.n<=1000000) (hc:0<=c/\c<=7) (hl:0<=l/\l<=3) (hs:s.length=32):iK d [(⟨c,l,s⟩:Sh.Hn)] :=
 ⟨hr,hd,ht,hn,⟨Nat.le_refl _,Nat.le_add_left 1 7⟩,(fun i h hi=>by
  match i,hi with
  | 0,hi=>cases hi;exact⟨hc,hl,hs⟩
  | n+1,hi=>cases hi),(fun i g h hg hh=>by cases hh)⟩
theorem Fb {d:Sh.Dl} {hs:List Sh.Hn} {i:Nat} {g:Sh.Hn} {c l:Int} {s:List UInt8} (hf:iK d hs) (hi:hs[i]? = some g) (hil:hs.length=i+1) (h7:hs.length<=7) (hc:0<=c/\c<=7) (hne:c≠g.c) (hl:0<=l/\l<=g.l) (hs9:s.length=32):iK d (hs++[(⟨c,l,s⟩:Sh.Hn)]) :=
 ⟨hf.kr,hf.kd,hf.kt,hf.kn,⟨by simp,by simp;omega⟩,(fun k h hk=>by
  rcases Nat.lt_trichotomy k hs.length with h1|h1|h1
  · rw[List.getElem?_append_left h1]at hk;exact hf.hand k h hk
  · subst h1;rw [List.getElem?_append_right (Nat.le_refl _),Nat.sub_self]at hk;cases hk
    exact⟨hc,⟨hl.1,by have:=((hf.hand i g hi).2.1).2;show l<=3;omega⟩,hs9⟩
  · rw[List.getElem?_eq_none (by simp;omega)]at hk
    cases hk),
  (fun k a b ha hb=>by
   rcases Nat.lt_trichotomy (k+1) hs.length with h1|h1|h1
   · rw[List.getElem?_append_left (by omega)]at ha;rw [List.getElem?_append_left h1]at hb;exact hf.next k a b ha hb
   · rw[List.getElem?_append_left (by omega)]at ha;rw [List.getElem?_append_right (by omega),h1,Nat.sub_self]at hb;cases hb
     obtain rfl:k=i:=by omega
     obtain rfl:=Option.some.inj (ha.symm.trans hi);exact ⟨hne,hl.2⟩
   · rw[List.getElem?_eq_none (by simp;omega)]at hb
     cases hb)⟩
theorem sV {d:Sh.Dl} {hs r:List Sh.Hn} {i:Nat} {h:Sh.Hn} (hi:i<=hs.length):oq d (hs++r) i h↔oq d hs i h:=by
 unfold oq;rw[Em hs r i hi]
theorem zero32:(List.replicate 32 (0:UInt8)).length=32:=by simp
theorem Gz {d:Sh.Dl} {kn:List Nat} {c l:Int} (hr:0<=d.r/\d.r<=99999999) (hd:0<=d.d/\d.d<=99999999) (ht:0<=d.t/\d.t<=10000000) (hn:0<=d.n/\d.n<=1000000) (hc:0<=c/\c<=7) (hl:0<=l/\l<=3) :
 iK d [(⟨c,l,List.replicate 32 0⟩:Sh.Hn)]/\yY d kn (nX (key1 c.toNat) d [] c l) :=
 ⟨MI hr hd ht hn hc hl zero32,MI hr hd ht hn hc hl (Sh.CX _ _),(fun i h hi=>by
  match i,hi with
  | 0,hi=>cases hi;rfl
  | n+1,hi=>cases hi),(fun i g h hg hh=>by cases hh)⟩
theorem DC {set:Nat} {d:Sh.Dl} {hs:List Sh.Hn} {i:Nat} {h:Sh.Hn} (hc:0<=h.c/\h.c<=7) (hs9:oq d hs i h):y7 (f_ keysA set) d hs i h=if set / 2 ^ h.c.toNat % 2=1 then h.l else min h.l 1:=by
 unfold y7
 rw[sU hc hs9];by_cases hb:set / 2 ^ h.c.toNat % 2=1
 · rw[decide_eq_true hb,if_pos rfl,if_pos hb]
 · rw[decide_eq_false hb,if_neg hb];rfl
theorem Ko {d:Sh.Dl} {kn:List Nat} {hs:List Sh.Hn} {i:Nat} {g:Sh.Hn} {c:Int} (hm:yY d kn hs) (hi:hs[i]? = some g) (hil:hs.length=i+1) (h7:hs.length<=7) (hc:0<=c/\c<=7) (hne:c≠g.c) :
 iK d (hs++[(⟨c,y7 (f_ keysA (kn.getD c.toNat 0)) d hs i g,List.replicate 32 0⟩:Sh.Hn)])/\yY d kn (nX (key1 c.toNat) d hs c (y7 (f_ keysA (kn.getD c.toNat 0)) d hs i g)):=by
 have hl:=DC (set:=kn.getD c.toNat 0) (hm.fm.hand i g hi).1 (hm.sl i g hi);have hg:=(hm.fm.hand i g hi).2.1;generalize y7 (f_ keysA (kn.getD c.toNat 0)) d hs i g=l at *
 have hlb:0<=l/\l<=g.l:=by
  rw[hl]
  split <;> omega
 refine⟨Fb hm.fm hi hil h7 hc hne hlb zero32,Fb hm.fm hi hil h7 hc hne hlb (Sh.CX _ _),fun k h hk=>?_,fun k a b ha hb=>?_⟩
 · unfold nX at hk ⊢
   rcases Nat.lt_trichotomy k hs.length with h1|h1|h1
   · rw[List.getElem?_append_left h1]at hk;exact (sV (by omega)).2 (hm.sl k h hk)
   · subst h1;rw [List.getElem?_append_right (Nat.le_refl _),Nat.sub_self]at hk;cases hk
     exact (sV (Nat.le_refl _)).2 rfl
   · rw[List.getElem?_eq_none (by simp;omega)]at hk;cases hk
 · unfold nX at ha hb
   rcases Nat.lt_trichotomy (k+1) hs.length with h1|h1|h1
   · rw[List.getElem?_append_left (by omega)]at ha;rw [List.getElem?_append_left h1]at hb;exact hm.lv k a b ha hb
   · rw[List.getElem?_append_left (by omega)]at ha;rw [List.getElem?_append_right (by omega),h1,Nat.sub_self]at hb;cases hb
     obtain rfl:k=i:=by omega
     obtain rfl:=Option.some.inj (ha.symm.trans hi);exact hl
   · rw[List.getElem?_eq_none (by simp;omega)]at hb;cases hb
end Go.Proofs.YtohgjenaclfegaaGreatDoor

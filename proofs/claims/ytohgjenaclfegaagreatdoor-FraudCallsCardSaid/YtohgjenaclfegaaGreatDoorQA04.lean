import Derived.Test.YtohgjenaclfegaaGreatDoorQA03
set_option linter.unusedVariables false
set_option linter.unusedSimpArgs false
set_option maxRecDepth 100000
set_option maxHeartbeats 8000000
namespace Go.Proofs.YtohgjenaclfegaaGreatDoor
open Go.RowKit Go.Shelf
theorem hnI:∃i z,Tryz.prog.info? 70=some i/\i.zero=some z/\i.size=3/\z.cells.size=3/\i.bytes=32:=by
 have h:(Tryz.prog.info? 70).map (fun i=>(i.zero,i.size,i.bytes))=some (some (.agg #[.int .i64 0,.int .i64 0,.string ⟨#[]⟩]),3,32):=by kernel_rfl
 obtain⟨i,h1,h2,h3,h4⟩:=info_parts h;exact ⟨i,_,h1,h2,h3,rfl,h4⟩
theorem JR (h:Sh.Hn):∀u∈dS h,u.oneCell'=true:=fun u hu=>by
 simp only[dS,List.mem_cons,List.not_mem_nil,or_false]at hu
 rcases hu with rfl|rfl|rfl <;> rfl
theorem uG {fn:Func} {t u:Tmp} {g:Nat} {a b c d e f:Value} (hf:fn.results=#[.cell t 32,.tmp u]) (tmps:Array Value) (w:World) (ht:tmps.getD t undef=.pointer (some ⟨g,0,none⟩)) (hu:tmps.getD u undef=f) (hB:Bx w g 32 #[a,b,c,d,e]) :
 (results fn tmps).run Tryz.prog w=.ok (.tuple #[.agg #[a,b,c,d,e],f]) w:=by
 obtain⟨h0,h1,h2,h3,h4⟩:=hB.p5;have ht':tmps[t]?.getD undef=.pointer (some ⟨g,0,none⟩):=by simpa using ht
 have hu':tmps[u]?.getD undef=f:=by simpa using hu
 simp only[results,hf];simp [go_sem,ht',hu',h0,h1,h2,h3,h4,loadVar]
theorem xH {fn:Func} {t:Tmp} {g:Nat} {a b c d e:Value} (hf:fn.results=#[.cell t 32]) (tmps:Array Value) (w:World) (ht:tmps.getD t undef=.pointer (some ⟨g,0,none⟩)) (hB:Bx w g 32 #[a,b,c,d,e]) :
 (results fn tmps).run Tryz.prog w=.ok (.agg #[a,b,c,d,e]) w:=by
 obtain⟨h0,h1,h2,h3,h4⟩:=hB.p5;have ht':tmps[t]?.getD undef=.pointer (some ⟨g,0,none⟩):=by simpa using ht
 simp only[results,hf];simp [go_sem,ht',h0,h1,h2,h3,h4,loadVar]
theorem G6 {fn:Func} {t:Tmp} {g:Nat} {a b c d:Value} (hf:fn.results=#[.cell t 29]) (tmps:Array Value) (w:World) (ht:tmps.getD t undef=.pointer (some ⟨g,0,none⟩)) (hB:Bx w g 29 #[a,b,c,d]) :
 (results fn tmps).run Tryz.prog w=.ok (.agg #[a,b,c,d]) w:=by
 obtain⟨h0,h1,h2,h3⟩:=hB.p4;have ht':tmps[t]?.getD undef=.pointer (some ⟨g,0,none⟩):=by simpa using ht
 simp only[results,hf];simp [go_sem,ht',h0,h1,h2,h3,loadVar]
def WQ (B:Nat) (d:Sh.Dl) (m:Nat) (fl:List Value):RS.Rl:=fun _ v w=>∃v',v=.agg (eP d v')/\zl 70 3 B m fl undef v' w
theorem xq {B pos:Nat} {news:List Value} {d:Sh.Dl} {m:Nat} {fl:List Value} (hS:RS.dG (KH B 70 pos news) (zl 70 3 B m fl)):RS.dG (KW B pos news d m fl) (WQ B d m fl):=fun x v w w' ⟨v',e,h⟩ hK=>⟨v',e,hS _ _ _ _ h hK.kh⟩
theorem HY {w w1:World} (hgr:w.grownBy w1 none):Below w.heap.size w w1:=(Below.refl w.heap.size w).grown hgr (Nat.le_refl _) (fun k hk=>by cases hk)
theorem Vp {w w1:World} {z:List UInt8} (hz:List.replicate 32 (0:UInt8)=z) (hown:w1.ownsRow w.heap.size 5 1 (.slice (some ⟨w.heap.size,0,none⟩) 32 32) 32 (madeCells (Value.int .u8 0).cells (32*1)).toList):Bx w1 w.heap.size 5 (Sh.bC z):=by
 subst hz
 rcases hown.2 with ⟨h,-⟩|⟨g,cap,cur,hv,-,hg,-,-,hcs,htk⟩
 · cases h
 · simp only[Value.slice.injEq,Option.some.injEq,Addr.mk.injEq,and_true,true_and]at hv;obtain ⟨rfl,rfl⟩:=hv;have hB:Bx w1 w.heap.size 5 cur:=hg
   have hc:cur=Sh.bC (List.replicate 32 0):=by
    apply Array.ext'
    rw[List.take_of_length_le (by rw[Array.length_toList,hcs];exact Nat.le_refl _)]at htk;exact htk.trans P8
   rw[hc]at hB;exact hB
theorem I4 (hs r:List Sh.Hn):∀i,i<=hs.length->bf (hs++r) i=bf hs i
 | 0,_=>rfl
 | k+1,h=>by rw[bf,bf,List.getElem?_append_left (by omega)]
theorem I7 {w:World} {g cap:Nat} {cells:Array Value} {hs:List Sh.Hn} (hB:Bx w g 70 cells) (hc:cells.size=cap*3) (hn:hs.length<=cap) (hf:cells.toList.take (hs.length*3)=hs.flatMap dS):At 3 dS w w.heap.size (some ⟨g,0,none⟩) hs:=by
 obtain⟨A,h1,h2,-⟩:=dP.at (f:=dS) (fun _=>rfl) (show dP 70 3 0 cap hs.length (hs.flatMap dS) (.slice (some ⟨g,0,none⟩) hs.length cap) w from ⟨g,cells,rfl,Nat.zero_le _,hn,hB,hc,hf⟩);cases h1
 exact h2
theorem OI (key:List UInt8) (d:Sh.Dl) (hs:List Sh.Hn) (c l:Int) (A:Option Addr) (cap:Nat) (w:World) (hkey:key.length=32) (hA:At 3 dS w w.heap.size A hs) (hn:hs.length<=cap) (hf:lZ d (hs++[(⟨c,l,List.replicate 32 0⟩:Sh.Hn)])) :
 Calls Tryz.prog 71 #[.string ⟨key.toArray⟩,.agg (eP d (.slice A hs.length cap)),.int .i64 c,.int .i64 l] w fun e w'=>(∃v,e=.returned (.tuple #[.agg (eP d v),.int .i64 0])/\aI 70 3 w.heap.size (hs.length+1) ((hs++[(⟨c,l,Sh.sg key (Sh.cont d (hs.length:Nat) c l (bf hs hs.length))⟩:Sh.Hn)]).flatMap dS) v w')/\Below w.heap.size w w':=by
 obtain⟨bi,hbi,hbz,hbs,hbb⟩:=IZ;obtain ⟨ti,tz,hti,hzz,hs1,hz1,hby⟩:=hnI;have hlen:hs.length<=7:=by have:=hf.len.2;simp at this;omega
 have hcl:(Sh.cont d (hs.length:Nat) c l (bf hs hs.length)).length<=100000:=by
  have h9:=Dk (i:=hs.length) (h:=(⟨c,l,List.replicate 32 0⟩:Sh.Hn)) (hs:=hs++[(⟨c,l,List.replicate 32 0⟩:Sh.Hn)]) hf.dl (hf.hn _ (by simp)) (by omega) hf.hn
  rwa [I4 hs _ _ (Nat.le_refl _)]at h9
 have hkey9:key.length<=100000:=by omega
 obtain⟨z,hz⟩:∃z,Kp (List.replicate 32 (0:UInt8)=z):=⟨_,⟨rfl⟩⟩
 have hzl:Kp (z.length=32):=⟨by rw[←hz.out];rfl⟩
 rw[hz.out]at hf;have hfK:=Kp.mk hf;have hfl:(hs.flatMap dS).length=hs.length*3:=jR (f:=dS) (size:=3) (fun _=>rfl) hs;have hb:=fP w (.cells (eP d (.slice A hs.length cap)) 32);have BA:=Bx.mk w 32 (eP d (.slice A hs.length cap));have hbn:=fP (w.alloc (.cells (eP d (.slice A hs.length cap)) 32)) (.cells #[.int .i64 0,.int .i64 0,.int .i64 0,.int .i64 0,.slice none 0 0] 32);have BR:=Bx.mk (w.alloc (.cells (eP d (.slice A hs.length cap)) 32)) 32 #[.int .i64 0,.int .i64 0,.int .i64 0,.int .i64 0,.slice none 0 0];replace BA:=BA.call hbn;replace hb:=ah hb hbn;rw [World.size_alloc]at BR;have hA3:=hA.bY hb;obtain ⟨w3,hw3⟩:∃w3,Kp ((w.alloc (.cells (eP d (.slice A hs.length cap)) 32)).alloc (.cells #[.int .i64 0,.int .i64 0,.int .i64 0,.int .i64 0,.slice none 0 0] 32)=w3):=⟨_,⟨rfl⟩⟩
 rw[hw3.out]at BA BR hb hA3
 unfold eP at BA hw3 ⊢
 have hS:RS.dG (KH w3.heap.size 70 (hs.length*3) (dS ⟨c,l,z⟩)) (zl 70 3 w3.heap.size (hs.length+1) (hs.flatMap dS++dS ⟨c,l,z⟩)):=zY (m:=1) hfl rfl;clear hf hbn hA
 go_enter Tryz.func71,Tryz.ntmps71
 go_wp2_with fail;rw [hw3.out];clear hw3;refine RS.au (IL (w3.heap.size) (hs.length*3) (dS ⟨c,l,z⟩) d (hs.length+1) (hs.flatMap dS++dS ⟨c,l,z⟩) hS) [(15,14)] [RS.ak (.pointer (some ⟨w.heap.size,0,none⟩)),RS.ak (.agg #[.int .i64 d.r,.int .i64 d.d,.int .i64 d.t,.int .i64 d.n]),RoE (w3.heap.size) 70,RS.ak (.pointer (some ⟨w.heap.size,4,none⟩)),RS.ak (.slice A hs.length cap),zl 70 3 (w3.heap.size) hs.length (hs.flatMap dS),RS.ak (.int .i64 c),RS.ak (.int .i64 l),SlB (w3.heap.size) 32 (Sh.bC z),RS.ak (.string ⟨z.toArray⟩),RS.ak (.agg #[.int .i64 c,.int .i64 l,.string ⟨z.toArray⟩]),SlN (w3.heap.size) 70 1 (dS ⟨c,l,z⟩),zl 70 3 (w3.heap.size) (hs.length+1) (hs.flatMap dS++dS ⟨c,l,z⟩),WQ (w3.heap.size) d (hs.length+1) (hs.flatMap dS++dS ⟨c,l,z⟩),PtW (w3.heap.size),StW (w3.heap.size) d (hs.length+1) (hs.flatMap dS++dS ⟨c,l,z⟩)] 16 50 (by kernel_rfl) rfl rfl (by kernel_rfl) (by kernel_rfl) ?_ ?_ ?_
 · simp only[RS.aY]
   and_intros <;> first|exact RS.aB _|exact wz Ou|exact wz (rE hfl)|exact Oq|exact wz (xk (by show _∨3<=_;omega))|exact wz hS|exact xq hS|exact Ea|exact D_ hS|trivial
 · simp only[RS.aS,List.take,List.length];refine ⟨?_,?_,?_,?_,?_,?_,?_,?_,?_,?_,?_,?_,?_,?_,?_,?_,trivial⟩;all_goals (intro vs w2 hb2 hd;simp only[RS.aJ,Act.put,List.nil_append,List.cons_append,List.setIfInBounds_toArray,List.set_cons_succ,List.set_cons_zero,Nat.reduceAdd];clear BR hb)
   · clear hd BA hA3;go_wp2;first|exact⟨KW.rf _ _ _ _ _ _ _,rfl⟩|exact⟨KW.rf _ _ _ _ _ _ _,by simp[RS.ak]⟩|exact KW.rf _ _ _ _ _ _ _|rfl|(simp [RS.ak])
   · have e0:vs 0=_:=hd 0 rfl;have x0:=(BA.below hb2.bl BA.lt).cell 0 rfl;have x1:=(BA.below hb2.bl BA.lt).cell 1 rfl;have x2:=(BA.below hb2.bl BA.lt).cell 2 rfl;have x3:=(BA.below hb2.bl BA.lt).cell 3 rfl;clear hd BA hA3;rw [e0];go_wp2;first|exact⟨KW.rf _ _ _ _ _ _ _,rfl⟩|exact⟨KW.rf _ _ _ _ _ _ _,by simp[RS.ak]⟩|exact KW.rf _ _ _ _ _ _ _|rfl|(simp [RS.ak])
   · have hK9:=hb2.call (Nat.le_refl _) (fP w2 (.cells #[] 70));have wL:=U5 (B:=w3.heap.size) (e:=70) w2 hb2.size undef;clear hd BA hA3;go_wp2;first|exact⟨hK9,wL⟩|exact wL
   · clear hd BA hA3;go_wp2;first|exact⟨KW.rf _ _ _ _ _ _ _,rfl⟩|exact⟨KW.rf _ _ _ _ _ _ _,by simp[RS.ak]⟩|exact KW.rf _ _ _ _ _ _ _|rfl|(simp [RS.ak])
   · have e3:vs 3=_:=hd 3 rfl;have x4:=(BA.below hb2.bl BA.lt).cell 4 rfl;clear hd BA hA3;rw [e3];go_wp2;first|exact⟨KW.rf _ _ _ _ _ _ _,rfl⟩|exact⟨KW.rf _ _ _ _ _ _ _,by simp[RS.ak]⟩|exact KW.rf _ _ _ _ _ _ _|rfl|(simp [RS.ak])
   · have e4:vs 4=_:=hd 4 rfl;have hrow1:RoE (w3.heap.size) 70 undef (vs 2) w2:=hd 2 rfl;have hsrc:=At.src (P:=Tryz.prog) (e:=70) (t:=30) (f:=dS) (fun _=>rfl) JR Tryz.underlying30 ((hA3.below hb2.bl).more hb2.size) cap;have hsz2:w3.heap.size<=w2.heap.size:=hb2.size;clear hd BA hA3;rw [e4];obtain ⟨v9,w9,CY,f1,f2⟩:=app_E (P:=Tryz.prog) 30 30 70 ti tz 3 (w3.heap.size) hs.length (hs.flatMap dS) _ _ undef Tryz.underlying30 hti hzz hs1 hz1 hrow1 hsz2 hsrc (by unfold maxLen;omega) (by rw[hby];omega);refine wV (by rfl) (.tmp 14) (.tmp 16) 30 rfl _ _ v9 rfl rfl CY ?_;exact ⟨rfl,rfl,KW.of hsz2 f1,f2⟩
   · clear hd BA hA3;go_wp2;first|exact⟨KW.rf _ _ _ _ _ _ _,rfl⟩|exact⟨KW.rf _ _ _ _ _ _ _,by simp[RS.ak]⟩|exact KW.rf _ _ _ _ _ _ _|rfl|(simp [RS.ak])
   · clear hd BA hA3;go_wp2;first|exact⟨KW.rf _ _ _ _ _ _ _,rfl⟩|exact⟨KW.rf _ _ _ _ _ _ _,by simp[RS.ak]⟩|exact KW.rf _ _ _ _ _ _ _|rfl|(simp [RS.ak])
   · have hsz2:w3.heap.size<=w2.heap.size:=hb2.size;clear hd BA hA3
     at_make
     refine wpList_make_full _ rfl (.const (.int .i64 32)) (.const (.int .i64 32)) 157 rfl w2.heap.size 5 bi (.int .u8 0) 1 cO hbi hbz hbs .i64 .i64 32 32 32 rfl rfl rfl rfl (by rw[hbb];decide) (by decide) (Nat.le_refl _) ?_;intro w9 hown hgr;have hK9:=hb2.call (Nat.le_refl _) (HY hgr);have qo:SlB (w3.heap.size) 32 (Sh.bC z) undef (.slice (some ⟨w2.heap.size,0,none⟩) 32 32) w9:=⟨_,rfl,hsz2,Vp hz.out hown⟩
     clear hown hgr;go_wp2;first|exact⟨hK9,qo⟩|exact qo
   · obtain⟨g8,e8,hg8,wO⟩:=hd 8 rfl;change vs 8=_ at e8;have hcv:=sW w2 g8 32 z (fun j x hx=>wO.cell j (Sh.yT hx));rw [hzl.out]at hcv;clear hd wO BA hA3;rw [e8];go_wp2;first|exact⟨KW.rf _ _ _ _ _ _ _,rfl⟩|exact KW.rf _ _ _ _ _ _ _|rfl
   · have e6:vs 6=_:=hd 6 rfl;have e7:vs 7=_:=hd 7 rfl;have e9:vs 9=_:=hd 9 rfl;clear hd BA hA3;rw [e6,e7,e9];go_wp2;first|exact⟨KW.rf _ _ _ _ _ _ _,rfl⟩|exact⟨KW.rf _ _ _ _ _ _ _,by simp[RS.ak]⟩|exact KW.rf _ _ _ _ _ _ _|rfl|(simp [RS.ak])
   · have e3:vs 10=_:=hd 10 rfl;have hK9:=hb2.call (Nat.le_refl _) (fP w2 (.cells (dS (⟨c,l,z⟩:Sh.Hn)).toArray 70));have qo:SlN (w3.heap.size) 70 1 (dS ⟨c,l,z⟩) undef (.slice (some ⟨w2.heap.size,0,none⟩) 1 1) (w2.alloc (.cells (dS (⟨c,l,z⟩:Sh.Hn)).toArray 70)):=⟨_,rfl,hb2.size,Bx.mk _ _ _⟩
     clear hd BA hA3;rw [e3];go_wp2;first|exact⟨hK9,qo⟩|exact qo
   · have hrow1:aI 70 3 (w3.heap.size) hs.length (hs.flatMap dS) (vs 5) w2:=hd 5 rfl;obtain ⟨g4,e4,hg4,hB4⟩:=hd 11 rfl;change vs 11=_ at e4;have hsrc:=dP.src (P:=Tryz.prog) (B:=w3.heap.size) (cap:=1) (e:=70) (size:=3) (t:=30) (JR (⟨c,l,z⟩:Sh.Hn)) Tryz.underlying30 (show dP 70 3 (w3.heap.size) 1 1 (dS (⟨c,l,z⟩:Sh.Hn)) (vs 11) w2 from ⟨g4,_,e4,hg4,Nat.le_refl _,hB4,rfl,rfl⟩);have hsz2:w3.heap.size<=w2.heap.size:=hb2.size;clear hd hb2 BA hA3;obtain ⟨v9,w9,CY,f1,f2⟩:=aal (P:=Tryz.prog) 30 30 70 ti tz 3 (w3.heap.size) hs.length 1 (hs.flatMap dS) (dS (⟨c,l,z⟩:Sh.Hn)) _ _ Tryz.underlying30 hti hzz hs1 hz1 hrow1 hsz2 hsrc (by omega) (by unfold maxLen;omega) (by rw[hby];omega);refine wV (by rfl) (.tmp 17) (.tmp 23) 30 rfl _ _ v9 rfl rfl CY ?_;exact ⟨rfl,rfl,KW.he f1,f2⟩
   · have e1:vs 1=_:=hd 1 rfl;have hrow1:zl 70 3 (w3.heap.size) (hs.length+1) (hs.flatMap dS++dS ⟨c,l,z⟩) undef (vs 12) w2:=hd 12 rfl;obtain ⟨v9,e9⟩:∃v9,vs 12=v9:=⟨_,rfl⟩
     rw[e9]at hrow1;obtain ⟨A9,c9,e8⟩:=aI.shp hrow1;have JW:WQ (w3.heap.size) d (hs.length+1) (hs.flatMap dS++dS ⟨c,l,z⟩) undef (.agg (eP d v9)) w2:=⟨v9,rfl,hrow1⟩
     unfold eP at JW
     subst e8;clear hd hrow1 BA hA3;rw [e1,e9];go_wp2;first|exact⟨KW.rf _ _ _ _ _ _ _,JW⟩|exact JW
   · have hsz:=hb2.size;have hK9:=hb2.call (Nat.le_refl _) (fP w2 (.cells #[.int .i64 0,.int .i64 0,.int .i64 0,.int .i64 0,.slice none 0 0] 32));have qo:PtW (w3.heap.size) undef (.pointer (some ⟨w2.heap.size,0,none⟩)) (w2.alloc (.cells #[.int .i64 0,.int .i64 0,.int .i64 0,.int .i64 0,.slice none 0 0] 32)):=⟨w2.heap.size,_,rfl,hsz,rfl,Bx.mk w2 32 #[.int .i64 0,.int .i64 0,.int .i64 0,.int .i64 0,.slice none 0 0]⟩
     clear hd BA hA3;go_wp2;first|exact⟨hK9,qo⟩|exact qo
   · obtain⟨g8,c8,e8,hg8,hc8,wO⟩:=hd 14 rfl;change vs 14=_ at e8;obtain ⟨v9,e13,hrow1⟩:WQ (w3.heap.size) d (hs.length+1) (hs.flatMap dS++dS ⟨c,l,z⟩) undef (vs 13) w2:=hd 13 rfl;have hK9:=KW.put (B:=w3.heap.size) (pos:=hs.length*3) (news:=dS ⟨c,l,z⟩) (d:=d) hS hg8 wO hc8 v9 hrow1 (vs 14) e8 undef
     obtain⟨x0,x1,x2,x3,x4,rfl⟩:∃x0 x1 x2 x3 x4,c8=#[x0,x1,x2,x3,x4]:=by
      rcases c8 with ⟨l8⟩
      match l8,hc8 with
      | [x0,x1,x2,x3,x4],_=>exact⟨x0,x1,x2,x3,x4,rfl⟩
     obtain⟨b0,b1,b2,b3,b4⟩:=wO.p5;have f0:=fun i=>wO.frozen i
     obtain⟨A9,c9,e7⟩:=aI.shp hrow1;subst e7
     unfold eP at e13
     unfold ku at hK9
     clear hd hb2 hrow1 wO BA hA3;rw [e8,e13];obtain ⟨hK8,XF⟩:=hK9;clear e8 e13;go_wp2;first|exact XF|exact⟨hK8,XF⟩
 · intro vs wa hba hR2;simp only[RS.bP,RS.ak]at hR2;obtain ⟨-,-,-,-,-,-,-,-,-,-,-,-,-,-,⟨gP,cP,e14,-,-,-⟩,⟨gR,cR,e15,hgR,BW,hGW⟩,-⟩:=hR2;simp only[List.drop,List.take,List.map,RS.aJ,Act.put,List.setIfInBounds_toArray,List.set_cons_succ,List.set_cons_zero,Nat.reduceAdd];change vs 14=_ at e14;replace e15:vs 14=.pointer (some ⟨gR,0,none⟩):=e15;rw [e15];clear e14 e15 cP gP;obtain ⟨vR,rfl,hrow⟩:=hGW
   rcases (show aI 70 3 w3.heap.size (hs.length+1) (hs.flatMap dS++dS ⟨c,l,z⟩) vR wa from hrow) with ⟨-,h0,-⟩|⟨cH,⟨gH,cells,rfl,hgH,hcH,hbx,hcs,QM⟩,hcm⟩
   · omega
   have AL:∀x:Sh.Hn,hs.flatMap dS++dS x=(hs++[x]).flatMap dS:=fun x=>by rw[List.flatMap_append,List.flatMap_singleton]
   have hle1:∀x:Sh.Hn,(hs++[x]).length=hs.length+1:=fun x=>by simp
   have hC:=xE d (hs++[⟨c,l,z⟩]) (some ⟨gH,0,none⟩) cH wa (I7 hbx hcs (by rw[hle1];exact hcH) (by rw[hle1,QM,AL])) (by rw[hle1];exact hcH) hfK.out;rw [hle1]at hC;have hb3:w.heap.size+1<w3.heap.size:=BR.lt;replace hb:=ah hb (hba.bl);replace BR:=BR.call hba.bl
   unfold eP at hC BW
   have r0:=BW.cell 0 (v:=.int .i64 d.r) rfl;have r1:=BW.cell 1 (v:=.int .i64 d.d) rfl;have r2:=BW.cell 2 (v:=.int .i64 d.t) rfl;have r3:=BW.cell 3 (v:=.int .i64 d.n) rfl;have r4:=BW.cell 4 (v:=.slice (some ⟨gH,0,none⟩) (hs.length+1) cH) rfl;clear hrow hba hA3 hS BA;go_wp2_with fail;refine hC.mono ?_;rintro _ w5 ⟨rfl,hb5⟩;replace hb:=ah hb hb5;replace BR:=BR.call hb5;replace BW:=BW.call hb5;replace hbx:=hbx.call hb5;clear hC hb5 r0 r1 r2 r3 r4;have r4:=BW.cell 4 (v:=.slice (some ⟨gH,0,none⟩) (hs.length+1) cH) rfl;have hcast:((hs.length+1:Nat):Int)-1=(hs.length:Int):=by omega
   go_upto_region 5 with fail;clear r4 hcast
   have hok:∀s:List UInt8,s.length=32->∀x∈hs++[(⟨c,l,s⟩:Sh.Hn)],uj x:=fun s hs9 x hx=>by
    rcases List.mem_append.1 hx with h|h
    · exact hfK.out.hn x (by simp[h])
    · have h9:=hfK.out.hn ⟨c,l,z⟩ (by simp);rw [List.mem_singleton]at h;subst h;exact ⟨h9.c,h9.l,by simp[hs9]⟩
   have hdl:=hfK.out.dl;obtain ⟨sgv,hsg⟩:∃s,Kp (Sh.sg key (Sh.cont d (hs.length:Nat) c l (bf hs hs.length))=s):=⟨_,⟨rfl⟩⟩
   have hsl:sgv.length=32:=by rw[←hsg.out];exact Sh.GL _ _
   obtain⟨cells2,hst1⟩:∃c2,cells.setIfInBounds (hs.length*3+2) (.string ⟨(Sh.sg key (Sh.cont d (hs.length:Nat) c l (bf hs hs.length))).toArray⟩)=c2:=⟨_,rfl⟩
   have hst2:cells2.setIfInBounds (hs.length*3+2) (.string ⟨(Sh.sg key (Sh.cont d (hs.length:Nat) c l (bf hs hs.length))).toArray⟩)=cells2:=by rw[←hst1,Array.setIfInBounds_setIfInBounds]
   have hsz:hs.length*3+2<cells.size:=by rw[hcs];omega
   have hcs2:cells2.size=cH*3:=by rw[←hst1,Array.size_setIfInBounds,hcs]
   have Zj:cells2.toList.take ((hs.length+1)*3)=hs.flatMap dS++dS ⟨c,l,sgv⟩:=by
    rw[←hst1,hsg.out,Array.toList_setIfInBounds,List.take_set,QM,List.set_append_right _ _ (by rw[hfl];omega),hfl,Nat.add_sub_cancel_left];rfl
   have Xz:cells.toList.take (hs.length*3+3)=hs.flatMap dS++dS ⟨c,l,z⟩:=by rw[←QM,Nat.add_mul]
   have hcz:cells[hs.length*3+2]? = some (.string ⟨z.toArray⟩):=by
    rw[jS (flat:=hs.flatMap dS++dS ⟨c,l,z⟩) (k:=hs.length*3+3) (by rw[List.length_append,hfl];rfl) Xz (by show _<hs.length*3+3;omega),List.getElem?_append_right (by rw[hfl];omega),hfl,Nat.add_sub_cancel_left];rfl
   have hcs9:cells2[hs.length*3+2]? = some (.string ⟨(Sh.sg key (Sh.cont d (hs.length:Nat) c l (bf hs hs.length))).toArray⟩):=by
    rw[←hst1];exact Array.getElem?_setIfInBounds_self_of_lt hsz
   have lN:∀w2,RS.KZ gH 70 cells cells2 w5 w2->aT 119 #[.agg #[.int .i64 d.r,.int .i64 d.d,.int .i64 d.t,.int .i64 d.n,.slice (some ⟨gH,0,none⟩) (hs.length+1) cH],.int .i64 (hs.length:Nat)] w2 (.string ⟨(Sh.cont d (hs.length:Nat) c l (bf hs hs.length)).toArray⟩):=fun w2 hK=>by
    have key9:∀x:List UInt8,x.length=32->At 3 dS w2 w2.heap.size (some ⟨gH,0,none⟩) (hs++[⟨c,l,x⟩])->aT 119 #[.agg #[.int .i64 d.r,.int .i64 d.d,.int .i64 d.t,.int .i64 d.n,.slice (some ⟨gH,0,none⟩) (hs.length+1) cH],.int .i64 (hs.length:Nat)] w2 (.string ⟨(Sh.cont d (hs.length:Nat) c l (bf hs hs.length)).toArray⟩):=fun x hx hAt=>by
     have h9:=rO d (hs++[(⟨c,l,x⟩:Sh.Hn)]) hs.length ⟨c,l,x⟩ _ cH w2 hAt (by rw[hle1];exact hcH) (by rw[hle1];omega) (by simp) hdl (hok x hx);rw [I4 _ _ _ (Nat.le_refl _),hle1]at h9;exact h9
    rcases hK.own gH cells (Nat.le_refl _) hbx with h|⟨-,h⟩
    · exact key9 z hzl.out (I7 h hcs (by rw[hle1];exact hcH) (by rw[hle1,QM,AL]))
    · exact key9 sgv hsl (I7 h hcs2 (by rw[hle1];exact hcH) (by rw[hle1,Zj,AL]))
   clear hfK hok hdl;refine RS.au (RS.gu (gH) 70 cells cells2) [] [RS.ak (.pointer (some ⟨gR,4,none⟩)),RS.ak (.slice (some ⟨gH,0,none⟩) (hs.length+1) cH),RS.ak (.int .i64 (hs.length:Nat)),RS.ak (.string ⟨key.toArray⟩),RS.ak (.agg #[.int .i64 d.r,.int .i64 d.d,.int .i64 d.t,.int .i64 d.n,.slice (some ⟨gH,0,none⟩) (hs.length+1) cH]),RS.ak (.int .i64 (hs.length:Nat)),RS.ak (.string ⟨(Sh.cont d (hs.length:Nat) c l (bf hs hs.length)).toArray⟩),RS.ak (.string ⟨(Sh.sg key (Sh.cont d (hs.length:Nat) c l (bf hs hs.length))).toArray⟩),RS.ak (.pointer (some ⟨gH,hs.length*3,none⟩)),RS.ak (.pointer (some ⟨gH,hs.length*3+2,none⟩)),RS.BoZ (gH) 70 cells2] 11 50 (by kernel_rfl) rfl rfl (by kernel_rfl) (by kernel_rfl) ?_ ?_ ?_
   · simp only[RS.aY]
     and_intros <;> first|exact RS.aB _|exact RS.Ec|trivial
   · simp only[RS.aS,List.take,List.length];refine ⟨?_,?_,?_,?_,?_,?_,?_,?_,?_,?_,?_,trivial⟩;all_goals (intro vs w2 hb2 hd;simp only[RS.aJ,Act.put,List.nil_append,List.cons_append,List.setIfInBounds_toArray,List.set_cons_succ,List.set_cons_zero,Nat.reduceAdd])
     · clear hd lN BW;go_wp2;exact aQ
     · have e0:vs 0=_:=hd 0 rfl;have q0:=(hb2.NM.bx (by decide) BW).cell 4 (v:=.slice (some ⟨gH,0,none⟩) (hs.length+1) cH) rfl;clear hd lN BW;rw [e0];go_wp2;exact aQ
     · clear hd lN BW;go_wp2;exact aQ
     · clear hd lN BW;go_wp2;exact aQ
     · have q0:=(hb2.NM.bx (by decide) BW).cell 0 (v:=.int .i64 d.r) rfl;have q1:=(hb2.NM.bx (by decide) BW).cell 1 (v:=.int .i64 d.d) rfl;have q2:=(hb2.NM.bx (by decide) BW).cell 2 (v:=.int .i64 d.t) rfl;have q3:=(hb2.NM.bx (by decide) BW).cell 3 (v:=.int .i64 d.n) rfl;have q4:=(hb2.NM.bx (by decide) BW).cell 4 (v:=.slice (some ⟨gH,0,none⟩) (hs.length+1) cH) rfl;clear hd lN BW;go_wp2;exact aQ
     · clear hd lN BW;go_wp2;exact aQ
     · have e0:vs 4=_:=hd 4 rfl;have e1:vs 5=_:=hd 5 rfl;have hC:=lN w2 hb2;clear hd lN BW;rw [e0,e1];go_wp2_with fail;refine hC.mono ?_;rintro _ w9 ⟨rfl,aX⟩;clear hC;have hK9:=hb2.call (Nat.le_of_lt hbx.lt) aX;go_wp2;first|exact⟨hK9,rfl⟩|exact hK9|rfl
     · have e0:vs 3=_:=hd 3 rfl;have e1:vs 6=_:=hd 6 rfl;have hC:=Ae key (Sh.cont d (hs.length:Nat) c l (bf hs hs.length)) w2 hkey9 hcl;clear hd lN BW;rw [e0,e1];go_wp2_with fail;refine hC.mono ?_;rintro _ w9 ⟨rfl,aX⟩;clear hC;have hK9:=hb2.call (Nat.le_of_lt hbx.lt) aX;go_wp2;first|exact⟨hK9,rfl⟩|exact hK9|rfl
     · have e0:vs 1=_:=hd 1 rfl;have e1:vs 2=_:=hd 2 rfl;clear hd lN BW;rw [e0,e1];go_wp2;exact aQ
     · have e0:vs 8=_:=hd 8 rfl;clear hd lN BW;rw [e0];go_wp2;exact aQ
     · have e0:vs 7=_:=hd 7 rfl;have e1:vs 9=_:=hd 9 rfl
       rcases hb2.own _ _ (Nat.le_refl _) hbx with hBg|⟨-,hBg⟩
       · have hN:Bx (w2.setCell ⟨gH,hs.length*3+2,none⟩ (.string ⟨(Sh.sg key (Sh.cont d (hs.length:Nat) c l (bf hs hs.length))).toArray⟩)) (gH) 70 cells2:=by have h9:=hBg.set (hs.length*3+2) (.string ⟨(Sh.sg key (Sh.cont d (hs.length:Nat) c l (bf hs hs.length))).toArray⟩);rw[hst1]at h9;exact h9
         have hK:RS.KZ (gH) 70 cells cells2 w2 (w2.setCell ⟨gH,hs.length*3+2,none⟩ (.string ⟨(Sh.sg key (Sh.cont d (hs.length:Nat) c l (bf hs hs.length))).toArray⟩)):=RS.KZ.put (Nat.le_refl _) (.inl hBg) (Below.setCell (Below.refl (gH) w2) (p:=⟨gH,hs.length*3+2,none⟩) (Nat.le_refl _) (.string ⟨(Sh.sg key (Sh.cont d (hs.length:Nat) c l (bf hs hs.length))).toArray⟩)).size (Below.setCell (Below.refl (gH) w2) (p:=⟨gH,hs.length*3+2,none⟩) (Nat.le_refl _) (.string ⟨(Sh.sg key (Sh.cont d (hs.length:Nat) c l (bf hs hs.length))).toArray⟩)) (fun b e=>Below.heap_setCell _ ⟨gH,hs.length*3+2,none⟩ _ b e) hN;have q0:=hBg.cell (hs.length*3+2) hcz;have f0:=hBg.frozen (hs.length*3+2);clear hd lN BW;rw [e0,e1];clear hBg hb2;go_wp2;first|exact⟨hK,hN⟩|exact hN|exact hK
       · have hN:Bx (w2.setCell ⟨gH,hs.length*3+2,none⟩ (.string ⟨(Sh.sg key (Sh.cont d (hs.length:Nat) c l (bf hs hs.length))).toArray⟩)) (gH) 70 cells2:=by have h9:=hBg.set (hs.length*3+2) (.string ⟨(Sh.sg key (Sh.cont d (hs.length:Nat) c l (bf hs hs.length))).toArray⟩);rw[hst2]at h9;exact h9
         have hK:RS.KZ (gH) 70 cells cells2 w2 (w2.setCell ⟨gH,hs.length*3+2,none⟩ (.string ⟨(Sh.sg key (Sh.cont d (hs.length:Nat) c l (bf hs hs.length))).toArray⟩)):=RS.KZ.put (Nat.le_refl _) (.inr hBg) (Below.setCell (Below.refl (gH) w2) (p:=⟨gH,hs.length*3+2,none⟩) (Nat.le_refl _) (.string ⟨(Sh.sg key (Sh.cont d (hs.length:Nat) c l (bf hs hs.length))).toArray⟩)).size (Below.setCell (Below.refl (gH) w2) (p:=⟨gH,hs.length*3+2,none⟩) (Nat.le_refl _) (.string ⟨(Sh.sg key (Sh.cont d (hs.length:Nat) c l (bf hs hs.length))).toArray⟩)) (fun b e=>Below.heap_setCell _ ⟨gH,hs.length*3+2,none⟩ _ b e) hN;have q0:=hBg.cell (hs.length*3+2) hcs9;have f0:=hBg.frozen (hs.length*3+2);clear hd lN BW;rw [e0,e1];clear hBg hb2;go_wp2;first|exact⟨hK,hN⟩|exact hN|exact hK
   · intro vs wa hba hR2;simp only[RS.bP,RS.ak]at hR2;obtain ⟨e0,e1,e2,e3,e4,e5,e6,e7,e8,e9,e10,-⟩:=hR2;simp only[List.drop,List.take,List.map,RS.aJ,Act.put,List.setIfInBounds_toArray,List.set_cons_succ,List.set_cons_zero,Nat.reduceAdd];rw [e0,e1,e2,e3,e4,e5,e6,e7,e8,e9];clear e0 e1 e2 e3 e4 e5 e6 e7 e8 e9;have BN:=e10;clear e10;change Bx _ _ _ _ at BN;have WJ:=hba.NM.bx (by decide) BW;have TU:=hba.NM.bx (by decide) BR;have hbf:=hb.trans (hba.bl.mono (by omega));have hgne:gH≠w.heap.size+1:=by omega
     have hfin:=hbf.trans (jH (d:=d) (B:=w.heap.size) (w:=wa) (g:=w.heap.size+1) (by omega) (.slice (some ⟨gH,0,none⟩) (hs.length+1) cH));have hbx2:=nX (d:=d) (w:=wa) (.slice (some ⟨gH,0,none⟩) (hs.length+1) cH) hgne BN;have Xu:aI 70 3 w.heap.size (hs.length+1) ((hs++[(⟨c,l,Sh.sg key (Sh.cont d (hs.length:Nat) c l (bf hs hs.length))⟩:Sh.Hn)]).flatMap dS) (.slice (some ⟨gH,0,none⟩) (hs.length+1) cH) (ku wa (w.heap.size+1) d (.slice (some ⟨gH,0,none⟩) (hs.length+1) cH)):=.inr ⟨cH,⟨gH,cells2,rfl,by omega,hcH,hbx2,hcs2,by rw[←AL,hsg.out];exact Zj⟩,hcm⟩;have r0:=WJ.cell 0 (v:=.int .i64 d.r) rfl;have r1:=WJ.cell 1 (v:=.int .i64 d.d) rfl;have r2:=WJ.cell 2 (v:=.int .i64 d.t) rfl;have r3:=WJ.cell 3 (v:=.int .i64 d.n) rfl;have r4:=WJ.cell 4 (v:=.slice (some ⟨gH,0,none⟩) (hs.length+1) cH) rfl;have b0:=TU.cell 0 (v:=.int .i64 0) rfl;have b1:=TU.cell 1 (v:=.int .i64 0) rfl;have b2:=TU.cell 2 (v:=.int .i64 0) rfl;have b3:=TU.cell 3 (v:=.int .i64 0) rfl;have b4:=TU.cell 4 (v:=.slice none 0 0) rfl;have f0:=fun i=>TU.frozen i
     have TV:=rG (d:=d) TU rfl (.slice (some ⟨gH,0,none⟩) (hs.length+1) cH)
     unfold eP at TV
     unfold ku at hfin Xu TV
     clear hba BW BR WJ TU hbf hbx2 BN hb hst1 hst2 hcz hcs9 Zj QM Xz hcs2 hcs hbx;go_wp2;exact bodyPost_ret (uG rfl _ _ rfl rfl TV) rfl ⟨⟨_,rfl,Xu⟩,hfin⟩
def uh (k:List UInt8):Prop:=k.length=32∨k=[]
theorem OU (ks:List (List UInt8)) (K:Option Addr) (kc:Nat) (w:World) (hK:At 1 lg w w.heap.size K ks) (h8:ks.length=8) (hks:∀k∈ks,uh k) :
 aT 73 #[.slice K 8 kc,.bool false] w (.bool true):=by
 have h8K:=Kp.mk h8;obtain ⟨pk,ok,rfl,hpk,hkc⟩:=hK (by omega)
 have hc:∀k s,ks[k]? = some s->w.cell? ⟨pk,ok+k,none⟩=some (.string ⟨s.toArray⟩):=fun k s hs=>by
  have h9:=hkc k s hs 0 _ rfl
  rwa [Nat.mul_one,Nat.add_zero]at h9
 have hb0:=bH w;clear hK hkc h8
 go_enter Tryz.func73,Tryz.ntmps73
 go_wp2_with fail
 go_loopw [5] (fun s5 wr=>∃k:Nat,k<=8/\s5=.int .i64 k/\Below w.heap.size w wr) (fun s5 _=>8-(intOf s5).toNat)
 case atStart=>exact⟨0,by omega,rfl,hb0⟩
 case round =>
  clear hb0;obtain ⟨k,hk,rfl,hb⟩:=hrel;by_cases hlt:k<8
  · obtain⟨s,hs⟩:∃s,ks[k]? = some s:=⟨_,List.getElem?_eq_getElem (by rw[h8K.out];exact hlt)⟩
    have c0:=(hb.cell (p:=⟨pk,ok+k,none⟩) hpk).trans (hc k s hs);have hkey:=hks s (List.mem_of_getElem? hs);clear hs hc hks
    rcases hkey with h32|rfl
    · go_wp2;exact ⟨⟨k+1,by omega,by go_num,hb⟩,by simp[intOf];omega⟩
    · go_wp2;exact ⟨⟨k+1,by omega,by go_num,hb⟩,by simp[intOf];omega⟩
  · have hk8:k=8:=by omega
    clear hc hks;go_wp2;go_ret;exact ⟨rfl,hb⟩
def eY (d:Sh.Dl) (hs:List Sh.Hn) (B:Nat) (v:Value) (w:World):Prop:=aI 70 3 B hs.length (hs.flatMap dS) v w
def qK (key:List UInt8) (d:Sh.Dl) (hs:List Sh.Hn) (c l:Int):List Sh.Hn:=hs++[⟨c,l,Sh.sg key (Sh.cont d (hs.length:Nat) c l (bf hs hs.length))⟩]
theorem rX (key:List UInt8) (d:Sh.Dl) (hs:List Sh.Hn) (c l:Int):(qK key d hs c l).length=hs.length+1:=by simp[qK]
theorem Ac (key:List UInt8) (d:Sh.Dl) (hs:List Sh.Hn) (c l:Int) (A:Option Addr) (cap:Nat) (w:World) (hkey:key.length=32) (hA:At 3 dS w w.heap.size A hs) (hn:hs.length<=cap) (hf:lZ d (hs++[(⟨c,l,List.replicate 32 0⟩:Sh.Hn)])) :
 Calls Tryz.prog 71 #[.string ⟨key.toArray⟩,.agg (eP d (.slice A hs.length cap)),.int .i64 c,.int .i64 l] w fun e w'=>(∃A' c',e=.returned (.tuple #[.agg (eP d (.slice A' (hs.length+1) c')),.int .i64 0])/\eY d (qK key d hs c l) w.heap.size (.slice A' (hs.length+1) c') w')/\Below w.heap.size w w' :=
 (OI key d hs c l A cap w hkey hA hn hf).mono (fun e w' ⟨⟨v,h1,h2⟩,h3⟩=>by
  rcases h2 with ⟨-,h0,-⟩|⟨cap',⟨g,cells,rfl,hg,hn,hB,hs,hf⟩,hm⟩
  · omega
  · exact⟨⟨_,_,h1,by unfold eY;rw[rX];exact .inr ⟨cap',⟨g,cells,rfl,hg,hn,hB,hs,hf⟩,hm⟩⟩,h3⟩)
theorem eY.ku {d d':Sh.Dl} {hs:List Sh.Hn} {B g:Nat} {v v':Value} {w:World} (h:eY d hs B v w) (hg:g<B):eY d hs B v (ku w g d' v'):=by
 rcases h with h|⟨cap,⟨g1,cells,h1,h2,h3,h4,h5,h6⟩,h7⟩
 · exact .inl h
 · exact .inr ⟨cap,⟨g1,cells,h1,h2,h3,nX v' (by omega) h4,h5,h6⟩,h7⟩
theorem eY.mono {d:Sh.Dl} {hs:List Sh.Hn} {B B':Nat} {v:Value} {w:World} (h:eY d hs B v w) (hB:B'<=B):eY d hs B' v w:=by
 rcases h with h|⟨cap,⟨g1,cells,h1,h2,h3,h4,h5,h6⟩,h7⟩
 · exact .inl h
 · exact .inr ⟨cap,⟨g1,cells,h1,by omega,h3,h4,h5,h6⟩,h7⟩
theorem eY.call {d:Sh.Dl} {hs:List Sh.Hn} {B:Nat} {v:Value} {w w':World} (h:eY d hs B v w) (hb:Below w.heap.size w w'):eY d hs B v w':=aU _ _ _ _ _ _ _ _ h hb
theorem LC (key:List UInt8) (d:Sh.Dl) (c l:Int) (w:World) (hkey:key.length=32) (hf:lZ d [(⟨c,l,List.replicate 32 0⟩:Sh.Hn)]) :
 Calls Tryz.prog 22 #[.string ⟨key.toArray⟩,.agg #[.int .i64 d.r,.int .i64 d.d,.int .i64 d.t,.int .i64 d.n],.int .i64 c,.int .i64 l] w fun e w'=>(∃A' c',e=.returned (.tuple #[.agg (eP d (.slice A' 1 c')),.int .i64 0])/\eY d (qK key d [] c l) w.heap.size (.slice A' 1 c') w')/\Below w.heap.size w w':=by
 have hC:=fun w0=>Ac key d [] c l none 0 w0 hkey At.nil (Nat.le_refl _) hf
 have hb:=fP w (.cells #[.int .i64 d.r,.int .i64 d.d,.int .i64 d.t,.int .i64 d.n] 29);have BA:=Bx.mk w 29 #[.int .i64 d.r,.int .i64 d.d,.int .i64 d.t,.int .i64 d.n];have hbn:=fP (w.alloc (.cells #[.int .i64 d.r,.int .i64 d.d,.int .i64 d.t,.int .i64 d.n] 29)) (.cells #[.int .i64 0,.int .i64 0,.int .i64 0,.int .i64 0,.slice none 0 0] 32);have BR:=Bx.mk (w.alloc (.cells #[.int .i64 d.r,.int .i64 d.d,.int .i64 d.t,.int .i64 d.n] 29)) 32 #[.int .i64 0,.int .i64 0,.int .i64 0,.int .i64 0,.slice none 0 0];replace BA:=BA.call hbn;replace hb:=ah hb hbn;rw [World.size_alloc]at BR;have b0:=BA.cell 0 (v:=.int .i64 d.r) rfl;have b1:=BA.cell 1 (v:=.int .i64 d.d) rfl;have b2:=BA.cell 2 (v:=.int .i64 d.t) rfl;have b3:=BA.cell 3 (v:=.int .i64 d.n) rfl;have hC2:=hC ((w.alloc (.cells #[.int .i64 d.r,.int .i64 d.d,.int .i64 d.t,.int .i64 d.n] 29)).alloc (.cells #[.int .i64 0,.int .i64 0,.int .i64 0,.int .i64 0,.slice none 0 0] 32))
 unfold eP at hC2 ⊢
 clear hf hbn hC
 go_enter Tryz.func22,Tryz.ntmps22
 go_wp2_with fail;refine hC2.mono ?_;rintro _ w1 ⟨⟨A',c',rfl,hM⟩,hb1⟩;replace BR:=BR.call hb1;replace hb:=ah hb hb1;rw [World.size_alloc,World.size_alloc]at hM;clear hC2 hb1 b0 b1 b2 b3 BA;have hbf:=hb.trans (jH (d:=d) (B:=w.heap.size) (w:=w1) (g:=w.heap.size+1) (by omega) (.slice A' (0+1) c'));have hMf:=(eY.ku (d':=d) (v':=.slice A' (0+1) c') (g:=w.heap.size+1) hM (by omega)).mono (B':=w.heap.size) (by omega);have TV:=rG (d:=d) BR rfl (.slice A' (0+1) c');have r0:=BR.cell 0 (v:=.int .i64 0) rfl;have r1:=BR.cell 1 (v:=.int .i64 0) rfl;have r2:=BR.cell 2 (v:=.int .i64 0) rfl;have r3:=BR.cell 3 (v:=.int .i64 0) rfl;have r4:=BR.cell 4 (v:=.slice none 0 0) rfl;have f0:=fun i=>BR.frozen i
 unfold ku eP at TV
 unfold ku at hbf hMf
 clear BR hM hb;go_wp2;exact bodyPost_ret (uG rfl _ _ rfl rfl TV) rfl ⟨⟨_,_,rfl,hMf⟩,hbf⟩
def TuW (B:Nat) (d:Sh.Dl) (m:Nat) (fl:List Value):RS.Rl:=fun _ v w=>∃v',v=.tuple #[.agg (eP d v'),.int .i64 0]/\aI 70 3 B m fl v' w
theorem D9 {B pos:Nat} {news:List Value} {d:Sh.Dl} {m:Nat} {fl:List Value} (hS:RS.dG (KH B 70 pos news) (zl 70 3 B m fl)):RS.dG (KW B pos news d m fl) (TuW B d m fl):=fun x v w w' ⟨v',e,h⟩ hK=>⟨v',e,hS x _ _ _ h hK.kh⟩
def BoW (B:Nat) (d:Sh.Dl) (m:Nat) (fl:List Value):RS.Rl:=fun _ _ w=>∃c,Bx w B 32 c/\um B d m fl w c
theorem Oy {B pos:Nat} {news:List Value} {d:Sh.Dl} {m:Nat} {fl:List Value} (hS:RS.dG (KH B 70 pos news) (zl 70 3 B m fl)):RS.dG (KW B pos news d m fl) (BoW B d m fl):=fun x v w w' ⟨c,h3,h4⟩ hK=>by
 obtain⟨c',s,b,o⟩:=hK.kr B c (Nat.le_refl _) h4.size h3
 rcases o with rfl|o
 · exact⟨c',b,h4.mono hS hK.kh⟩
 · exact⟨c',b,o⟩
theorem aaf {B:Nat} {d:Sh.Dl} {m:Nat} {fl:List Value} {y:Value} {w:World} (h:StW B d m fl (.pointer (some ⟨B,0,none⟩)) y w):BoW B d m fl undef undef w:=by
 obtain⟨g,c,h1,-,h3,h4⟩:=h;simp only[Value.pointer.injEq,Option.some.injEq,Addr.mk.injEq,and_true]at h1;subst h1;exact ⟨c,h3,h4⟩
theorem Yv {key:List UInt8} {d:Sh.Dl} {hs:List Sh.Hn} {c l:Int} {B:Nat} {v:Value} {w:World} (h:eY d (qK key d hs c l) B v w):aI 70 3 B (hs.length+1) ((qK key d hs c l).flatMap dS) v w:=by
 have h9:=h
 unfold eY at h9
 rwa [rX]at h9
def DR (ks:List (List UInt8)) (d:Sh.Dl) (hs:List Sh.Hn) (i:Nat) (h:Sh.Hn):Int:=if Jv ks d hs i h then h.l else min h.l 1
theorem OJ (key:List UInt8) (ks:List (List UInt8)) (K:Option Addr) (kc:Nat) (d:Sh.Dl) (hs:List Sh.Hn) (i:Nat) (h:Sh.Hn) (c:Int) (A:Option Addr) (cap:Nat) (w:World) (hkey:key.length=32) (hK:At 1 lg w w.heap.size K ks) (h8:ks.length=8) (hkc:8<=kc) (hks:∀k∈ks,uh k) (hA:At 3 dS w w.heap.size A hs) (hn:hs.length<=cap) (hi:hs[i]? = some h) (hil:hs.length=i+1) (hf:lZ d hs) (hf2:lZ d (hs++[(⟨c,DR ks d hs i h,List.replicate 32 0⟩:Sh.Hn)])) :
 Calls Tryz.prog 24 #[.string ⟨key.toArray⟩,.slice K 8 kc,.agg (eP d (.slice A hs.length cap)),.int .i64 c] w fun e w'=>(∃A' c',e=.returned (.tuple #[.agg (eP d (.slice A' (hs.length+1) c')),.int .i64 0])/\eY d (qK key d hs c (DR ks d hs i h)) w.heap.size (.slice A' (hs.length+1) c') w')/\Below w.heap.size w w':=by
 have NQ:=(hf.hand i h hi).1;have hl8:=hf.len.2;have hks9:∀k∈ks,k.length<=1000:=fun k hk=>by rcases hks k hk with h|rfl <;> simp_all
 have hC:=fun (w0:World) (hb:Below w.heap.size w w0)=>Ac key d hs c (DR ks d hs i h) A cap w0 hkey (hA.bY hb) hn hf2
 have qo:=fun (w0:World) (hb:Below w.heap.size w w0)=>Lh ks K kc d hs i h A cap w0 (hK.bY hb) (by omega) (by omega) hks9 (by rw[h8];omega) (hA.bY hb) hn (by omega) hi hil hf.dl hf.hn
 have hF:=fun (w0:World) (hb:Below w.heap.size w w0)=>xE d hs A cap w0 (hA.bY hb) hn hf
 have hY:=fun (w0:World) (hb:Below w.heap.size w w0)=>OU ks K kc w0 (hK.bY hb) h8 hks
 obtain⟨lv,hlv⟩:∃lv,Kp (DR ks d hs i h=lv):=⟨_,⟨rfl⟩⟩
 change ∀w0,Below w.heap.size w w0->Calls _ _ _ w0 fun e w'=>e=.returned (.int .i64 (DR ks d hs i h))/\_ at qo
 rw[hlv.out]at hC qo ⊢;rw [h8]at qo;have hlen9:0<hs.length:=by omega
 have hb:=fP w (.cells (eP d (.slice A hs.length cap)) 32);have BA:=Bx.mk w 32 (eP d (.slice A hs.length cap));have hbn:=fP (w.alloc (.cells (eP d (.slice A hs.length cap)) 32)) (.cells #[.int .i64 0,.int .i64 0,.int .i64 0,.int .i64 0,.slice none 0 0] 32);have BR:=Bx.mk (w.alloc (.cells (eP d (.slice A hs.length cap)) 32)) 32 #[.int .i64 0,.int .i64 0,.int .i64 0,.int .i64 0,.slice none 0 0];replace BA:=BA.call hbn;replace hb:=ah hb hbn;rw [World.size_alloc]at BR
 obtain⟨A1,hAsh⟩:∃A1,A=some A1:=by
  obtain⟨p,off,rfl,-,-⟩:=hA hlen9;exact ⟨_,rfl⟩
 subst hAsh;obtain ⟨w3,hw3⟩:∃w3,Kp ((w.alloc (.cells (eP d (.slice (some A1) hs.length cap)) 32)).alloc (.cells #[.int .i64 0,.int .i64 0,.int .i64 0,.int .i64 0,.slice none 0 0] 32)=w3):=⟨_,⟨rfl⟩⟩
 rw[hw3.out]at BA BR hb
 unfold eP at BA hw3 hC qo hF ⊢
 clear hf hf2 hbn hA hK hks hks9 h8 hi hil NQ;have b0:=BA.cell 0 (v:=.int .i64 d.r) rfl;have b1:=BA.cell 1 (v:=.int .i64 d.d) rfl;have b2:=BA.cell 2 (v:=.int .i64 d.t) rfl;have b3:=BA.cell 3 (v:=.int .i64 d.n) rfl;have b4:=BA.cell 4 (v:=.slice (some A1) hs.length cap) rfl;have hF3:=hF w3 hb
 go_enter Tryz.func24,Tryz.ntmps24
 go_upto_region 1 with fail;rw [hw3.out];clear hw3 hF;go_wp2_with fail;refine hF3.mono ?_;rintro _ w4 ⟨rfl,hb1⟩;replace BA:=BA.call hb1;replace BR:=BR.call hb1;replace hb:=ah hb hb1;have hY4:=hY w4 hb;clear hF3 hb1 hY b0 b1 b2 b3 b4;go_wp2_with fail;refine hY4.mono ?_;rintro _ w5 ⟨rfl,hb1⟩;replace BA:=BA.call hb1;replace BR:=BR.call hb1;replace hb:=ah hb hb1;clear hY4 hb1;go_upto_region 3 with fail;have hS:RS.dG (KH (w.heap.size+1) 70 ((hs.length+1)*3) []) (zl 70 3 (w.heap.size+1) (hs.length+1) ((qK key d hs c lv).flatMap dS)):=rE (by rw[jR (f:=dS) (size:=3) (fun _=>rfl),rX]);have hBl:w.heap.size+1<=w5.heap.size:=Nat.le_of_lt BR.lt;have hW:∀w2,KW (w.heap.size+1) ((hs.length+1)*3) [] d (hs.length+1) ((qK key d hs c lv).flatMap dS) w5 w2->Below w.heap.size w w2:=fun w2 h=>hb.trans (h.bl.mono (by omega))
 have DV:∀w2,KW (w.heap.size+1) ((hs.length+1)*3) [] d (hs.length+1) ((qK key d hs c lv).flatMap dS) w5 w2->Bx w2 w.heap.size 32 #[.int .i64 d.r,.int .i64 d.d,.int .i64 d.t,.int .i64 d.n,.slice (some A1) hs.length cap]:=fun w2 h=>BA.below h.bl (Nat.lt_succ_self _)
 have hbR:∀w2,KW (w.heap.size+1) ((hs.length+1)*3) [] d (hs.length+1) ((qK key d hs c lv).flatMap dS) w5 w2->∃c8:Array Value,c8.size=5/\Bx w2 (w.heap.size+1) 32 c8:=fun w2 h=>by
  obtain⟨c8,h1,h2,-⟩:=h.kr _ _ (Nat.le_refl _) rfl BR;exact ⟨c8,h1,h2⟩
 refine RS.au (IL (w.heap.size+1) ((hs.length+1)*3) [] d (hs.length+1) ((qK key d hs c lv).flatMap dS) hS) [] [RS.ak (.string ⟨key.toArray⟩),RS.ak (.agg #[.int .i64 d.r,.int .i64 d.d,.int .i64 d.t,.int .i64 d.n,.slice (some A1) hs.length cap]),RS.ak (.int .i64 c),RS.ak (.slice K 8 kc),RS.ak (.agg #[.int .i64 d.r,.int .i64 d.d,.int .i64 d.t,.int .i64 d.n,.slice (some A1) hs.length cap]),RS.ak (.int .i64 lv),TuW (w.heap.size+1) d (hs.length+1) ((qK key d hs c lv).flatMap dS),WQ (w.heap.size+1) d (hs.length+1) ((qK key d hs c lv).flatMap dS),RS.ak (.int .i64 0),BoW (w.heap.size+1) d (hs.length+1) ((qK key d hs c lv).flatMap dS),RS.ak (.int .i64 0)] 11 28 (by kernel_rfl) rfl rfl (by kernel_rfl) (by kernel_rfl) ?_ ?_ ?_
 · simp only[RS.aY]
   and_intros <;> first|exact RS.aB _|exact D9 hS|exact xq hS|exact Oy hS|trivial
 · simp only[RS.aS,List.take,List.length];refine ⟨?_,?_,?_,?_,?_,?_,?_,?_,?_,?_,?_,trivial⟩;all_goals (intro vs w2 hb2 hd;simp only[RS.aJ,Act.put,List.nil_append,List.cons_append,List.setIfInBounds_toArray,List.set_cons_succ,List.set_cons_zero,Nat.reduceAdd])
   · clear hd DV hbR BA BR hb hC qo;go_wp2;first|exact⟨KW.rf _ _ _ _ _ _ _,rfl⟩|exact⟨KW.rf _ _ _ _ _ _ _,by simp[RS.ak]⟩|exact KW.rf _ _ _ _ _ _ _|rfl|(simp [RS.ak])
   · have x0:=(DV w2 hb2).cell 0 rfl;have x1:=(DV w2 hb2).cell 1 rfl;have x2:=(DV w2 hb2).cell 2 rfl;have x3:=(DV w2 hb2).cell 3 rfl;have x4:=(DV w2 hb2).cell 4 rfl;clear hd DV hbR BA BR hb hC qo;go_wp2;first|exact⟨KW.rf _ _ _ _ _ _ _,rfl⟩|exact⟨KW.rf _ _ _ _ _ _ _,by simp[RS.ak]⟩|exact KW.rf _ _ _ _ _ _ _|rfl|(simp [RS.ak])
   · clear hd DV hbR BA BR hb hC qo;go_wp2;first|exact⟨KW.rf _ _ _ _ _ _ _,rfl⟩|exact⟨KW.rf _ _ _ _ _ _ _,by simp[RS.ak]⟩|exact KW.rf _ _ _ _ _ _ _|rfl|(simp [RS.ak])
   · clear hd DV hbR BA BR hb hC qo;go_wp2;first|exact⟨KW.rf _ _ _ _ _ _ _,rfl⟩|exact⟨KW.rf _ _ _ _ _ _ _,by simp[RS.ak]⟩|exact KW.rf _ _ _ _ _ _ _|rfl|(simp [RS.ak])
   · have x0:=(DV w2 hb2).cell 0 rfl;have x1:=(DV w2 hb2).cell 1 rfl;have x2:=(DV w2 hb2).cell 2 rfl;have x3:=(DV w2 hb2).cell 3 rfl;have x4:=(DV w2 hb2).cell 4 rfl;clear hd DV hbR BA BR hb hC qo;go_wp2;first|exact⟨KW.rf _ _ _ _ _ _ _,rfl⟩|exact⟨KW.rf _ _ _ _ _ _ _,by simp[RS.ak]⟩|exact KW.rf _ _ _ _ _ _ _|rfl|(simp [RS.ak])
   · have e3:vs 3=_:=hd 3 rfl;have e4:vs 4=_:=hd 4 rfl;have AP:=qo w2 (hW w2 hb2);clear hd DV hbR BA BR hb hC qo;rw [e3,e4];go_wp2_with fail;refine AP.mono ?_;rintro _ w9 ⟨rfl,aX⟩;clear AP;have hK9:=hb2.call hBl aX;go_wp2;first|exact⟨hK9,rfl⟩|exact hK9|rfl
   · have e0:vs 0=_:=hd 0 rfl;have e1:vs 1=_:=hd 1 rfl;have e2:vs 2=_:=hd 2 rfl;have e5:vs 5=_:=hd 5 rfl;have AP:=hC w2 (hW w2 hb2);have Uh:w.heap.size+1<=w2.heap.size:=Nat.le_trans (Nat.le_of_lt BR.lt) hb2.size;clear hd BA BR hb hC qo;rw [e0,e1,e2,e5];go_wp2_with fail;refine AP.mono ?_;rintro _ w9 ⟨⟨A9,c9,rfl,Q8⟩,aX⟩;clear AP;have hK9:=hb2.call (hBl) aX;have Gm:TuW (w.heap.size+1) d (hs.length+1) ((qK key d hs c lv).flatMap dS) undef (.tuple #[.agg (eP d (.slice A9 (hs.length+1) c9)),.int .i64 0]) w9:=⟨_,rfl,Yv (Q8.mono Uh)⟩
     unfold eP at Gm
     clear Q8 aX;go_wp2;first|exact⟨hK9,Gm⟩|exact Gm
   · obtain⟨v9,e6,wL⟩:=hd 6 rfl;change vs 6=_ at e6;obtain ⟨A9,c9,e8⟩:=aI.shp wL;subst e8;have JW:WQ (w.heap.size+1) d (hs.length+1) ((qK key d hs c lv).flatMap dS) undef (.agg (eP d (.slice A9 (hs.length+1) c9))) w2:=⟨_,rfl,wL⟩
     unfold eP at JW e6
     clear hd wL BA BR hb hC qo;rw [e6];go_wp2;first|exact⟨KW.rf _ _ _ _ _ _ _,JW⟩|exact JW
   · obtain⟨v9,e6,wL⟩:=hd 6 rfl;change vs 6=_ at e6
     unfold eP at e6
     clear hd wL BA BR hb hC qo;rw [e6];go_wp2;first|exact⟨KW.rf _ _ _ _ _ _ _,rfl⟩|exact KW.rf _ _ _ _ _ _ _|rfl
   · obtain⟨v9,e7,wL⟩:=hd 7 rfl;change vs 7=_ at e7;obtain ⟨c8,hc8,wO⟩:=hbR w2 hb2;have hK9:=KW.put (B:=(w.heap.size+1)) (pos:=(hs.length+1)*3) (news:=[]) (d:=d) hS (Nat.le_refl _) wO hc8 v9 wL (.pointer (some ⟨w.heap.size+1,0,none⟩)) rfl undef
     obtain⟨x0,x1,x2,x3,x4,rfl⟩:∃x0 x1 x2 x3 x4,c8=#[x0,x1,x2,x3,x4]:=by
      rcases c8 with ⟨l8⟩
      match l8,hc8 with
      | [x0,x1,x2,x3,x4],_=>exact⟨x0,x1,x2,x3,x4,rfl⟩
     obtain⟨b0,b1,b2,b3,b4⟩:=wO.p5;have f0:=fun i=>wO.frozen i
     obtain⟨A9,c9,e8⟩:=aI.shp wL;subst e8
     unfold eP at e7
     obtain⟨hK8,XF⟩:=hK9;have hS7:=aaf XF
     unfold ku at hK8 hS7
     clear XF hd hb2 wL wO hbR BA BR hb hC qo;rw [e7];clear e7;go_wp2;first|exact⟨hK8,hS7⟩|exact hS7
   · have e8:vs 8=_:=hd 8 rfl;clear hd DV hbR BA BR hb hC qo;rw [e8];go_wp2;first|exact⟨KW.rf _ _ _ _ _ _ _,rfl⟩|exact⟨KW.rf _ _ _ _ _ _ _,by simp[RS.ak]⟩|exact KW.rf _ _ _ _ _ _ _|rfl|(simp [RS.ak])
 · intro vs wa hba hR2;simp only[RS.bP,RS.ak]at hR2;obtain ⟨-,-,-,-,-,-,-,-,-,⟨cF,BF,vF,rfl,hRF⟩,e10,-⟩:=hR2;simp only[List.drop,List.take,List.map,RS.aJ,Act.put,List.setIfInBounds_toArray,List.set_cons_succ,List.set_cons_zero,Nat.reduceAdd];change vs 10=_ at e10;rw [e10];have hbf:=hW wa hba
   rcases (show aI 70 3 (w.heap.size+1) (hs.length+1) ((qK key d hs c lv).flatMap dS) vF wa from hRF) with ⟨-,h0,-⟩|⟨cap',⟨g,cells,rfl,hg,nH,XH,hs9,hf9⟩,zI⟩
   · omega
   have hM:eY d (qK key d hs c lv) w.heap.size (.slice (some ⟨g,0,none⟩) (hs.length+1) cap') wa:=by unfold eY;rw[rX];exact .inr ⟨cap',⟨g,cells,rfl,by omega,nH,XH,hs9,hf9⟩,zI⟩
   unfold eP at BF
   clear hba DV hbR hS qo hC hW BA BR hb hRF e10;go_wp2;exact bodyPost_ret (uG rfl _ _ rfl rfl BF) rfl ⟨⟨_,_,rfl,hM⟩,hbf⟩
namespace Sh
def pk (c n:Int):Int:=(if c<0 then -(c+1) else c) % n
theorem kK (c:Int) {n:Int} (h:0<n):0<=pk c n/\pk c n<n:=⟨Int.emod_nonneg _ (by omega),Int.emod_lt_of_pos _ h⟩
theorem O8 {c n:Int} (hc:0<=c):pk c n=c % n:=by unfold pk;rw[if_neg (by omega)]
theorem O9 {c n:Int} (hc:c<0):pk c n=(-(c+1)) % n:=by unfold pk;rw[if_pos hc]
end Sh
def y8 (x:Int):Prop:= -9223372036854775808<=x/\x<=9223372036854775807
theorem fV (c n:Int) (h0:0<n) (h:y8 c) (w:World) :
 aT 21 #[.int .i64 c,.int .i64 n] w (.int .i64 (Sh.pk c n)):=by
 obtain⟨h1,h2⟩:=h;have hb:=bH w;by_cases hc:c<0
 · have hm:0<= -(c+1):=by omega
   go_enter Tryz.func21,Tryz.ntmps21
   go_wp2;go_ret;refine ⟨bQ ?_,hb⟩;rw [Sh.O9 hc,←Int.neg_tmod];exact Int.tmod_eq_emod_of_nonneg hm
 · have hm:0<=c:=by omega
   go_enter Tryz.func21,Tryz.ntmps21
   go_wp2;go_ret;exact ⟨bQ (Sh.O8 hm).symm,hb⟩
theorem Iz (x0 x1 x2 x3:Int) (w:World) (h0:y8 x0) (h1:y8 x1) (h2:y8 x2) (h3:y8 x3) :
 aT 23 #[.agg #[.int .i64 x0,.int .i64 x1,.int .i64 x2,.int .i64 x3]] w (.agg #[.int .i64 (Sh.pk x0 100),.int .i64 (Sh.pk x1 100),.int .i64 (Sh.pk x2 1000),.int .i64 (Sh.pk x3 100)]):=by
 have hb:=fP w (.cells #[.int .i64 x0,.int .i64 x1,.int .i64 x2,.int .i64 x3] 22);have BA:=Bx.mk w 22 #[.int .i64 x0,.int .i64 x1,.int .i64 x2,.int .i64 x3];have hbn:=fP (w.alloc (.cells #[.int .i64 x0,.int .i64 x1,.int .i64 x2,.int .i64 x3] 22)) (.cells #[.int .i64 0,.int .i64 0,.int .i64 0,.int .i64 0] 29);have BR:=Bx.mk (w.alloc (.cells #[.int .i64 x0,.int .i64 x1,.int .i64 x2,.int .i64 x3] 22)) 29 #[.int .i64 0,.int .i64 0,.int .i64 0,.int .i64 0];replace BA:=BA.call hbn;replace hb:=ah hb hbn;rw [World.size_alloc]at BR;obtain ⟨w3,hw3⟩:∃w3,Kp ((w.alloc (.cells #[.int .i64 x0,.int .i64 x1,.int .i64 x2,.int .i64 x3] 22)).alloc (.cells #[.int .i64 0,.int .i64 0,.int .i64 0,.int .i64 0] 29)=w3):=⟨_,⟨rfl⟩⟩
 rw[hw3.out]at BA BR hb;clear hbn
 go_enter Tryz.func23,Tryz.ntmps23
 go_wp2_with fail;rw [hw3.out];clear hw3;refine RS.au (RS.gu (w3.heap.size) 4 #[] #[]) [] [RS.ak (.pointer (some ⟨w.heap.size,0,none⟩)),RS.ak (.int .i64 x0),RS.ak (.int .i64 (Sh.pk x0 100)),RS.ak (.pointer (some ⟨w.heap.size,1,none⟩)),RS.ak (.int .i64 x1),RS.ak (.int .i64 (Sh.pk x1 100)),RS.ak (.pointer (some ⟨w.heap.size,2,none⟩)),RS.ak (.int .i64 x2),RS.ak (.int .i64 (Sh.pk x2 1000)),RS.ak (.pointer (some ⟨w.heap.size,3,none⟩)),RS.ak (.int .i64 x3),RS.ak (.int .i64 (Sh.pk x3 100)),RS.ak (.agg #[.int .i64 (Sh.pk x0 100),.int .i64 (Sh.pk x1 100),.int .i64 (Sh.pk x2 1000),.int .i64 (Sh.pk x3 100)])] 13 16 (by kernel_rfl) rfl rfl (by kernel_rfl) (by kernel_rfl) ?_ ?_ ?_
 · simp only[RS.aY]
   and_intros <;> first|exact RS.aB _|trivial
 · simp only[RS.aS,List.take,List.length];refine ⟨?_,?_,?_,?_,?_,?_,?_,?_,?_,?_,?_,?_,?_,trivial⟩;all_goals (intro vs w2 hb2 hd;simp only[RS.aJ,Act.put,List.nil_append,List.cons_append,List.setIfInBounds_toArray,List.set_cons_succ,List.set_cons_zero,Nat.reduceAdd];clear BR hb)
   · clear hd;go_wp2;exact aQ
   · have e0:vs 0=_:=hd 0 rfl;have q0:=(BA.call hb2.bl).cell 0 (v:=.int .i64 x0) rfl;clear hd;rw [e0];go_wp2;exact aQ
   · have e0:vs 1=_:=hd 1 rfl;have hC:=fV x0 100 (by decide) h0 w2;clear hd;rw [e0];go_wp2_with fail;refine hC.mono ?_;rintro _ w9 ⟨rfl,aX⟩;clear hC;have hK9:=hb2.call (Nat.le_refl _) aX;go_wp2;first|exact⟨hK9,rfl⟩|exact hK9|rfl
   · clear hd;go_wp2;exact aQ
   · have e0:vs 3=_:=hd 3 rfl;have q0:=(BA.call hb2.bl).cell 1 (v:=.int .i64 x1) rfl;clear hd;rw [e0];go_wp2;exact aQ
   · have e0:vs 4=_:=hd 4 rfl;have hC:=fV x1 100 (by decide) h1 w2;clear hd;rw [e0];go_wp2_with fail;refine hC.mono ?_;rintro _ w9 ⟨rfl,aX⟩;clear hC;have hK9:=hb2.call (Nat.le_refl _) aX;go_wp2;first|exact⟨hK9,rfl⟩|exact hK9|rfl
   · clear hd;go_wp2;exact aQ
   · have e0:vs 6=_:=hd 6 rfl;have q0:=(BA.call hb2.bl).cell 2 (v:=.int .i64 x2) rfl;clear hd;rw [e0];go_wp2;exact aQ
   · have e0:vs 7=_:=hd 7 rfl;have hC:=fV x2 1000 (by decide) h2 w2;clear hd;rw [e0];go_wp2_with fail;refine hC.mono ?_;rintro _ w9 ⟨rfl,aX⟩;clear hC;have hK9:=hb2.call (Nat.le_refl _) aX;go_wp2;first|exact⟨hK9,rfl⟩|exact hK9|rfl
   · clear hd;go_wp2;exact aQ
   · have e0:vs 9=_:=hd 9 rfl;have q0:=(BA.call hb2.bl).cell 3 (v:=.int .i64 x3) rfl;clear hd;rw [e0];go_wp2;exact aQ
   · have e0:vs 10=_:=hd 10 rfl;have hC:=fV x3 100 (by decide) h3 w2;clear hd;rw [e0];go_wp2_with fail;refine hC.mono ?_;rintro _ w9 ⟨rfl,aX⟩;clear hC;have hK9:=hb2.call (Nat.le_refl _) aX;go_wp2;first|exact⟨hK9,rfl⟩|exact hK9|rfl
   · have e0:vs 2=_:=hd 2 rfl;have e1:vs 5=_:=hd 5 rfl;have e2:vs 8=_:=hd 8 rfl;have e3:vs 11=_:=hd 11 rfl;clear hd;rw [e0,e1,e2,e3];go_wp2;exact aQ
 · intro vs wa hba hR2;simp only[RS.bP,RS.ak]at hR2;obtain ⟨e0,e1,e2,e3,e4,e5,e6,e7,e8,e9,e10,e11,e12,-⟩:=hR2;simp only[List.drop,List.take,List.map,RS.aJ,Act.put,List.setIfInBounds_toArray,List.set_cons_succ,List.set_cons_zero,Nat.reduceAdd];rw [e0,e1,e2,e3,e4,e5,e6,e7,e8,e9,e10,e11,e12];clear e0 e1 e2 e3 e4 e5 e6 e7 e8 e9 e10 e11 e12;replace BR:=BR.call hba.bl;replace hb:=ah hb hba.bl;have f0:=fun i=>BR.frozen i
   have b0:=BR.cell 0 (v:=.int .i64 0) rfl;have b1:=BR.cell 1 (v:=.int .i64 0) rfl;have b2:=BR.cell 2 (v:=.int .i64 0) rfl;have b3:=BR.cell 3 (v:=.int .i64 0) rfl;have BN:=(((BR.set 0 (.int .i64 (Sh.pk x0 100))).set 1 (.int .i64 (Sh.pk x1 100))).set 2 (.int .i64 (Sh.pk x2 1000))).set 3 (.int .i64 (Sh.pk x3 100));have hbf:=(((hb.setCell (p:=⟨w.heap.size+1,0,none⟩) (Nat.le_succ _) (.int .i64 (Sh.pk x0 100))).setCell (p:=⟨w.heap.size+1,1,none⟩) (Nat.le_succ _) (.int .i64 (Sh.pk x1 100))).setCell (p:=⟨w.heap.size+1,2,none⟩) (Nat.le_succ _) (.int .i64 (Sh.pk x2 1000))).setCell (p:=⟨w.heap.size+1,3,none⟩) (Nat.le_succ _) (.int .i64 (Sh.pk x3 100));clear hba BA BR hb h0 h1 h2 h3;go_wp2;exact bodyPost_ret (G6 rfl _ _ rfl BN) rfl ⟨rfl,hbf⟩
structure lY where
 (a b c e lv k0 k1 k2 k3 k4 k5 k6 k7:Int)
 cs:List Int
def Gi (x:lY) (v:Value):Array Value:=#[.int .i64 x.a,.int .i64 x.b,.int .i64 x.c,.int .i64 x.e,.int .i64 x.lv,v,.int .i64 x.k0,.int .i64 x.k1,.int .i64 x.k2,.int .i64 x.k3,.int .i64 x.k4,.int .i64 x.k5,.int .i64 x.k6,.int .i64 x.k7]
def lY.ks (x:lY):List Int:=[x.k0,x.k1,x.k2,x.k3,x.k4,x.k5,x.k6,x.k7]
structure KJ (x:lY):Prop where
 ka:y8 x.a
 kb:y8 x.b
 kc:y8 x.c
 ke:y8 x.e
 kl:y8 x.lv
 kk:∀y∈x.ks,y8 y
 kcs:∀y∈x.cs,y8 y
def lY.EM (x:lY):List Nat:=x.ks.map fun y=>(Sh.pk y 256).toNat
def vV (n:Nat):List Value:=[.int .i64 (n:Int)]
theorem mP:Tryz.prog.underlying 23=some (.slice 3):=by kernel_rfl
theorem Xp:∃i,Tryz.prog.info? 3=some i/\i.zero=some (.int .i64 0)/\i.size=1/\i.bytes=8:=by
 have h:(Tryz.prog.info? 3).map (fun i=>(i.zero,i.size,i.bytes))=some (some (.int .i64 0),1,8):=by kernel_rfl
 exact info_parts h
theorem PG {w:World} {g:Nat} {n:Nat} (h:Bx w g 3 #[.int .i64 (n:Int)]):Src Tryz.prog 1 23 (.slice (some ⟨g,0,none⟩) 1 1) 1 (vV n) w :=
 dP.src (P:=Tryz.prog) (size:=1) (B:=0) (cap:=1) (e:=3) (t:=23) (fun u hu=>by simp only[vV,List.mem_cons,List.not_mem_nil,or_false]at hu;subst hu;rfl) mP ⟨g,_,rfl,Nat.zero_le _,Nat.le_refl _,h,rfl,rfl⟩
theorem EN (x:lY) (v:Value) (hv:∃A n c,v=.slice A n c) (w:World) (hx:KJ x) :
 Calls Tryz.prog 13 #[.agg (Gi x v)] w fun e w'=>(∃u,e=.returned u/\aI 3 1 w.heap.size 8 (x.EM.flatMap vV) u w')/\Below w.heap.size w w':=by
 obtain⟨bi,hbi,hbz,hbs,hbb⟩:=Xp;obtain ⟨vA,vn,vc,rfl⟩:=hv;have hkk:=hx.kk;have hb:=fP w (.cells (Gi x (.slice vA vn vc)) 26);have BA:=Bx.mk w 26 (Gi x (.slice vA vn vc))
 have hcell:∀(k:Nat) (y:Int),x.ks[k]? = some y->(Gi x (.slice vA vn vc))[6+k]? = some (.int .i64 y):=fun k y h=>by
  match k,h with
  | 0,h=>cases h;rfl
  | 1,h=>cases h;rfl
  | 2,h=>cases h;rfl
  | 3,h=>cases h;rfl
  | 4,h=>cases h;rfl
  | 5,h=>cases h;rfl
  | 6,h=>cases h;rfl
  | 7,h=>cases h;rfl
  | n+8,h=>cases h
 have hc2:∀wr,Below (w.alloc (.cells (Gi x (.slice vA vn vc)) 26)).heap.size (w.alloc (.cells (Gi x (.slice vA vn vc)) 26)) wr->∀(k:Nat) (y:Int),x.ks[k]? = some y->wr.cell? ⟨w.heap.size,6+k,none⟩=some (.int .i64 y):=fun wr h k y hy=>(BA.call h).cell (6+k) (hcell k y hy)
 have hkl:x.ks.length=8:=rfl;have hkn:∀k y,x.ks[k]? = some y->x.EM[k]? = some (Sh.pk y 256).toNat:=fun k y h=>by rw[lY.EM,List.getElem?_map,h];rfl
 have hk9:x.EM.length=8:=rfl;obtain ⟨W0,hW0⟩:∃W0,Kp (w.alloc (.cells (Gi x (.slice vA vn vc)) 26)=W0):=⟨_,⟨rfl⟩⟩
 rw[hW0.out]at hb hc2;have hlt0:w.heap.size<=W0.heap.size:=hb.size;generalize x.ks=ks at *;generalize x.EM=EM at *;have hr0:aI 3 1 W0.heap.size 0 ((EM.take 0).flatMap vV) (.slice none 0 0) W0:=.inl ⟨rfl,rfl,rfl⟩
 unfold Gi at hW0 ⊢
 clear BA hcell hx
 go_enter Tryz.func13,Tryz.ntmps13
 go_wp2_with fail;rw [hW0.out];clear hW0
 go_loopw [3,4] (fun s3 s4 wr=>∃k:Nat,k<=8/\s4=.int .i64 k/\aI 3 1 W0.heap.size k ((EM.take k).flatMap vV) s3 wr/\Below W0.heap.size W0 wr) (fun s3 s4 _=>8-(intOf s4).toNat)
 case atStart=>exact⟨0,by omega,rfl,hr0,Below.refl _ _⟩
 case round =>
  clear hr0;obtain ⟨k,hk,rfl,hrow,hbr⟩:=hrel;obtain ⟨v3,hv3⟩:∃v,v=u3:=⟨_,rfl⟩
  rw[←hv3]at hrow ⊢;clear hv3;by_cases hlt:k<8
  · obtain⟨y,hy⟩:∃y,ks[k]? = some y:=⟨_,List.getElem?_eq_getElem (by omega)⟩
    have c0:=hc2 wr hbr k y hy;have hy64:=hkk y (List.mem_of_getElem? hy);have hgk:=hkn k y hy;have hC:=fV y 256 (by decide) hy64 wr;have hpp:=Sh.kK y (n:=256) (by decide);obtain ⟨q,hq⟩:∃q:Nat,Sh.pk y 256=(q:Int):=Int.eq_ofNat_of_zero_le hpp.1
    rw[hq]at hC hgk;rw [Int.toNat_natCast]at hgk;have hnx:Kp ((EM.take k).flatMap vV++vV q=(EM.take (k+1)).flatMap vV):=⟨by rw[List.take_add_one,hgk,List.flatMap_append];simp⟩
    clear hkk hkn hc2 hy hgk hpp hq;generalize (EM.take k).flatMap vV=F at *;go_wp2_with fail;refine hC.mono ?_;rintro _ w5 ⟨rfl,hb5⟩;replace hrow:=aU _ _ _ _ _ _ _ _ hrow hb5;replace hbr:=ah hbr hb5;clear hC hb5 c0;have hbn:=fP w5 (.cells #[.int .i64 (q:Int)] 3);have hs1:=PG (Bx.mk w5 3 #[.int .i64 (q:Int)]);have Qw:=Kp.mk (aU _ _ _ _ _ _ _ _ hrow hbn);have hbw:=ah hbr hbn;have hzn:=hbw.size;have uy:=Kp.mk hbw;clear hbn hbw hrow hbr
    go_wp2_with (at_builtin;refine aG rfl (.tmp 9) (.tmp 15) 23 3 rfl bi (.int .i64 0) 1 W0.heap.size k 1 F (vV q) v3 (.slice (some ⟨w5.heap.size,0,none⟩) 1 1) mP hbi hbz hbs rfl rfl rfl Qw.out hzn hs1 (by decide) (by unfold maxLen;omega) (by rw[hbb];omega) ?_)
    intro v7 w7 hb7 bV;rw [hnx.out]at bV;replace hb7:=uy.out.trans hb7;clear Qw hs1 hzn uy hnx;go_wp2;exact ⟨⟨k+1,by omega,by go_num,bV,hb7⟩,by simp[intOf];omega⟩
  · have hk8:k=8:=by omega
    rw[List.take_of_length_le (by omega),hk8]at hrow;clear hk8 hkk hkn hc2;go_wp2;go_ret;exact ⟨⟨_,rfl,hrow.mono hlt0⟩,ah hb hbr⟩
theorem r_ (c:Nat):(key1 c).length=32:=by simp[key1]
theorem Vz (c:Nat):key1 c≠[]:=fun h=>by have:=r_ c;rw[h]at this;cases this
theorem iE:keysA.length=8:=by simp[keysA]
theorem xZ {c:Nat} (h:c<8):keysA[c]? = some (key1 c):=by simp[keysA,h]
theorem EL {set c:Nat} (h:c<8):(fF keysA set).getD c []=if set / 2 ^ c % 2=1 then key1 c else []:=by
 rw[List.getD_eq_getElem?_getD,CQ (xZ h)];rfl
theorem CS (set:Nat):∀k∈fF keysA set,uh k:=fun k hk=>by
 obtain⟨i,hi⟩:=List.getElem?_of_mem hk;have hl:=(List.getElem?_eq_some_iff.1 hi).1;rw [CP,iE]at hl;rw [CQ (xZ hl)]at hi;cases hi
 split
 · exact .inl (r_ i)
 · exact .inr rfl
theorem lH (set:Nat):(fF keysA set).length=8:=by rw[CP,iE]
def uU (d:Sh.Dl) (hs:List Sh.Hn) (i:Nat) (h:Sh.Hn):Prop:=h.s=Sh.sg (key1 h.c.toNat) (Sh.cont d i h.c h.l (bf hs i))
theorem xw {set:Nat} {d:Sh.Dl} {hs:List Sh.Hn} {i:Nat} {h:Sh.Hn} (hc:0<=h.c/\h.c<=7) (hs9:uU d hs i h):Jv (fF keysA set) d hs i h=decide (set / 2 ^ h.c.toNat % 2=1):=by
 unfold Jv
 rw[EL (show h.c.toNat<8 by omega)];by_cases hb:set / 2 ^ h.c.toNat % 2=1
 · rw[if_pos hb,decide_eq_true hb,bne_iff_ne.2 (Vz _),Bool.true_and,beq_iff_eq];exact hs9
 · rw[if_neg hb,decide_eq_false hb];rfl
structure Jh (d:Sh.Dl) (kn:List Nat) (hs:List Sh.Hn):Prop where
 fm:lZ d hs
 sl:∀(i:Nat) (h:Sh.Hn),hs[i]? = some h->uU d hs i h
 lv:∀(i:Nat) (g h:Sh.Hn),hs[i]? = some g->hs[i+1]? = some h->h.l=if kn.getD h.c.toNat 0 / 2 ^ g.c.toNat % 2=1 then g.l else min g.l 1
theorem Rw {d:Sh.Dl} {c l:Int} {s:List UInt8} (hr:0<=d.r/\d.r<=99999999) (hd:0<=d.d/\d.d<=99999999) (ht:0<=d.t/\d.t<=10000000) (hn:0<=d.n/\d.n<=1000000) (hc:0<=c/\c<=7) (hl:0<=l/\l<=3) (hs:s.length=32):lZ d [(⟨c,l,s⟩:Sh.Hn)] :=
 ⟨hr,hd,ht,hn,⟨Nat.le_refl _,Nat.le_add_left 1 7⟩,(fun i h hi=>by
  match i,hi with
  | 0,hi=>cases hi;exact⟨hc,hl,hs⟩
  | n+1,hi=>cases hi),(fun i g h hg hh=>by cases hh)⟩
theorem J3 {d:Sh.Dl} {hs:List Sh.Hn} {i:Nat} {g:Sh.Hn} {c l:Int} {s:List UInt8} (hf:lZ d hs) (hi:hs[i]? = some g) (hil:hs.length=i+1) (h7:hs.length<=7) (hc:0<=c/\c<=7) (hne:c≠g.c) (hl:0<=l/\l<=g.l) (hs9:s.length=32):lZ d (hs++[(⟨c,l,s⟩:Sh.Hn)]) :=
 ⟨hf.kr,hf.kd,hf.kt,hf.kn,⟨by simp,by simp;omega⟩,(fun k h hk=>by
  rcases Nat.lt_trichotomy k hs.length with h1|h1|h1
  · rw[List.getElem?_append_left h1]at hk;exact hf.hand k h hk
  · subst h1;rw [List.getElem?_append_right (Nat.le_refl _),Nat.sub_self]at hk;cases hk
    exact⟨hc,⟨hl.1,by have:=((hf.hand i g hi).2.1).2;show l<=3;omega⟩,hs9⟩
  · rw[List.getElem?_eq_none (by simp;omega)]at hk
    cases hk),
  (fun k a b ha hb=>by
   rcases Nat.lt_trichotomy (k+1) hs.length with h1|h1|h1
   · rw[List.getElem?_append_left (by omega)]at ha;rw [List.getElem?_append_left h1]at hb;exact hf.next k a b ha hb
   · rw[List.getElem?_append_left (by omega)]at ha;rw [List.getElem?_append_right (by omega),h1,Nat.sub_self]at hb;cases hb
     obtain rfl:k=i:=by omega
     obtain rfl:=Option.some.inj (ha.symm.trans hi);exact ⟨hne,hl.2⟩
   · rw[List.getElem?_eq_none (by simp;omega)]at hb
     cases hb)⟩
theorem xA {d:Sh.Dl} {hs r:List Sh.Hn} {i:Nat} {h:Sh.Hn} (hi:i<=hs.length):uU d (hs++r) i h↔uU d hs i h:=by
 unfold uU;rw[I4 hs r i hi]
theorem zero32:(List.replicate 32 (0:UInt8)).length=32:=by simp
theorem L6 {d:Sh.Dl} {kn:List Nat} {c l:Int} (hr:0<=d.r/\d.r<=99999999) (hd:0<=d.d/\d.d<=99999999) (ht:0<=d.t/\d.t<=10000000) (hn:0<=d.n/\d.n<=1000000) (hc:0<=c/\c<=7) (hl:0<=l/\l<=3) :
 lZ d [(⟨c,l,List.replicate 32 0⟩:Sh.Hn)]/\Jh d kn (qK (key1 c.toNat) d [] c l) :=
 ⟨Rw hr hd ht hn hc hl zero32,Rw hr hd ht hn hc hl (Sh.GL _ _),(fun i h hi=>by
  match i,hi with
  | 0,hi=>cases hi;rfl
  | n+1,hi=>cases hi),(fun i g h hg hh=>by cases hh)⟩
theorem H6 {set:Nat} {d:Sh.Dl} {hs:List Sh.Hn} {i:Nat} {h:Sh.Hn} (hc:0<=h.c/\h.c<=7) (hs9:uU d hs i h):DR (fF keysA set) d hs i h=if set / 2 ^ h.c.toNat % 2=1 then h.l else min h.l 1:=by
 unfold DR
 rw[xw hc hs9];by_cases hb:set / 2 ^ h.c.toNat % 2=1
 · rw[decide_eq_true hb,if_pos rfl,if_pos hb]
 · rw[decide_eq_false hb,if_neg hb];rfl
theorem P9 {d:Sh.Dl} {kn:List Nat} {hs:List Sh.Hn} {i:Nat} {g:Sh.Hn} {c:Int} (hm:Jh d kn hs) (hi:hs[i]? = some g) (hil:hs.length=i+1) (h7:hs.length<=7) (hc:0<=c/\c<=7) (hne:c≠g.c) :
 lZ d (hs++[(⟨c,DR (fF keysA (kn.getD c.toNat 0)) d hs i g,List.replicate 32 0⟩:Sh.Hn)])/\Jh d kn (qK (key1 c.toNat) d hs c (DR (fF keysA (kn.getD c.toNat 0)) d hs i g)):=by
 have hl:=H6 (set:=kn.getD c.toNat 0) (hm.fm.hand i g hi).1 (hm.sl i g hi);have hg:=(hm.fm.hand i g hi).2.1;generalize DR (fF keysA (kn.getD c.toNat 0)) d hs i g=l at *
 have hlb:0<=l/\l<=g.l:=by
  rw[hl]
  split <;> omega
 refine⟨J3 hm.fm hi hil h7 hc hne hlb zero32,J3 hm.fm hi hil h7 hc hne hlb (Sh.GL _ _),fun k h hk=>?_,fun k a b ha hb=>?_⟩
 · unfold qK at hk ⊢
   rcases Nat.lt_trichotomy k hs.length with h1|h1|h1
   · rw[List.getElem?_append_left h1]at hk;exact (xA (by omega)).2 (hm.sl k h hk)
   · subst h1;rw [List.getElem?_append_right (Nat.le_refl _),Nat.sub_self]at hk;cases hk
     exact (xA (Nat.le_refl _)).2 rfl
   · rw[List.getElem?_eq_none (by simp;omega)]at hk;cases hk
 · unfold qK at ha hb
   rcases Nat.lt_trichotomy (k+1) hs.length with h1|h1|h1
   · rw[List.getElem?_append_left (by omega)]at ha;rw [List.getElem?_append_left h1]at hb;exact hm.lv k a b ha hb
   · rw[List.getElem?_append_left (by omega)]at ha;rw [List.getElem?_append_right (by omega),h1,Nat.sub_self]at hb;cases hb
     obtain rfl:k=i:=by omega
     obtain rfl:=Option.some.inj (ha.symm.trans hi);exact hl
   · rw[List.getElem?_eq_none (by simp;omega)]at hb;cases hb
end Go.Proofs.YtohgjenaclfegaaGreatDoor

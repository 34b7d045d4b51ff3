import Derived.Test.YtohgjenaclfegaaGreatDoorQF04
import Derived.Laws.Cover3
set_option linter.unusedVariables false
set_option linter.unusedSimpArgs false
set_option maxRecDepth 100000
set_option maxHeartbeats 8000000
namespace Go.Proofs.YtohgjenaclfegaaGreatDoor
open Go.RowKit Go.Shelf
structure FX (ms:List pY) (os:List (Option Rat)):Prop where
 Oh:∀(A:Option Addr) (cap:Nat) (w:World) (ra rb:List UInt8) (code:Int),At 10 GH w w.heap.size A ms->(∀m∈ms,qh w w.heap.size m)->ms.length<=cap->ms.length<=9223372036854775807->Env w->OB (ji os) ra rb code ->
  aT 60 #[.slice A ms.length cap] w (.tuple #[.agg #[.string ⟨ra.toArray⟩,.string ⟨rb.toArray⟩],.int .i64 code])
theorem FX.all {ms:List pY} (qs:List Rat) (hlen:qs.length=ms.length) (hm:1<=ms.length/\ms.length<=10) (hB:∀(i:Nat) (h:i<ms.length),BdP 16 ms[i] ((qs.map some)[i]'(by rw[List.length_map];omega))):FX ms (qs.map some) :=
 ⟨fun A cap w ra rb code h1 h2 h3 h4 h5 ho=>by
  have hlen':(qs.map some).length=ms.length:=by rw[List.length_map];exact hlen
  have hw:Tp.within (ms.length:Int) 1 10=true:=Tp.within_iff.2 ⟨by omega,by omega⟩;rw [jw]at ho
  unfold Tf.Oh at ho
  rw[if_pos ⟨by omega,by omega⟩,hlen]at ho
  cases hc:comb (List.replicate ms.length (Tf.jd qs)) with
  | none =>
   rw[hc]at ho;cases ho
   exact zC ms _ A cap w hlen' hB h1 h2 h3 h4 h5 hw qs rfl hc
  | some r =>
   rw[hc]at ho
   cases ho with
   | good hu lq=>exact zD ms _ A cap w hlen' hB h1 h2 h3 h4 h5 hw qs rfl r _ _ hc lq⟩
structure Us (w:World) (A:Option Addr) (cap:Nat) (ms:List pY):Prop where
 at_:At 10 GH w w.heap.size A ms
 each:∀m∈ms,qh w w.heap.size m
 cap:ms.length<=cap
 len:ms.length<=9223372036854775807
theorem Us.call {w w':World} {A:Option Addr} {cap:Nat} {ms:List pY} (h:Us w A cap ms) (hb:Below w.heap.size w w'):Us w' A cap ms:=⟨h.at_.call hb,fun m hm=>(h.each m hm).call hb,h.cap,h.len⟩
def BoQ (g:Nat) (a b:List UInt8):RS.Rl:=fun _ _ w=>Bx w g 77 #[.string ⟨a.toArray⟩,.string ⟨b.toArray⟩]
theorem Eb (B g:Nat) (a b:List UInt8) (h:B<=g):RS.dG (RS.KF B 77 #[.string ⟨a.toArray⟩,.string ⟨b.toArray⟩]) (BoQ g a b):=fun x v w w' hB hK=>by
 rcases hK.2.2 g _ h hB rfl with h|h <;> exact h
theorem sU (ms:List pY) (os:List (Option Rat)) (A:Option Addr) (cap:Nat) (number:Int) (w:World) (hL:FX ms os) (hA:Us w A cap ms) (hE:Env w) (ra rb:List UInt8) (code:Int) (ho:OB (ji os) ra rb code) :
 aT 104 #[.slice A ms.length cap,.int .i64 number] w (.tuple #[.agg #[.string ⟨ra.toArray⟩,.string ⟨rb.toArray⟩],.bool ((ji os).isSome&&TK ms number)]):=by
 have hb:=bNew (aA w (.cells #[.int .i64 number] 3)) (.cells #[.string ⟨#[]⟩,.string ⟨#[]⟩] 77);have N:=(Bx.mk w 3 #[.int .i64 number]).new (.cells #[.string ⟨#[]⟩,.string ⟨#[]⟩] 77);have Q:=Bx.mk (w.alloc (.cells #[.int .i64 number] 3)) 77 #[.string ⟨#[]⟩,.string ⟨#[]⟩];rw [aj]at Q;have hA1:=hA.call hb;have hT:=hL.Oh A cap _ ra rb code hA1.at_ hA1.each hA.cap hA.len (hE.below hb) ho
 have kP:(code=0/\Kp (((ji os).isSome&&TK ms number)=TK ms number))∨((code==0)=false/\Kp (((ji os).isSome&&TK ms number)=false)):=by
  generalize ji os=o at *
  cases ho with
  | good hu lq=>exact .inl ⟨rfl,⟨by simp⟩⟩
  | bad=>exact .inr ⟨rfl,⟨by simp⟩⟩
 generalize ((ji os).isSome&&TK ms number)=res at *
 rcases kP with ⟨rfl,hd⟩|⟨h0,hd⟩
 · go_enter Tryz.func104,Tryz.ntmps104
   go_wp2_with fail;refine hT.mono ?_;rintro _ w1 ⟨rfl,hb1⟩;clear hT;replace N:=(N.call hb1).new (.cells #[.string ⟨ra.toArray⟩,.string ⟨rb.toArray⟩] 77);replace Q:=(Q.call hb1).new (.cells #[.string ⟨ra.toArray⟩,.string ⟨rb.toArray⟩] 77);have Z:=Bx.mk w1 77 #[.string ⟨ra.toArray⟩,.string ⟨rb.toArray⟩];replace hb:=bNew (ah hb hb1) (.cells #[.string ⟨ra.toArray⟩,.string ⟨rb.toArray⟩] 77)
   have hgz:w.heap.size+1<=w1.heap.size:=by
    have h1:=hb1.size;simp only[aj,World.size_alloc]at h1;omega
   clear hA1 hb1;go_upto_region 3 with fail;generalize w1.alloc (.cells #[.string ⟨ra.toArray⟩,.string ⟨rb.toArray⟩] 77)=W0 at *;generalize w1.heap.size=gz at *;have hgq:=Q.lt;have kC:=fun W (h:Below (w.heap.size+1) W0 W)=>OH ms A cap w.heap.size number W ((hA.at_.below (hb.trans (h.mono (by omega)))).more (Nat.le_trans hb.size (by have:=h.size;exact this))) hA.cap hA.len (N.below h (by omega))
   have hab:Kp (TK ms number= !(ms.any fun m=> !(m.s.n==number))):=⟨rfl⟩
   generalize (ms.any fun m=> !(m.s.n==number))=t at *;refine RS.au (RS.uS (w.heap.size+1) 77 #[.string ⟨ra.toArray⟩,.string ⟨rb.toArray⟩]) [] [RS.ak (.agg #[.string ⟨ra.toArray⟩,.string ⟨rb.toArray⟩]),RS.ak (.int .i64 0),RS.ak (.bool true),RS.ak (.bool true),RS.ak (.slice A ms.length cap),RS.ak (.func (.func 165) #[] #[.pointer (some ⟨w.heap.size,0,none⟩)]),RS.ak (.bool t),RS.ak (.bool (!t)),RS.ak (.bool (!t)),BoQ (w.heap.size+1) ra rb,RS.ak (.bool (!t))] 11 24 (by kernel_rfl) rfl rfl (by kernel_rfl) (by kernel_rfl) ?_ ?_ ?_
   · simp only[RS.aY]
     and_intros <;> first|exact RS.aB _|exact Eb _ _ _ _ (Nat.le_refl _)|trivial
   · simp only[RS.aS,List.take,List.length];refine ⟨?_,?_,?_,?_,?_,?_,?_,?_,?_,?_,?_,trivial⟩;all_goals (intro vs w2 hb2 hd;simp only[RS.aJ,Act.put,List.nil_append,List.cons_append,List.setIfInBounds_toArray,List.set_cons_succ,List.set_cons_zero,Nat.reduceAdd];clear hA hL)
     · have Z2:Bx w2 gz 77 #[.string ⟨ra.toArray⟩,.string ⟨rb.toArray⟩]:=by rcases hb2.2.2 gz _ hgz Z rfl with h|h <;> exact h
       have z0:=Z2.cell 0 rfl;have z1:=Z2.cell 1 rfl;clear hd;go_wp2;first|exact⟨RS.KF.rf _ _ _ _,rfl⟩|exact⟨RS.KF.rf _ _ _ _,by simp[RS.ak]⟩|(simp [RS.ak])
     · clear hd;go_wp2;first|exact⟨RS.KF.rf _ _ _ _,rfl⟩|exact⟨RS.KF.rf _ _ _ _,by simp[RS.ak]⟩|(simp [RS.ak])
     · have e0:vs 1=_:=hd 1 rfl;clear hd;rw[e0];go_wp2;first|exact⟨RS.KF.rf _ _ _ _,rfl⟩|exact⟨RS.KF.rf _ _ _ _,by simp[RS.ak]⟩|(simp [RS.ak])
     · have e0:vs 2=_:=hd 2 rfl;clear hd;rw[e0];go_wp2;first|exact⟨RS.KF.rf _ _ _ _,rfl⟩|exact⟨RS.KF.rf _ _ _ _,by simp[RS.ak]⟩|(simp [RS.ak])
     · have e0:vs 3=_:=hd 3 rfl;clear hd;rw[e0];go_wp2;first|exact⟨RS.KF.rf _ _ _ _,rfl⟩|exact⟨RS.KF.rf _ _ _ _,by simp[RS.ak]⟩|(simp [RS.ak])
     · have e0:vs 3=_:=hd 3 rfl;clear hd;rw[e0];go_wp2;first|exact⟨RS.KF.rf _ _ _ _,rfl⟩|exact⟨RS.KF.rf _ _ _ _,by simp[RS.ak]⟩|(simp [RS.ak])
     · have e0:vs 3=_:=hd 3 rfl;have e1:vs 4=_:=hd 4 rfl;have e2:vs 5=_:=hd 5 rfl;have hC:=kC w2 hb2.1;clear hd;rw[e0,e1,e2];go_wp2_with fail;refine hC.mono ?_;rintro _ w9 ⟨rfl,aX⟩;clear hC;go_wp2;first|exact⟨hb2.call (by omega) aX,rfl⟩|exact hb2.call (by omega) aX
     · have e0:vs 3=_:=hd 3 rfl;have e1:vs 6=_:=hd 6 rfl;clear hd;rw[e0,e1];go_wp2;first|exact⟨RS.KF.rf _ _ _ _,rfl⟩|exact⟨RS.KF.rf _ _ _ _,by simp[RS.ak]⟩|(simp [RS.ak])
     · have e0:vs 3=_:=hd 3 rfl;have e1:vs 7=_:=hd 7 rfl;clear hd;rw[e0,e1];go_wp2;first|exact⟨RS.KF.rf _ _ _ _,rfl⟩|exact⟨RS.KF.rf _ _ _ _,by simp[RS.ak]⟩|(simp [RS.ak])
     · have e0:vs 0=_:=hd 0 rfl;obtain⟨Q2,hQ2⟩:∃c:Array Value,Bx w2 (w.heap.size+1) 77 c/\c.size=2:=by
        rcases hb2.2.2 _ _ (Nat.le_refl _) Q rfl with h|h
        · exact⟨_,h,rfl⟩
        · exact⟨_,h,rfl⟩
       obtain⟨hQ2,hs2⟩:=hQ2;obtain ⟨a',b',rfl⟩:=RS.zX hs2;have q0:=hQ2.cell 0 rfl;have q1:=hQ2.cell 1 rfl;have q2:=hQ2.frozen 0;have q3:=hQ2.frozen 1;obtain ⟨hK,-⟩:=RS.KF.store2 (x:=.string ⟨ra.toArray⟩) (y:=.string ⟨rb.toArray⟩) (Nat.le_refl _) hQ2 (.pointer (some ⟨w.heap.size+1,0,none⟩)) rfl undef;have hBQ:BoQ (w.heap.size+1) ra rb undef undef _:=(hQ2.set 0 (.string ⟨ra.toArray⟩)).set 1 (.string ⟨rb.toArray⟩);clear hd;rw[e0];go_wp2;first|exact⟨hK,hBQ⟩|exact hBQ
     · have e0:vs 8=_:=hd 8 rfl;clear hd;rw[e0];go_wp2;first|exact⟨RS.KF.rf _ _ _ _,rfl⟩|exact⟨RS.KF.rf _ _ _ _,by simp[RS.ak]⟩|(simp [RS.ak])
   · intro vs wa hba hR2;simp only[RS.bP,RS.ak]at hR2;obtain ⟨e0,e1,e2,e3,e4,e5,e6,e7,e8,e9,e10,-⟩:=hR2;simp only[List.drop,List.take,List.map,RS.aJ,Act.put,List.setIfInBounds_toArray,List.set_cons_succ,List.set_cons_zero,Nat.reduceAdd];rw [e0,e1,e2,e3,e4,e5,e6,e7,e8,e10];have B9:Bx wa (w.heap.size+1) 77 #[.string ⟨ra.toArray⟩,.string ⟨rb.toArray⟩]:=e9;have aX:=hb.trans (hba.1.mono (Nat.le_succ _));clear e0 e1 e2 e3 e4 e5 e6 e7 e8 e9 e10;go_wp2;obtain rfl:=hd.out.trans hab.out;exact bodyPost_ret (bG rfl _ _ rfl rfl B9) rfl ⟨rfl,aX⟩
 · go_enter Tryz.func104,Tryz.ntmps104
   go_wp2_with fail;refine hT.mono ?_;rintro _ w1 ⟨rfl,hb1⟩;clear hT;replace N:=(N.call hb1).new (.cells #[.string ⟨ra.toArray⟩,.string ⟨rb.toArray⟩] 77);replace Q:=(Q.call hb1).new (.cells #[.string ⟨ra.toArray⟩,.string ⟨rb.toArray⟩] 77);have Z:=Bx.mk w1 77 #[.string ⟨ra.toArray⟩,.string ⟨rb.toArray⟩];replace hb:=bNew (ah hb hb1) (.cells #[.string ⟨ra.toArray⟩,.string ⟨rb.toArray⟩] 77)
   have hgz:w.heap.size+1<=w1.heap.size:=by
    have h1:=hb1.size;simp only[aj,World.size_alloc]at h1;omega
   clear hA1 hb1;go_upto_region 3 with fail;generalize w1.alloc (.cells #[.string ⟨ra.toArray⟩,.string ⟨rb.toArray⟩] 77)=W0 at *;generalize w1.heap.size=gz at *;have hgq:=Q.lt;refine RS.au (RS.uS (w.heap.size+1) 77 #[.string ⟨ra.toArray⟩,.string ⟨rb.toArray⟩]) [] [RS.ak (.agg #[.string ⟨ra.toArray⟩,.string ⟨rb.toArray⟩]),RS.ak (.int .i64 code),RS.ak (.bool false),RS.ak (.bool false),RS.ak undef,RS.ak undef,RS.ak undef,RS.ak undef,RS.ak (.bool false),BoQ (w.heap.size+1) ra rb,RS.ak (.bool false)] 11 24 (by kernel_rfl) rfl rfl (by kernel_rfl) (by kernel_rfl) ?_ ?_ ?_
   · simp only[RS.aY]
     and_intros <;> first|exact RS.aB _|exact Eb _ _ _ _ (Nat.le_refl _)|trivial
   · simp only[RS.aS,List.take,List.length];refine ⟨?_,?_,?_,?_,?_,?_,?_,?_,?_,?_,?_,trivial⟩;all_goals (intro vs w2 hb2 hd;simp only[RS.aJ,Act.put,List.nil_append,List.cons_append,List.setIfInBounds_toArray,List.set_cons_succ,List.set_cons_zero,Nat.reduceAdd];clear hA hL)
     · have Z2:Bx w2 gz 77 #[.string ⟨ra.toArray⟩,.string ⟨rb.toArray⟩]:=by rcases hb2.2.2 gz _ hgz Z rfl with h|h <;> exact h
       have z0:=Z2.cell 0 rfl;have z1:=Z2.cell 1 rfl;clear hd;go_wp2;first|exact⟨RS.KF.rf _ _ _ _,rfl⟩|exact⟨RS.KF.rf _ _ _ _,by simp[RS.ak]⟩|(simp [RS.ak])
     · clear hd;go_wp2;first|exact⟨RS.KF.rf _ _ _ _,rfl⟩|exact⟨RS.KF.rf _ _ _ _,by simp[RS.ak]⟩|(simp [RS.ak])
     · have e0:vs 1=_:=hd 1 rfl;clear hd;rw[e0];go_wp2;first|exact⟨RS.KF.rf _ _ _ _,rfl⟩|exact⟨RS.KF.rf _ _ _ _,by simp[RS.ak]⟩|(simp [RS.ak])
     · have e0:vs 2=_:=hd 2 rfl;clear hd;rw[e0];go_wp2;first|exact⟨RS.KF.rf _ _ _ _,rfl⟩|exact⟨RS.KF.rf _ _ _ _,by simp[RS.ak]⟩|(simp [RS.ak])
     · have e0:vs 3=_:=hd 3 rfl;clear hd;rw[e0];go_wp2;first|exact⟨RS.KF.rf _ _ _ _,rfl⟩|exact⟨RS.KF.rf _ _ _ _,by simp[RS.ak]⟩|(simp [RS.ak])
     · have e0:vs 3=_:=hd 3 rfl;clear hd;rw[e0];go_wp2;first|exact⟨RS.KF.rf _ _ _ _,rfl⟩|exact⟨RS.KF.rf _ _ _ _,by simp[RS.ak]⟩|(simp [RS.ak])
     · have e0:vs 3=_:=hd 3 rfl;clear hd;rw[e0];go_wp2;first|exact⟨RS.KF.rf _ _ _ _,rfl⟩|exact⟨RS.KF.rf _ _ _ _,by simp[RS.ak]⟩|(simp [RS.ak])
     · have e0:vs 3=_:=hd 3 rfl;clear hd;rw[e0];go_wp2;first|exact⟨RS.KF.rf _ _ _ _,rfl⟩|exact⟨RS.KF.rf _ _ _ _,by simp[RS.ak]⟩|(simp [RS.ak])
     · have e0:vs 3=_:=hd 3 rfl;clear hd;rw[e0];go_wp2;first|exact⟨RS.KF.rf _ _ _ _,rfl⟩|exact⟨RS.KF.rf _ _ _ _,by simp[RS.ak]⟩|(simp [RS.ak])
     · have e0:vs 0=_:=hd 0 rfl;obtain⟨Q2,hQ2⟩:∃c:Array Value,Bx w2 (w.heap.size+1) 77 c/\c.size=2:=by
        rcases hb2.2.2 _ _ (Nat.le_refl _) Q rfl with h|h
        · exact⟨_,h,rfl⟩
        · exact⟨_,h,rfl⟩
       obtain⟨hQ2,hs2⟩:=hQ2;obtain ⟨a',b',rfl⟩:=RS.zX hs2;have q0:=hQ2.cell 0 rfl;have q1:=hQ2.cell 1 rfl;have q2:=hQ2.frozen 0;have q3:=hQ2.frozen 1;obtain ⟨hK,-⟩:=RS.KF.store2 (x:=.string ⟨ra.toArray⟩) (y:=.string ⟨rb.toArray⟩) (Nat.le_refl _) hQ2 (.pointer (some ⟨w.heap.size+1,0,none⟩)) rfl undef;have hBQ:BoQ (w.heap.size+1) ra rb undef undef _:=(hQ2.set 0 (.string ⟨ra.toArray⟩)).set 1 (.string ⟨rb.toArray⟩);clear hd;rw[e0];go_wp2;first|exact⟨hK,hBQ⟩|exact hBQ
     · have e0:vs 8=_:=hd 8 rfl;clear hd;rw[e0];go_wp2;first|exact⟨RS.KF.rf _ _ _ _,rfl⟩|exact⟨RS.KF.rf _ _ _ _,by simp[RS.ak]⟩|(simp [RS.ak])
   · intro vs wa hba hR2;simp only[RS.bP,RS.ak]at hR2;obtain ⟨e0,e1,e2,e3,e4,e5,e6,e7,e8,e9,e10,-⟩:=hR2;simp only[List.drop,List.take,List.map,RS.aJ,Act.put,List.setIfInBounds_toArray,List.set_cons_succ,List.set_cons_zero,Nat.reduceAdd];rw [e0,e1,e2,e3,e4,e5,e6,e7,e8,e10];have B9:Bx wa (w.heap.size+1) 77 #[.string ⟨ra.toArray⟩,.string ⟨rb.toArray⟩]:=e9;have aX:=hb.trans (hba.1.mono (Nat.le_succ _));clear e0 e1 e2 e3 e4 e5 e6 e7 e8 e9 e10;go_wp2;obtain rfl:=hd.out;exact bodyPost_ret (bG rfl _ _ rfl rfl B9) rfl ⟨rfl,aX⟩
theorem Xv:∃i z,Tryz.prog.info? 141=some i/\i.zero=some z/\i.size=6/\z.cells.size=6/\i.bytes=64:=by
 have h:(Tryz.prog.info? 141).map (fun i=>(i.size,i.bytes,i.zero.map (·.cells.size)))=some (6,64,some 6):=by kernel_rfl
 cases hi:Tryz.prog.info? 141 with
 | none=>rw[hi]at h;cases h
 | some i =>
  rw[hi]at h;simp only[Option.map_some,Option.some.injEq,Prod.mk.injEq]at h;obtain ⟨h1,h2,h3⟩:=h
  cases hz:i.zero with
  | none=>rw[hz]at h3;cases h3
  | some z=>rw[hz]at h3;exact⟨i,z,rfl,hz,h1,by simpa using h3,h2⟩
theorem JQ (c:Tf.Ho):∀u∈j_ c,u.oneCell'=true:=fun u hu=>by
 simp only[j_,List.mem_cons,List.not_mem_nil,or_false]at hu
 rcases hu with rfl|rfl|rfl|rfl|rfl|rfl <;> rfl
theorem run_eql_slice_nil {P:Program} (w:World) (t e:TypeId) (a:Option Addr) (l c:Nat) (h:P.underlying t=some (.slice e)):(binOp .eql t (.slice a l c) (.slice none 0 0)).run P w=.ok (.bool a.isNone) w:=by
 simp only[binOp];simp [run_equal_slice_nil w t e a l c h]
theorem clone_any (l:List Tf.Ho) (A:Option Addr) (cap:Nat) (w:World) (hA:At 6 j_ w w.heap.size A l) (hn:l.length<=cap) (hl:l.length<=1000000) :
 Calls Tryz.prog 105 #[.slice A l.length cap] w fun e w'=>(∃v,e=.returned v/\aI 141 6 w.heap.size l.length (l.flatMap j_) v w')/\Below w.heap.size w w':=by
 obtain⟨ti,tz,hi,hzz,hs1,hz1,hby⟩:=Xv
 cases A with
 | none =>
  have h0:l.length=0:=by
   rcases Nat.eq_zero_or_pos l.length with h|h
   · exact h
   · obtain⟨b,off,e,-⟩:=hA h;cases e
  obtain rfl:=List.eq_nil_of_length_eq_zero h0;have hq:=run_eql_slice_nil (P:=Tryz.prog) w 144 141 none 0 cap Tryz.underlying144;simp only[Option.isNone_none,Option.isNone_some]at hq;clear hA
  go_enter Tryz.func105,Tryz.ntmps105
  go_wp2;go_ret;exact ⟨⟨_,rfl,.inl ⟨rfl,rfl,rfl⟩⟩,bH w⟩
 | some a =>
  have hb:=aA w (.cells #[] 141);have hsrc:=At.src (P:=Tryz.prog) (e:=141) (t:=144) (f:=j_) (fun _=>rfl) JQ Tryz.underlying144 ((hA.below hb).more hb.size) cap;have hrow:dP 141 6 w.heap.size 0 0 [] (.slice (some ⟨w.heap.size,0,none⟩) 0 0) (w.alloc (.cells #[] 141)):=⟨_,_,rfl,Nat.le_refl _,Nat.le_refl _,Bx.mk _ _ _,rfl,rfl⟩
  have fin:∀v' w' cap',Below w.heap.size (w.alloc (.cells #[] 141)) w'->dP 141 6 w.heap.size cap' (0+l.length) ([]++l.flatMap j_) v' w'->cap'<=maxLen->aI 141 6 w.heap.size l.length (l.flatMap j_) v' w'/\Below w.heap.size w w':=fun v' w' cap' h1 h2 h3=>by
   rw[Nat.zero_add,List.nil_append]at h2;exact ⟨.inr ⟨cap',h2,h3⟩,hb.trans h1⟩
  have hsz:=hb.size;have hq:=run_eql_slice_nil (P:=Tryz.prog) w 144 141 (some a) l.length cap Tryz.underlying144;simp only[Option.isNone_none,Option.isNone_some]at hq;clear hA
  go_enter Tryz.func105,Tryz.ntmps105
  go_wp2_with (at_builtin;refine iH rfl (.tmp 5) (.tmp 6) 144 141 rfl ti tz 6 w.heap.size 0 0 l.length [] (l.flatMap j_) _ _ Tryz.underlying144 hi hzz hs1 hz1 rfl rfl hrow hsz hsrc (by unfold maxLen;omega) (by unfold maxLen;omega) (by rw[hby];omega) ?_;intro v' w' cap' e1 e2 e3 e4;obtain⟨f1,f2⟩:=fin _ _ _ e1 e3 e4)
  go_ret;exact ⟨⟨_,rfl,f1⟩,f2⟩
theorem vM (c e lo re pay n f v d:Int) (b1 b2:List UInt8) (ms:List pY) (os:List (Option Rat)) (A:Option Addr) (cap:Nat) (w:World) (h1:b1.length<=9223372036854775807) (h2:b2.length<=9223372036854775807) (hL:FX ms os) (hA:Us w A cap ms) (hE:Env w) (ra rb:List UInt8) (code:Int) (ho:OB (ji os) ra rb code) :
 Calls Tryz.prog 64 #[.agg #[.int .i64 c,.int .i64 e,.int .i64 lo,.int .i64 re,.int .i64 pay],.agg #[.int .i64 n,.int .i64 f,.string ⟨b1.toArray⟩,.string ⟨b2.toArray⟩,.int .i64 v,.int .i64 d],.slice A ms.length cap] w
  fun e' w'=>e'=.returned (.bool ((ji os).isSome&&TK ms n&&Gh c e lo re pay&&yF c e ⟨n,f,(b1,b2),v,d⟩&&(decide (b1=ra)&&decide (b2=rb))))/\Below w.heap.size w w':=by
 have B:=(Bx.mk w 135 #[.int .i64 c,.int .i64 e,.int .i64 lo,.int .i64 re,.int .i64 pay]).new (.cells #[.int .i64 n,.int .i64 f,.string ⟨b1.toArray⟩,.string ⟨b2.toArray⟩,.int .i64 v,.int .i64 d] 141);have H:=Bx.mk (w.alloc (.cells #[.int .i64 c,.int .i64 e,.int .i64 lo,.int .i64 re,.int .i64 pay] 135)) 141 #[.int .i64 n,.int .i64 f,.string ⟨b1.toArray⟩,.string ⟨b2.toArray⟩,.int .i64 v,.int .i64 d];rw [aj]at H;have hb:=bNew (aA w (.cells #[.int .i64 c,.int .i64 e,.int .i64 lo,.int .i64 re,.int .i64 pay] 135)) (.cells #[.int .i64 n,.int .i64 f,.string ⟨b1.toArray⟩,.string ⟨b2.toArray⟩,.int .i64 v,.int .i64 d] 141);have hV:=sU ms os A cap n _ hL (hA.call hb) (hE.below hb) ra rb code ho;have hR:=fun w0=>nC c e lo re pay w0
 have hF:=fun w0 hch hE0=>mO c e lo re pay n f v d b1 b2 w0 hch h1 h2 hE0
 have Xt:Gh c e lo re pay=true->Ku c e=true:=GR;generalize ((ji os).isSome&&TK ms n)=t1 at *;generalize Gh c e lo re pay=t2 at *;generalize yF c e ⟨n,f,(b1,b2),v,d⟩=t3 at *;clear hL hA ho;have h0:=H.cell 0 rfl;have hres:∃r,r=(t1&&t2&&t3&&(decide (b1=ra)&&decide (b2=rb))):=⟨_,rfl⟩
 obtain⟨r,hr⟩:=hres;rw [←hr];replace hr:=Kp.mk hr
 go_enter Tryz.func64,Tryz.ntmps64
 go_wp2_with fail;refine hV.mono ?_;rintro _ w1 ⟨rfl,hb1⟩;clear hV h0;replace B:=(B.call hb1).new (.cells #[.string ⟨ra.toArray⟩,.string ⟨rb.toArray⟩] 77);replace H:=(H.call hb1).new (.cells #[.string ⟨ra.toArray⟩,.string ⟨rb.toArray⟩] 77);have Z:=Bx.mk w1 77 #[.string ⟨ra.toArray⟩,.string ⟨rb.toArray⟩];replace hb:=bNew (ah hb hb1) (.cells #[.string ⟨ra.toArray⟩,.string ⟨rb.toArray⟩] 77);go_upto_region 2 with fail;generalize w1.alloc (.cells #[.string ⟨ra.toArray⟩,.string ⟨rb.toArray⟩] 77)=W0 at *;generalize w1.heap.size=gz at *
 cases t1 with
 | false =>
  obtain rfl:=hr.out;clear hF hR hb1;go_wp2;go_ret;exact ⟨by simp,hb⟩
 | true =>
  obtain⟨r0,r1,r2,r3,r4⟩:=B.p5
  cases t2 with
  | false =>
   obtain rfl:=hr.out;go_wp2_with fail;refine (hR _).mono ?_;rintro _ w2 ⟨rfl,hb2⟩;clear hF hR;go_wp2;go_ret;exact ⟨by simp,ah hb hb2⟩
  | true =>
   have hch:=Xt rfl;go_wp2_with fail;refine (hR _).mono ?_;rintro _ w2 ⟨rfl,hb2⟩;clear r0 r1 r2 r3 r4 hR;replace B:=B.call hb2;replace H:=H.call hb2;replace Z:=Z.call hb2;replace hb:=ah hb hb2;have hF1:=hF _ hch (hE.below hb);obtain ⟨r0,r1,r2,r3,r4⟩:=B.p5;obtain ⟨y0,y1,y2,y3,y4,y5⟩:=H.p6;clear hF Xt hb2
   cases t3 with
   | false =>
    obtain rfl:=hr.out;go_wp2_with fail;refine hF1.mono ?_;rintro _ w3 ⟨rfl,hb3⟩;clear hF1;go_wp2;go_ret;exact ⟨by simp,ah hb hb3⟩
   | true =>
    go_wp2_with fail;refine hF1.mono ?_;rintro _ w3 ⟨rfl,hb3⟩;clear hF1 r0 r1 r2 r3 r4 y0 y1 y2 y3 y4 y5;replace H:=H.call hb3;replace Z:=Z.call hb3;replace hb:=ah hb hb3;have y2:=H.cell 2 rfl;have y3:=H.cell 3 rfl;have z0:=Z.cell 0 rfl;have z1:=Z.cell 1 rfl;by_cases e1:b1=ra
    · by_cases e2:b2=rb
      · have hr2:r=true:=by rw[hr.out];simp[e1,e2]
        subst hr2;subst e1;subst e2;go_wp2;go_ret;exact ⟨by simp,hb⟩
      · have hr2:r=false:=by rw[hr.out];simp[e2]
        subst hr2;subst e1;clear hr;go_wp2;go_ret;exact ⟨by simp,hb⟩
    · have hr2:r=false:=by rw[hr.out];simp[e1]
      subst hr2;clear hr;go_wp2;go_ret;exact ⟨by simp,hb⟩
structure Yj (w:World) (A:Option Addr) (cap:Nat) (l:List Tf.Ho):Prop where
 at_:At 6 j_ w w.heap.size A l
 cap:l.length<=cap
 len:l.length<=9223372036854775807
 txt:∀h∈l,Yi h
theorem Yj.call {w w':World} {A:Option Addr} {cap:Nat} {l:List Tf.Ho} (h:Yj w A cap l) (hb:Below w.heap.size w w'):Yj w' A cap l:=⟨h.at_.call hb,h.cap,h.len,h.txt⟩
theorem Af {fn:Func} {t u s:Tmp} {g:Nat} {x0 x1 x2 x3 x4 x5 a b:Value} (h:fn.results=#[.cell t 141,.tmp u,.tmp s]) (tmps:Array Value) (w:World) (ht:tmps.getD t undef=.pointer (some ⟨g,0,none⟩)) (hu:tmps.getD u undef=a) (hs:tmps.getD s undef=b) (hB:Bx w g 141 #[x0,x1,x2,x3,x4,x5]) :
 (results fn tmps).run Tryz.prog w=.ok (.tuple #[.agg #[x0,x1,x2,x3,x4,x5],a,b]) w:=by
 obtain⟨h0,h1,h2,h3,h4,h5⟩:=hB.p6;have ht':tmps[t]?.getD undef=.pointer (some ⟨g,0,none⟩):=by simpa using ht
 have hu':tmps[u]?.getD undef=a:=by simpa using hu
 have hs':tmps[s]?.getD undef=b:=by simpa using hs
 simp only[results,h];simp [go_sem,ht',hu',hs',h0,h1,h2,h3,h4,h5,loadVar]
theorem Lp {e:TypeId} {size B B' n:Nat} {flat:List Value} {v:Value} {w:World} (h:aI e size B' n flat v w) (hB:B<=B'):aI e size B n flat v w:=by
 rcases h with h|⟨cap,⟨g,cells,h1,h2,h3⟩,hm⟩
 · exact .inl h
 · exact .inr ⟨cap,⟨g,cells,h1,Nat.le_trans hB h2,h3⟩,hm⟩
theorem YF {o:Option Rat} {ra rb:List UInt8} {code:Int} (h:OB o ra rb code):ra.length<=9223372036854775807/\rb.length<=9223372036854775807:=by
 cases h with
 | bad=>exact⟨by simp,by simp⟩
 | good hu lq =>
  have h1:=bJ hu.1.num;have h2:=bJ hu.1.den;rw [lq.out.1]at h1;rw [lq.out.2]at h2;exact ⟨by omega,by omega⟩
theorem yj (c e lo re pay:Int) (l:List Tf.Ho) (PA:Option Addr) (uI:Nat) (ms:List pY) (os:List (Option Rat)) (A:Option Addr) (cap:Nat) (number at_:Int) (w:World) (hL:FX ms os) (hA:Us w A cap ms) (hP:Yj w PA uI l) (hE:Env w) (ra rb:List UInt8) (code:Int) (ho:OB (ji os) ra rb code) (hok:((ji os).isSome&&TK ms number)=true) (hva:vS ⟨c,e,lo,re,pay⟩ l=true) (hat:Tp.within at_ 0 10000000=true) (res:Bool) (hv2:vS ⟨c,e,lo,re,pay⟩ (l++[(⟨number,at_,(ra,rb),0,0⟩:Tf.Ho)])=res) :
 aT 61 #[.agg #[.int .i64 c,.int .i64 e,.int .i64 lo,.int .i64 re,.int .i64 pay],.slice PA l.length uI,.slice A ms.length cap,.int .i64 number,.int .i64 at_] w (if res=true then .tuple #[.agg #[.int .i64 number,.int .i64 at_,.string ⟨ra.toArray⟩,.string ⟨rb.toArray⟩,.int .i64 0,.int .i64 0],.bool true,.int .i64 0] else .tuple #[.agg #[.int .i64 0,.int .i64 0,.string ⟨#[]⟩,.string ⟨#[]⟩,.int .i64 0,.int .i64 0],.bool false,.int .i64 0]):=by
 have B:=(Bx.mk w 135 #[.int .i64 c,.int .i64 e,.int .i64 lo,.int .i64 re,.int .i64 pay]).new (.cells #[.int .i64 0,.int .i64 0,.string ⟨#[]⟩,.string ⟨#[]⟩,.int .i64 0,.int .i64 0] 141);have Q:=Bx.mk (w.alloc (.cells #[.int .i64 c,.int .i64 e,.int .i64 lo,.int .i64 re,.int .i64 pay] 135)) 141 #[.int .i64 0,.int .i64 0,.string ⟨#[]⟩,.string ⟨#[]⟩,.int .i64 0,.int .i64 0];rw [aj]at Q;have hb:=bNew (aA w (.cells #[.int .i64 c,.int .i64 e,.int .i64 lo,.int .i64 re,.int .i64 pay] 135)) (.cells #[.int .i64 0,.int .i64 0,.string ⟨#[]⟩,.string ⟨#[]⟩,.int .i64 0,.int .i64 0] 141);have hV:=sU ms os A cap number _ hL (hA.call hb) (hE.below hb) ra rb code ho;rw [hok]at hV
 go_enter Tryz.func61,Tryz.ntmps61
 go_wp2_with fail;refine hV.mono ?_;rintro _ w1 ⟨rfl,hb1⟩;clear hV;replace B:=(B.call hb1).new (.cells #[.string ⟨ra.toArray⟩,.string ⟨rb.toArray⟩] 77);replace Q:=(Q.call hb1).new (.cells #[.string ⟨ra.toArray⟩,.string ⟨rb.toArray⟩] 77);have E:=Bx.mk w1 77 #[.string ⟨ra.toArray⟩,.string ⟨rb.toArray⟩];replace hb:=bNew (ah hb hb1) (.cells #[.string ⟨ra.toArray⟩,.string ⟨rb.toArray⟩] 77);go_upto_region 2 with fail;clear hb1;generalize w1.alloc (.cells #[.string ⟨ra.toArray⟩,.string ⟨rb.toArray⟩] 77)=W0 at *;generalize w1.heap.size=ge at *;obtain ⟨r0,r1,r2,r3,r4⟩:=B.p5;have hV:=wX c e lo re pay l PA uI W0 ((hP.at_.below hb).more hb.size) hP.cap hP.len hP.txt (hE.below hb);rw [hva]at hV;go_wp2_with fail;refine hV.mono ?_;rintro _ w2 ⟨rfl,hb2⟩;clear hV r0 r1 r2 r3 r4;replace B:=B.call hb2;replace Q:=Q.call hb2;replace E:=E.call hb2;replace hb:=ah hb hb2;clear hb2;have hW:=fun w0=>aO (bW at_ 0 10000000 w0)
 rw[hat]at hW;go_wp2_with fail;refine (hW _).mono ?_;rintro _ w3 ⟨rfl,hb3⟩;clear hW;replace B:=B.call hb3;replace Q:=Q.call hb3;replace E:=E.call hb3;replace hb:=ah hb hb3;clear hb3;have e0:=E.cell 0 rfl;have e1:=E.cell 1 rfl;go_upto_region 5 with fail;clear e0 e1;have hgz:w.heap.size+2<=w3.heap.size:=by have:=Q.lt;omega
 have Z:=Bx.mk w3 141 #[.int .i64 number,.int .i64 at_,.string ⟨ra.toArray⟩,.string ⟨rb.toArray⟩,.int .i64 0,.int .i64 0];replace B:=B.new (.cells #[.int .i64 number,.int .i64 at_,.string ⟨ra.toArray⟩,.string ⟨rb.toArray⟩,.int .i64 0,.int .i64 0] 141);replace Q:=Q.new (.cells #[.int .i64 number,.int .i64 at_,.string ⟨ra.toArray⟩,.string ⟨rb.toArray⟩,.int .i64 0,.int .i64 0] 141);replace hb:=bNew hb (.cells #[.int .i64 number,.int .i64 at_,.string ⟨ra.toArray⟩,.string ⟨rb.toArray⟩,.int .i64 0,.int .i64 0] 141);generalize w3.alloc (.cells #[.int .i64 number,.int .i64 at_,.string ⟨ra.toArray⟩,.string ⟨rb.toArray⟩,.int .i64 0,.int .i64 0] 141)=W5 at *;generalize w3.heap.size=gz at *;have Ud:w.heap.size+2<=W5.heap.size:=by have:=Z.lt;omega
 obtain⟨ti,tz,hi,hzz,hs1,hz1,hby⟩:=Xv;have hl20:l.length<=20:=(Jo.1 hva).2.len;have hfl:(l.flatMap j_).length=l.length*6:=jR (f:=j_) (size:=6) (fun _=>rfl) l;have hhl:Yi (⟨number,at_,(ra,rb),0,0⟩:Tf.Ho):=YF ho
 have hall:∀h∈l++[(⟨number,at_,(ra,rb),0,0⟩:Tf.Ho)],Yi h:=fun h hh=>by
  rcases List.mem_append.1 hh with hh|hh
  · exact hP.txt h hh
  · rw[List.mem_singleton.1 hh];exact hhl
 have AL:l.flatMap j_++j_ (⟨number,at_,(ra,rb),0,0⟩:Tf.Ho)=(l++[(⟨number,at_,(ra,rb),0,0⟩:Tf.Ho)]).flatMap j_:=by rw[List.flatMap_append,List.flatMap_singleton]
 have hlen:(l++[(⟨number,at_,(ra,rb),0,0⟩:Tf.Ho)]).length=l.length+1:=by simp
 have QY:∀w2,KH (w.heap.size+2) 141 (l.length*6) (j_ (⟨number,at_,(ra,rb),0,0⟩:Tf.Ho)) W5 w2->Bx w2 gz 141 #[.int .i64 number,.int .i64 at_,.string ⟨ra.toArray⟩,.string ⟨rb.toArray⟩,.int .i64 0,.int .i64 0]:=fun w2 h=>by
  obtain⟨g,e9,hg,XH⟩:=xk (B:=w.heap.size+2) (e:=141) (pos:=l.length*6) (m:=1) (news:=j_ (⟨number,at_,(ra,rb),0,0⟩:Tf.Ho)) (by rw[wJ];omega) undef (.slice (some ⟨gz,0,none⟩) 1 1) W5 w2 ⟨gz,rfl,hgz,Z⟩ h;cases e9
  exact XH
 have Ue:∀w2 A9 c9,KH (w.heap.size+2) 141 (l.length*6) (j_ (⟨number,at_,(ra,rb),0,0⟩:Tf.Ho)) W5 w2->At 6 j_ w2 w2.heap.size A9 (l++[(⟨number,at_,(ra,rb),0,0⟩:Tf.Ho)])->(l++[(⟨number,at_,(ra,rb),0,0⟩:Tf.Ho)]).length<=c9->aT 68 #[.agg #[.int .i64 c,.int .i64 e,.int .i64 lo,.int .i64 re,.int .i64 pay],.slice A9 (l.length+1) c9] w2 (.bool res):=fun w2 A9 c9 hK hAt hc9=>by
  have h:=wX c e lo re pay (l++[(⟨number,at_,(ra,rb),0,0⟩:Tf.Ho)]) A9 c9 w2 hAt hc9 (by rw[hlen];omega) hall (hE.below (hb.trans (hK.1.mono (by omega))));rw [hv2,hlen]at h;exact h
 have Uf:=hP;refine RS.au (IQ (w.heap.size+2) 141 (l.length*6) (j_ (⟨number,at_,(ra,rb),0,0⟩:Tf.Ho))) [] [RS.ak (.agg #[.int .i64 c,.int .i64 e,.int .i64 lo,.int .i64 re,.int .i64 pay]),RS.ak (.slice PA l.length uI),zl 141 6 (w.heap.size+2) l.length (l.flatMap j_),RS.ak (.agg #[.int .i64 number,.int .i64 at_,.string ⟨ra.toArray⟩,.string ⟨rb.toArray⟩,.int .i64 0,.int .i64 0]),SlN (w.heap.size+2) 141 1 (j_ (⟨number,at_,(ra,rb),0,0⟩:Tf.Ho)),zl 141 6 (w.heap.size+2) (l.length+1) (l.flatMap j_++j_ (⟨number,at_,(ra,rb),0,0⟩:Tf.Ho)),RS.ak (.bool res),RS.ak (.bool (!res))] 8 50 (by kernel_rfl) rfl rfl (by kernel_rfl) (by kernel_rfl) ?_ ?_ ?_
 · simp only[RS.aY]
   and_intros <;> first|exact RS.aB _|exact rE hfl|exact xk (by rw[wJ];omega)|exact zY (m:=1) hfl (by rw[wJ])|trivial
 · simp only[RS.aS,List.take,List.length];refine ⟨?_,?_,?_,?_,?_,?_,?_,?_,trivial⟩;all_goals (intro vs w2 hb2 hd;simp only[RS.aJ,Act.put,List.nil_append,List.cons_append,List.setIfInBounds_toArray,List.set_cons_succ,List.set_cons_zero,Nat.reduceAdd];clear E Q Z hA hE hL hP)
   · have B2:=B.below hb2.1 (by omega);obtain ⟨r0,r1,r2,r3,r4⟩:=B2.p5;clear hd Uf B hb QY Ue
     go_wp2;first|exact⟨KH.rf _ _ _ _ _,rfl⟩|exact⟨KH.rf _ _ _ _ _,by simp[RS.ak]⟩|exact KH.rf _ _ _ _ _|(simp [RS.ak])
   · clear hd Uf B hb QY Ue;go_wp2;first|exact⟨KH.rf _ _ _ _ _,rfl⟩|exact⟨KH.rf _ _ _ _ _,by simp[RS.ak]⟩|exact KH.rf _ _ _ _ _|(simp [RS.ak])
   · have e0:vs 1=_:=hd 1 rfl;have hC:=clone_any l PA uI w2 ((Uf.at_.below (hb.trans (hb2.1.mono (by omega)))).more (Nat.le_trans hb.size hb2.2.1)) Uf.cap (by omega);have hsz2:w.heap.size+2<=w2.heap.size:=Nat.le_trans Ud hb2.2.1;clear hd Uf B hb QY Ue;rw [e0];go_wp2_with fail;refine hC.mono ?_;rintro _ w9 ⟨⟨v9,rfl,CY⟩,aX⟩;clear hC;have wL:zl 141 6 (w.heap.size+2) l.length (l.flatMap j_) undef v9 w9:=Lp CY hsz2;have hK9:=hb2.call Ud aX;go_wp2;first|exact⟨hK9,wL⟩|exact wL
   · have Z2:=QY w2 hb2;obtain ⟨z0,z1,z2,z3,z4,z5⟩:=Z2.p6;clear hd Uf B hb QY Ue
     go_wp2;first|exact⟨KH.rf _ _ _ _ _,rfl⟩|exact⟨KH.rf _ _ _ _ _,by simp[RS.ak]⟩|exact KH.rf _ _ _ _ _|(simp [RS.ak])
   · have e0:vs 3=_:=hd 3 rfl;have hsz2:w.heap.size+2<=w2.heap.size:=Nat.le_trans Ud hb2.2.1;have hK9:=hb2.call Ud (aA w2 (.cells #[.int .i64 number,.int .i64 at_,.string ⟨ra.toArray⟩,.string ⟨rb.toArray⟩,.int .i64 0,.int .i64 0] 141));have qo:SlN (w.heap.size+2) 141 1 (j_ (⟨number,at_,(ra,rb),0,0⟩:Tf.Ho)) undef (.slice (some ⟨w2.heap.size,0,none⟩) 1 1) (w2.alloc (.cells #[.int .i64 number,.int .i64 at_,.string ⟨ra.toArray⟩,.string ⟨rb.toArray⟩,.int .i64 0,.int .i64 0] 141)):=⟨_,rfl,hsz2,Bx.mk _ _ _⟩
     clear hd Uf B hb QY Ue;rw [e0];go_wp2;first|exact⟨hK9,qo⟩|exact qo
   · have hrow:aI 141 6 (w.heap.size+2) l.length (l.flatMap j_) (vs 2) w2:=hd 2 rfl;obtain ⟨g4,e4,hg4,hB4⟩:=hd 4 rfl;change vs 4=_ at e4;have hsrc:=dP.src (P:=Tryz.prog) (B:=w.heap.size+2) (cap:=1) (e:=141) (size:=6) (t:=144) (JQ (⟨number,at_,(ra,rb),0,0⟩:Tf.Ho)) Tryz.underlying144 (show dP 141 6 (w.heap.size+2) 1 1 (j_ (⟨number,at_,(ra,rb),0,0⟩:Tf.Ho)) (vs 4) w2 from ⟨g4,_,e4,hg4,Nat.le_refl _,hB4,rfl,rfl⟩);have hsz2:w.heap.size+2<=w2.heap.size:=Nat.le_trans Ud hb2.2.1;clear hd Uf B hb QY Ue hb2;refine uz rfl (.tmp 42) (.tmp 44) 144 141 rfl ti tz 6 (w.heap.size+2) l.length 1 (l.flatMap j_) (j_ (⟨number,at_,(ra,rb),0,0⟩:Tf.Ho)) _ _ Tryz.underlying144 hi hzz hs1 hz1 rfl rfl hrow hsz2 hsrc (by omega) (by unfold maxLen;omega) (by rw[hby];omega) ?_;intro v' w' f1 f2;have f3:zl 141 6 (w.heap.size+2) (l.length+1) (l.flatMap j_++j_ (⟨number,at_,(ra,rb),0,0⟩:Tf.Ho)) undef v' w':=f2;exact ⟨rfl,rfl,f1,f3⟩
   · have e0:vs 0=_:=hd 0 rfl;have hrow:aI 141 6 (w.heap.size+2) (l.length+1) (l.flatMap j_++j_ (⟨number,at_,(ra,rb),0,0⟩:Tf.Ho)) (vs 5) w2:=hd 5 rfl;rw [AL,←hlen]at hrow;obtain ⟨A9,c9,e5,hAt,hc9,hcm⟩:=aI.at (f:=j_) (p:=l++[(⟨number,at_,(ra,rb),0,0⟩:Tf.Ho)]) (fun _=>rfl) hrow;have hC:=Ue w2 A9 c9 hb2 hAt hc9;rw [hlen]at e5;clear hd Uf B hb QY Ue hrow hAt;rw [e0,e5];go_wp2_with fail;refine hC.mono ?_;rintro _ w9 ⟨rfl,aX⟩;clear hC;have hK9:=hb2.call Ud aX;go_wp2;first|exact⟨hK9,rfl⟩|exact hK9|rfl
   · have e0:vs 6=_:=hd 6 rfl;clear hd Uf B hb QY Ue;rw[e0];go_wp2;first|exact⟨KH.rf _ _ _ _ _,rfl⟩|exact⟨KH.rf _ _ _ _ _,by simp[RS.ak]⟩|exact KH.rf _ _ _ _ _|(simp [RS.ak])
 · intro vs wa hba hR2;simp only[RS.bP,RS.ak]at hR2;obtain ⟨e0,e1,-,e3,-,-,e6,e7,-⟩:=hR2;simp only[List.drop,List.take,List.map,RS.aJ,Act.put,List.setIfInBounds_toArray,List.set_cons_succ,List.set_cons_zero,Nat.reduceAdd];rw [e7];replace Q:=Q.below hba.1 (by omega);replace Z:=QY wa hba;replace hb:=hb.trans (hba.1.mono (by omega));obtain ⟨z0,z1,z2,z3,z4,z5⟩:=Z.p6;clear e0 e1 e3 e6 e7 QY Ue hba;obtain ⟨qc0,qc1,qc2,qc3,qc4,qc5⟩:=Q.p6;have qf0:=fun i=>Q.frozen i
   cases res
   · go_wp2;exact bodyPost_ret (Af rfl _ _ rfl rfl rfl ((((((Q.set 0 (.int .i64 0)).set 1 (.int .i64 0)).set 2 (.string ⟨#[]⟩)).set 3 (.string ⟨#[]⟩)).set 4 (.int .i64 0)).set 5 (.int .i64 0))) rfl ⟨rfl,(aK (aK (aK (aK (aK (aK hb (p:=⟨w.heap.size+1,0,none⟩) (Nat.le_succ _) (.int .i64 0)) (p:=⟨w.heap.size+1,1,none⟩) (Nat.le_succ _) (.int .i64 0)) (p:=⟨w.heap.size+1,2,none⟩) (Nat.le_succ _) (.string ⟨#[]⟩)) (p:=⟨w.heap.size+1,3,none⟩) (Nat.le_succ _) (.string ⟨#[]⟩)) (p:=⟨w.heap.size+1,4,none⟩) (Nat.le_succ _) (.int .i64 0)) (p:=⟨w.heap.size+1,5,none⟩) (Nat.le_succ _) (.int .i64 0))⟩
   · go_wp2;exact bodyPost_ret (Af rfl _ _ rfl rfl rfl ((((((Q.set 0 (.int .i64 number)).set 1 (.int .i64 at_)).set 2 (.string ⟨ra.toArray⟩)).set 3 (.string ⟨rb.toArray⟩)).set 4 (.int .i64 0)).set 5 (.int .i64 0))) rfl ⟨rfl,(aK (aK (aK (aK (aK (aK hb (p:=⟨w.heap.size+1,0,none⟩) (Nat.le_succ _) (.int .i64 number)) (p:=⟨w.heap.size+1,1,none⟩) (Nat.le_succ _) (.int .i64 at_)) (p:=⟨w.heap.size+1,2,none⟩) (Nat.le_succ _) (.string ⟨ra.toArray⟩)) (p:=⟨w.heap.size+1,3,none⟩) (Nat.le_succ _) (.string ⟨rb.toArray⟩)) (p:=⟨w.heap.size+1,4,none⟩) (Nat.le_succ _) (.int .i64 0)) (p:=⟨w.heap.size+1,5,none⟩) (Nat.le_succ _) (.int .i64 0))⟩
theorem yh (c e lo re pay:Int) (l:List Tf.Ho) (PA:Option Addr) (uI:Nat) (ms:List pY) (os:List (Option Rat)) (A:Option Addr) (cap:Nat) (number at_:Int) (w:World) (hL:FX ms os) (hA:Us w A cap ms) (hP:Yj w PA uI l) (hE:Env w) (ra rb:List UInt8) (code:Int) (ho:OB (ji os) ra rb code) (hok:((ji os).isSome&&TK ms number)=true) (hva:vS ⟨c,e,lo,re,pay⟩ l=true) (hat:Tp.within at_ 0 10000000=true) (hv2:vS ⟨c,e,lo,re,pay⟩ (l++[(⟨number,at_,(ra,rb),0,0⟩:Tf.Ho)])=true) :
 aT 61 #[.agg #[.int .i64 c,.int .i64 e,.int .i64 lo,.int .i64 re,.int .i64 pay],.slice PA l.length uI,.slice A ms.length cap,.int .i64 number,.int .i64 at_] w (.tuple #[.agg #[.int .i64 number,.int .i64 at_,.string ⟨ra.toArray⟩,.string ⟨rb.toArray⟩,.int .i64 0,.int .i64 0],.bool true,.int .i64 0]):=yj c e lo re pay l PA uI ms os A cap number at_ w hL hA hP hE ra rb code ho hok hva hat true hv2
theorem Az (c e lo re pay:Int) (l:List Tf.Ho) (PA:Option Addr) (uI:Nat) (ms:List pY) (os:List (Option Rat)) (A:Option Addr) (cap:Nat) (number at_:Int) (w:World) (hL:FX ms os) (hA:Us w A cap ms) (hP:Yj w PA uI l) (hE:Env w) (ra rb:List UInt8) (code:Int) (ho:OB (ji os) ra rb code) (hok:((ji os).isSome&&TK ms number)=true) (hva:vS ⟨c,e,lo,re,pay⟩ l=true) (hat:Tp.within at_ 0 10000000=true) (hv2:vS ⟨c,e,lo,re,pay⟩ (l++[(⟨number,at_,(ra,rb),0,0⟩:Tf.Ho)])=false) :
 aT 61 #[.agg #[.int .i64 c,.int .i64 e,.int .i64 lo,.int .i64 re,.int .i64 pay],.slice PA l.length uI,.slice A ms.length cap,.int .i64 number,.int .i64 at_] w (.tuple #[.agg #[.int .i64 0,.int .i64 0,.string ⟨#[]⟩,.string ⟨#[]⟩,.int .i64 0,.int .i64 0],.bool false,.int .i64 0]):=yj c e lo re pay l PA uI ms os A cap number at_ w hL hA hP hE ra rb code ho hok hva hat false hv2
def qA:Rat:=Tb.Pq 3 3 1 (10-1)
def qB:Rat:=Tb.Hq 5 2 2 2
def qC:Rat:=Tb.Pq 3 3 2 (10-2)
theorem rY:LQ qA [49] [49,48,48,48]:=lq_p2
theorem Aq:LQ qB [49] [49,48]:=lq_h2
theorem Qe:LQ qC [49] [49,50,53]:=JG (n:=1) (d:=125) (by decide +kernel) (by decide +kernel) (by decide +kernel) (by decide +kernel)
theorem u_:Un qA:=⟨⟨by unfold Ig.fits;decide +kernel,by unfold Ig.fits;decide +kernel⟩,by decide +kernel,by decide +kernel⟩
theorem Ob:Un qB:=⟨⟨by unfold Ig.fits;decide +kernel,by unfold Ig.fits;decide +kernel⟩,by decide +kernel,by decide +kernel⟩
theorem WT:Un qC:=⟨⟨by unfold Ig.fits;decide +kernel,by unfold Ig.fits;decide +kernel⟩,by decide +kernel,by decide +kernel⟩
def LG:Rat:=Rat.divInt 1 500
theorem Qg:LQ LG [49] [53,48,48]:=JG (n:=1) (d:=500) (by decide +kernel) (by decide +kernel) (by decide +kernel) (by decide +kernel)
theorem Oc:Un LG:=⟨⟨by unfold Ig.fits;decide +kernel,by unfold Ig.fits;decide +kernel⟩,by decide +kernel,by decide +kernel⟩
theorem BQ {q:Rat} (h:tY (some 0) (some q)=some q) (h1:¬ 1<q):Tf.Oh [q]=some q:=by
 unfold Tf.Oh
 rw[if_pos (by simp)]
 show (comb [q]).map Ar=_
 have:comb [q]=some q:=h;rw [this]
 unfold Ar
 simp[h1]
theorem add0 {q:Rat} (hf:jo 0 q):tY (some 0) (some q)=some q:=by
 have:=wF (P:=jo) (f:=fun a b=>a+b) hf
 unfold tY
 rw[this]
 congr 1
 exact Rat.zero_add q
theorem fa_A:jo 0 qA:=⟨by unfold Ig.fits;decide +kernel,by unfold Ig.fits;decide +kernel,by unfold Ig.fits;decide +kernel,by unfold Ig.fits;decide +kernel⟩
theorem fa_B:jo 0 qB:=⟨by unfold Ig.fits;decide +kernel,by unfold Ig.fits;decide +kernel,by unfold Ig.fits;decide +kernel,by unfold Ig.fits;decide +kernel⟩
theorem fa_C:jo 0 qC:=⟨by unfold Ig.fits;decide +kernel,by unfold Ig.fits;decide +kernel,by unfold Ig.fits;decide +kernel,by unfold Ig.fits;decide +kernel⟩
theorem fa_AA:jo qA qA:=⟨by unfold Ig.fits;decide +kernel,by unfold Ig.fits;decide +kernel,by unfold Ig.fits;decide +kernel,by unfold Ig.fits;decide +kernel⟩
theorem D7:ji [some qA]=some qA:=(jw [qA]).trans (BQ (add0 fa_A) (by decide +kernel))
theorem to_B:ji [some qB]=some qB:=(jw [qB]).trans (BQ (add0 fa_B) (by decide +kernel))
theorem to_C:ji [some qC]=some qC:=(jw [qC]).trans (BQ (add0 fa_C) (by decide +kernel))
theorem Jq {x:Rat} (h:¬x<qA):Tf.Oh [qA,x]=some LG:=by
 unfold Tf.Oh
 rw[if_pos (by simp)];have hm:Tf.jd [qA,x]=qA:=by show (if x<qA then x else qA)=qA;rw[if_neg h]
 rw[hm]
 show (comb [qA,qA]).map Ar=_
 have h2:tY (some qA) (some qA)=some (qA+qA):=wF (P:=jo) (f:=fun a b=>a+b) fa_AA
 have:comb [qA,qA]=some (qA+qA):=by
  show tY (tY (some 0) (some qA)) (some qA)=_
  rw[add0 fa_A,h2]
 rw[this]
 show some (Ar (qA+qA))=some LG
 congr 1
 decide +kernel
theorem to_AB:ji [some qA,some qB]=some LG:=(jw [qA,qB]).trans (Jq (by decide +kernel))
theorem to_AC:ji [some qA,some qC]=some LG:=(jw [qA,qC]).trans (Jq (by decide +kernel))
def sA (k:Int):pY:=⟨⟨2,7,k,10,3,3,[],0,0,0⟩,none,0⟩
def sB:pY:=⟨⟨3,7,0,0,2,2,[],0,5,2⟩,none,0⟩
theorem YE {q:Rat} {a b:List UInt8} {ra rb:List UInt8} {code:Int} (h:LQ q a b) (ho:OB (some q) ra rb code):ra=a/\rb=b/\code=0:=by
 cases ho with
 | good hu lq=>exact⟨(lq.same h).1,(lq.same h).2,rfl⟩
theorem Wj:BdP 16 (sA 1) (some qA):=⟨fun q h=>by cases h;exact u_,fun W ra rb code hS hE ho=>by
 obtain⟨rfl,rfl,rfl⟩:=YE rY ho
 exact oL 7 1 10 3 3 none 0 0 0 0 0 _ _ W (by decide) fun W' h=>kZ 3 3 1 10 _ _ W' (by decide) (by decide) (by decide) (by decide) (by decide) (by decide) rY (hE.below h)⟩
theorem bd_C:BdP 16 (sA 2) (some qC):=⟨fun q h=>by cases h;exact WT,fun W ra rb code hS hE ho=>by
 obtain⟨rfl,rfl,rfl⟩:=YE Qe ho
 exact oL 7 2 10 3 3 none 0 0 0 0 0 _ _ W (by decide) fun W' h=>kZ 3 3 2 10 _ _ W' (by decide) (by decide) (by decide) (by decide) (by decide) (by decide) Qe (hE.below h)⟩
theorem aag:BdP 16 sB (some qB):=⟨fun q h=>by cases h;exact Ob,fun W ra rb code hS hE ho=>by
 obtain⟨rfl,rfl,rfl⟩:=YE Aq ho
 exact FM 7 0 0 2 2 none 0 0 0 5 2 _ _ W (by decide) fun W' h=>Ji 5 2 2 2 _ _ W' (by decide) (by decide) (by decide) (by decide) Aq (hE.below h)⟩
theorem UZ:FX [sA 1] [some qA]:=FX.all [qA] rfl (by decide) fun i h=>by
 obtain rfl:i=0:=by simp at h;omega
 exact Wj
theorem sl_B:FX [sB] [some qB]:=FX.all [qB] rfl (by decide) fun i h=>by
 obtain rfl:i=0:=by simp at h;omega
 exact aag
theorem sl_C:FX [sA 2] [some qC]:=FX.all [qC] rfl (by decide) fun i h=>by
 obtain rfl:i=0:=by simp at h;omega
 exact bd_C
theorem sl_AB:FX [sA 1,sB] [some qA,some qB]:=FX.all [qA,qB] rfl (by decide) fun i h=>by
 have h2:i<2:=h
 match i,h2 with
 | 0,_=>exact Wj
 | 1,_=>exact aag
theorem sl_AC:FX [sA 1,sA 2] [some qA,some qC]:=FX.all [qA,qC] rfl (by decide) fun i h=>by
 have h2:i<2:=h
 match i,h2 with
 | 0,_=>exact Wj
 | 1,_=>exact bd_C
theorem nU {w:World} {s:Tf.Su} (h:s.times=[]):qh w w.heap.size ⟨s,none,0⟩:=⟨by rw[show (pY.s ⟨s,none,0⟩).times=[] from h];exact At.nil,by rw[show (pY.s ⟨s,none,0⟩).times=[] from h];exact Nat.le_refl _,by rw[show (pY.s ⟨s,none,0⟩).times=[] from h];decide⟩
theorem oV {w:World} {g:Nat} {s:Tf.Su} (ht:s.times=[]) (h:Bx w g 72 (GH ⟨s,none,0⟩).toArray):Us w (some ⟨g,0,none⟩) 1 [⟨s,none,0⟩] :=
 ⟨I8 (size:=10) (f:=GH) (p:=[⟨s,none,0⟩]) Jt (by simpa using h),fun m hm=>by rw[List.mem_singleton.1 hm];exact nU ht,Nat.le_refl _,by simp⟩
theorem Js {w:World} {g:Nat} {s t:Tf.Su} (ht:s.times=[]) (ht':t.times=[]) (h:Bx w g 72 (GH ⟨s,none,0⟩++GH ⟨t,none,0⟩).toArray):Us w (some ⟨g,0,none⟩) 2 [⟨s,none,0⟩,⟨t,none,0⟩] :=
 ⟨I8 (size:=10) (f:=GH) (p:=[⟨s,none,0⟩,⟨t,none,0⟩]) Jt (by simpa using h),fun m hm=>by
  rcases List.mem_cons.1 hm with rfl|hm
  · exact nU ht
  · rw[List.mem_singleton.1 hm];exact nU ht',Nat.le_refl _,by simp⟩
theorem JO {w:World}:Yj w none 0 []:=⟨At.nil,Nat.le_refl _,by decide,fun h hh=>by cases hh⟩
theorem mQ {w:World} {g:Nat} {h:Tf.Ho} (hl:Yi h) (hB:Bx w g 141 (j_ h).toArray):Yj w (some ⟨g,0,none⟩) 1 [h] :=
 ⟨I8 (size:=6) (f:=j_) (p:=[h]) wJ (by simpa using hB),Nat.le_refl _,by simp,fun x hx=>by rw[List.mem_singleton.1 hx];exact hl⟩
def WZ:Tf.Ru:=⟨1,100,100,50,3⟩
def vH (f v d:Int):Tf.Ho:=⟨7,f,([49],[49,48,48,48]),v,d⟩
theorem GU:Gh 1 100 100 50 3=true:=by decide
theorem yx (f v d:Int):Yi (vH f v d):=⟨by simp[vH],by simp[vH]⟩
theorem in_A:DU 1 100 ([49],[49,48,48,48]):=⟨qA,u_.1,by unfold kJ;rw[rY.out.1,rY.out.2],u_.2.1,by decide +kernel⟩
theorem not_B:¬DU 1 100 ([49],[49,48]):=fun ⟨q,h1,h2,h3,h4⟩=>by
 have e:q=qB:=by
  unfold kJ at h2
  obtain⟨e1,e2⟩:=Prod.mk.inj h2;have e3:Lib.itoa q.num=Lib.itoa qB.num:=by rw[←e1,Aq.out.1]
  have e4:Lib.itoa (q.den:Int)=Lib.itoa (qB.den:Int):=by rw[←e2,Aq.out.2]
  exact Rat.ext (Ig.dX e3) (by have:=Ig.dX e4;omega)
 rw[e]at h4;exact absurd h4 (by decide +kernel)
theorem yE {f v d:Int} (h0:0<=f) (h1:f<=10000000) (hv:v=0/\d=0∨(v=1∨v=2)/\f<=d/\d<=11000000):Tf.Fm (DU 1 100) (vH f v d):=⟨by show (0:Int)<=7;decide,by show (7:Int)<=_;decide,h0,h1,in_A,hv⟩
theorem Gw:vS WZ []=true:=wY ⟨pq.1 GU,Tf.Va.nil _ _⟩
theorem BJ:vS WZ [vH 1000 0 0]=true:=wY ⟨pq.1 GU,Tf.Va.one (yE (by decide) (by decide) (.inl ⟨rfl,rfl⟩))⟩
theorem Yu:vS WZ [vH 1000 0 0,vH 1150 0 0]=true:=wY ⟨pq.1 GU,(Tf.Va.snoc (l:=[vH 1000 0 0])).2 ⟨Tf.Va.one (yE (by decide) (by decide) (.inl ⟨rfl,rfl⟩)),by decide,yE (by decide) (by decide) (.inl ⟨rfl,rfl⟩),fun g hg=>by
 rw[List.mem_singleton.1 hg]
 exact⟨by decide,fun _=>by decide⟩⟩⟩
theorem Oa:vS WZ [vH 1000 0 0,vH 1149 0 0]=false:=uZ fun hv=>by
 have:=((Tf.Va.snoc (l:=[vH 1000 0 0])).1 hv.2).2.2.2 _ (List.mem_singleton_self _);have h2:=this.2 rfl
 revert h2
 decide
theorem UD:vS WZ [⟨7,1000,([49],[49,48]),0,0⟩]=false:=uZ fun hv=>by
 have:=hv.2.fm _ (List.mem_singleton_self _);exact not_B this.b
theorem EW (n t:Int):EX WZ [vH 1000 0 0] n t=((7:Int)==n&&(decide (1000<=t)&&decide (t<1100))):=by
 rw[XA (Jo.1 BJ)]
 show ((7:Int)==n&&Tf.VB WZ (vH 1000 0 0) t||false)=_
 rw[Bool.or_false];rfl
theorem GZ {fn:Func} {t:Tmp} {g:Nat} {x0 x1 x2 x3 x4 x5 x6 x7 x8 x9:Value} (h:fn.results=#[.cell t 72]) (tmps:Array Value) (w:World) (ht:tmps.getD t undef=.pointer (some ⟨g,0,none⟩)) (hB:Bx w g 72 #[x0,x1,x2,x3,x4,x5,x6,x7,x8,x9]) :
 (results fn tmps).run Tryz.prog w=.ok (.agg #[x0,x1,x2,x3,x4,x5,x6,x7,x8,x9]) w:=by
 obtain⟨h0,h1,h2,h3,h4,h5,h6,h7,h8,h9⟩:=hB.p10;have ht':tmps[t]?.getD undef=.pointer (some ⟨g,0,none⟩):=by simpa using ht
 simp only[results,h];simp [go_sem,ht',h0,h1,h2,h3,h4,h5,h6,h7,h8,h9,loadVar]
theorem G5 {fn:Func} {t:Tmp} {g:Nat} {x0 x1 x2 x3 x4:Value} (h:fn.results=#[.cell t 135]) (tmps:Array Value) (w:World) (ht:tmps.getD t undef=.pointer (some ⟨g,0,none⟩)) (hB:Bx w g 135 #[x0,x1,x2,x3,x4]) :
 (results fn tmps).run Tryz.prog w=.ok (.agg #[x0,x1,x2,x3,x4]) w:=by
 obtain⟨h0,h1,h2,h3,h4⟩:=hB.p5;have ht':tmps[t]?.getD undef=.pointer (some ⟨g,0,none⟩):=by simpa using ht
 simp only[results,h];simp [go_sem,ht',h0,h1,h2,h3,h4,loadVar]
theorem gI (k:Int) (w:World):aT 59 #[.int .i64 k] w (.agg #[.int .i64 2,.int .i64 7,.int .i64 k,.int .i64 10,.int .i64 3,.int .i64 3,.slice none 0 0,.int .i64 0,.int .i64 0,.int .i64 0]):=by
 have B:=Bx.mk w 72 #[.int .i64 2,.int .i64 7,.int .i64 k,.int .i64 10,.int .i64 3,.int .i64 3,.slice none 0 0,.int .i64 0,.int .i64 0,.int .i64 0];have hb:=aA w (.cells #[.int .i64 2,.int .i64 7,.int .i64 k,.int .i64 10,.int .i64 3,.int .i64 3,.slice none 0 0,.int .i64 0,.int .i64 0,.int .i64 0] 72);obtain ⟨c0,c1,c2,c3,c4,c5,c6,c7,c8,c9⟩:=B.p10
 go_enter Tryz.func59,Tryz.ntmps59
 go_wp2;exact bodyPost_ret (GZ rfl _ _ rfl B) rfl ⟨rfl,hb⟩
theorem Ad (w:World):aT 58 #[] w (.agg #[.int .i64 1,.int .i64 100,.int .i64 100,.int .i64 50,.int .i64 3]):=by
 have B:=Bx.mk w 135 #[.int .i64 1,.int .i64 100,.int .i64 100,.int .i64 50,.int .i64 3];have hb:=aA w (.cells #[.int .i64 1,.int .i64 100,.int .i64 100,.int .i64 50,.int .i64 3] 135);obtain ⟨c0,c1,c2,c3,c4⟩:=B.p5
 go_enter Tryz.func58,Tryz.ntmps58
 go_wp2;exact bodyPost_ret (G5 rfl _ _ rfl B) rfl ⟨rfl,hb⟩
theorem CW (a b:List UInt8) (w:World):aT 63 #[.agg #[.string ⟨a.toArray⟩,.string ⟨b.toArray⟩],.string ⟨a.toArray⟩,.string ⟨b.toArray⟩] w (.bool true):=by
 have hb:=aA w (.cells #[.string ⟨a.toArray⟩,.string ⟨b.toArray⟩] 77);have B:=Bx.mk w 77 #[.string ⟨a.toArray⟩,.string ⟨b.toArray⟩];have c0:=B.cell 0 rfl;have c1:=B.cell 1 rfl
 go_enter Tryz.func63,Tryz.ntmps63
 go_wp2;go_ret;exact ⟨rfl,hb⟩
theorem rW (v d x:Int) (w:World) (hv:v=0/\d=0∨(v=1∨v=2)/\1000<=d/\d<=11000000) (hx:Tf.owed WZ (vH 1000 v d)=x) (hE:Env w):aT 65 #[.int .i64 v,.int .i64 d,.int .i64 x] w (.bool true):=by
 have hR:=fun w0=>Ad w0
 have hO:=fun w0 hE0=>NG 1 100 100 50 3 7 1000 v d [49] [49,48,48,48] w0 (by decide) (by decide) GU (AV (yE (by decide) (by decide) hv)) hE0
 have hx':Tf.owed ⟨1,100,100,50,3⟩ ⟨7,1000,([49],[49,48,48,48]),v,d⟩=x:=hx;rw [hx']at hO;clear hx hx' hv
 go_enter Tryz.func65,Tryz.ntmps65
 go_wp2_with fail;refine (hR _).mono ?_;rintro _ w1 ⟨rfl,hb1⟩;have Zz:=hO w1 (hE.below hb1);clear hR hO;go_wp2_with fail;refine Zz.mono ?_;rintro _ w2 ⟨rfl,hb2⟩;clear Zz;go_wp2;go_ret;exact ⟨by simp,ah hb1 hb2⟩
end Go.Proofs.YtohgjenaclfegaaGreatDoor

import Derived.Test.YtelljijajgiabaaGreatDoorQ24
import Derived.Laws.Cover3
set_option linter.unusedVariables false
set_option linter.unusedSimpArgs false
set_option maxRecDepth 100000
set_option maxHeartbeats 8000000
namespace Go.Proofs.YtelljijajgiabaaGreatDoor
open Go.RowKit Go.Shelf
theorem zJ:∃i z,Tryz.prog.info? 53=some i/\i.zero=some z/\i.size=6/\z.cells.size=6/\i.bytes=64:=by
 have h:(Tryz.prog.info? 53).map (fun i=>(i.size,i.bytes,i.zero.map (·.cells.size)))=some (6,64,some 6):=by kernel_rfl
 cases hi:Tryz.prog.info? 53 with
 | none=>rw[hi]at h;cases h
 | some i =>
  rw[hi]at h;simp only[Option.map_some,Option.some.injEq,Prod.mk.injEq]at h;obtain ⟨h1,h2,h3⟩:=h
  cases hz:i.zero with
  | none=>rw[hz]at h3;cases h3
  | some z=>rw[hz]at h3;exact⟨i,z,rfl,hz,h1,by simpa using h3,h2⟩
theorem g_ (c:Tf.Ho):∀u∈aX c,u.oneCell'=true:=fun u hu=>by
 simp only[aX,List.mem_cons,List.not_mem_nil,or_false]at hu
 rcases hu with rfl|rfl|rfl|rfl|rfl|rfl <;> rfl
theorem run_eql_slice_nil {P:Program} (w:World) (t e:TypeId) (a:Option Addr) (l c:Nat) (h:P.underlying t=some (.slice e)):(binOp .eql t (.slice a l c) (.slice none 0 0)).run P w=.ok (.bool a.isNone) w:=by
 simp only[binOp];simp [run_equal_slice_nil w t e a l c h]
theorem clone_any (l:List Tf.Ho) (A:Option Addr) (cap:Nat) (w:World) (hA:At 6 aX w w.heap.size A l) (hn:l.length<=cap) (hl:l.length<=1000000) :
 Calls Tryz.prog 55 #[.slice A l.length cap] w fun e w'=>(∃v,e=.returned v/\bD 53 6 w.heap.size l.length (l.flatMap aX) v w')/\Below w.heap.size w w':=by
 obtain⟨ti,tz,hi,hzz,hs1,hz1,hby⟩:=zJ
 cases A with
 | none =>
  have h0:l.length=0:=by
   rcases Nat.eq_zero_or_pos l.length with h|h
   · exact h
   · obtain⟨b,off,e,-⟩:=hA h;cases e
  obtain rfl:=List.eq_nil_of_length_eq_zero h0;have hq:=run_eql_slice_nil (P:=Tryz.prog) w 33 53 none 0 cap Tryz.underlying33;simp only[Option.isNone_none,Option.isNone_some]at hq;clear hA
  go_enter Tryz.func55,Tryz.ntmps55
  go_wp2;go_ret;exact ⟨⟨_,rfl,.inl ⟨rfl,rfl,rfl⟩⟩,gq w⟩
 | some a =>
  have hb:=au w (.cells #[] 53);have hsrc:=At.src (P:=Tryz.prog) (e:=53) (t:=33) (f:=aX) (fun _=>rfl) g_ Tryz.underlying33 ((hA.below hb).more hb.size) cap;have hrow:cO 53 6 w.heap.size 0 0 [] (.slice (some ⟨w.heap.size,0,none⟩) 0 0) (w.alloc (.cells #[] 53)):=⟨_,_,rfl,Nat.le_refl _,Nat.le_refl _,Bx.mk _ _ _,rfl,rfl⟩
  have fin:∀v' w' cap',Below w.heap.size (w.alloc (.cells #[] 53)) w'->cO 53 6 w.heap.size cap' (0+l.length) ([]++l.flatMap aX) v' w'->cap'<=maxLen->bD 53 6 w.heap.size l.length (l.flatMap aX) v' w'/\Below w.heap.size w w':=fun v' w' cap' h1 h2 h3=>by
   rw[Nat.zero_add,List.nil_append]at h2;exact ⟨.inr ⟨cap',h2,h3⟩,hb.trans h1⟩
  have hsz:=hb.size;have hq:=run_eql_slice_nil (P:=Tryz.prog) w 33 53 (some a) l.length cap Tryz.underlying33;simp only[Option.isNone_none,Option.isNone_some]at hq;clear hA
  go_enter Tryz.func55,Tryz.ntmps55
  go_wp2_with (at_builtin;refine gW rfl (.tmp 5) (.tmp 6) 33 53 rfl ti tz 6 w.heap.size 0 0 l.length [] (l.flatMap aX) _ _ Tryz.underlying33 hi hzz hs1 hz1 rfl rfl hrow hsz hsrc (by unfold maxLen;omega) (by unfold maxLen;omega) (by rw[hby];omega) ?_;intro v' w' cap' e1 e2 e3 e4;obtain⟨f1,f2⟩:=fin _ _ _ e1 e3 e4)
  go_ret;exact ⟨⟨_,rfl,f1⟩,f2⟩
theorem qY (c e lo re pay n f v d:Int) (b1 b2:List UInt8) (ms:List fM) (os:List (Option Rat)) (A:Option Addr) (cap:Nat) (w:World) (h1:b1.length<=9223372036854775807) (h2:b2.length<=9223372036854775807) (hL:AQ ms os) (hA:AU w A cap ms) (hE:Env w) (ra rb:List UInt8) (code:Int) (ho:OB (iW os) ra rb code) :
 Calls Tryz.prog 27 #[.agg #[.int .i64 c,.int .i64 e,.int .i64 lo,.int .i64 re,.int .i64 pay],.agg #[.int .i64 n,.int .i64 f,.string ⟨b1.toArray⟩,.string ⟨b2.toArray⟩,.int .i64 v,.int .i64 d],.slice A ms.length cap] w
  fun e' w'=>e'=.returned (.bool ((iW os).isSome&&L_ ms n&&AL c e lo re pay&&vK c e ⟨n,f,(b1,b2),v,d⟩&&(decide (b1=ra)&&decide (b2=rb))))/\Below w.heap.size w w':=by
 have B:=(Bx.mk w 31 #[.int .i64 c,.int .i64 e,.int .i64 lo,.int .i64 re,.int .i64 pay]).new (.cells #[.int .i64 n,.int .i64 f,.string ⟨b1.toArray⟩,.string ⟨b2.toArray⟩,.int .i64 v,.int .i64 d] 53);have H:=Bx.mk (w.alloc (.cells #[.int .i64 c,.int .i64 e,.int .i64 lo,.int .i64 re,.int .i64 pay] 31)) 53 #[.int .i64 n,.int .i64 f,.string ⟨b1.toArray⟩,.string ⟨b2.toArray⟩,.int .i64 v,.int .i64 d];rw [ah]at H;have hb:=bNew (au w (.cells #[.int .i64 c,.int .i64 e,.int .i64 lo,.int .i64 re,.int .i64 pay] 31)) (.cells #[.int .i64 n,.int .i64 f,.string ⟨b1.toArray⟩,.string ⟨b2.toArray⟩,.int .i64 v,.int .i64 d] 53);have hV:=pI ms os A cap n _ hL (hA.call hb) (hE.below hb) ra rb code ho;have hR:=fun w0=>pW c e lo re pay w0
 have hF:=fun w0 hch hE0=>o_ c e lo re pay n f v d b1 b2 w0 hch h1 h2 hE0
 have JF:AL c e lo re pay=true->ES c e=true:=D5;generalize ((iW os).isSome&&L_ ms n)=t1 at *;generalize AL c e lo re pay=t2 at *;generalize vK c e ⟨n,f,(b1,b2),v,d⟩=t3 at *;clear hL hA ho;have h0:=H.cell 0 rfl;have hres:∃r,r=(t1&&t2&&t3&&(decide (b1=ra)&&decide (b2=rb))):=⟨_,rfl⟩
 obtain⟨r,hr⟩:=hres;rw [←hr];replace hr:=Kp.mk hr
 go_enter Tryz.func27,Tryz.ntmps27
 go_wp2_with fail;refine hV.mono ?_;rintro _ w1 ⟨rfl,hb1⟩;clear hV h0;replace B:=(B.call hb1).new (.cells #[.string ⟨ra.toArray⟩,.string ⟨rb.toArray⟩] 51);replace H:=(H.call hb1).new (.cells #[.string ⟨ra.toArray⟩,.string ⟨rb.toArray⟩] 51);have Z:=Bx.mk w1 51 #[.string ⟨ra.toArray⟩,.string ⟨rb.toArray⟩];replace hb:=bNew (aj hb hb1) (.cells #[.string ⟨ra.toArray⟩,.string ⟨rb.toArray⟩] 51);go_upto_region 2 with fail;generalize w1.alloc (.cells #[.string ⟨ra.toArray⟩,.string ⟨rb.toArray⟩] 51)=W0 at *;generalize w1.heap.size=gz at *
 cases t1 with
 | false =>
  obtain rfl:=hr.out;clear hF hR hb1;go_wp2;go_ret;exact ⟨by simp,hb⟩
 | true =>
  obtain⟨r0,r1,r2,r3,r4⟩:=B.p5
  cases t2 with
  | false =>
   obtain rfl:=hr.out;go_wp2_with fail;refine (hR _).mono ?_;rintro _ w2 ⟨rfl,hb2⟩;clear hF hR;go_wp2;go_ret;exact ⟨by simp,aj hb hb2⟩
  | true =>
   have hch:=JF rfl;go_wp2_with fail;refine (hR _).mono ?_;rintro _ w2 ⟨rfl,hb2⟩;clear r0 r1 r2 r3 r4 hR;replace B:=B.call hb2;replace H:=H.call hb2;replace Z:=Z.call hb2;replace hb:=aj hb hb2;have hF1:=hF _ hch (hE.below hb);obtain ⟨r0,r1,r2,r3,r4⟩:=B.p5;obtain ⟨y0,y1,y2,y3,y4,y5⟩:=H.p6;clear hF JF hb2
   cases t3 with
   | false =>
    obtain rfl:=hr.out;go_wp2_with fail;refine hF1.mono ?_;rintro _ w3 ⟨rfl,hb3⟩;clear hF1;go_wp2;go_ret;exact ⟨by simp,aj hb hb3⟩
   | true =>
    go_wp2_with fail;refine hF1.mono ?_;rintro _ w3 ⟨rfl,hb3⟩;clear hF1 r0 r1 r2 r3 r4 y0 y1 y2 y3 y4 y5;replace H:=H.call hb3;replace Z:=Z.call hb3;replace hb:=aj hb hb3;have y2:=H.cell 2 rfl;have y3:=H.cell 3 rfl;have z0:=Z.cell 0 rfl;have z1:=Z.cell 1 rfl;by_cases e1:b1=ra
    · by_cases e2:b2=rb
      · have hr2:r=true:=by rw[hr.out];simp[e1,e2]
        subst hr2;subst e1;subst e2;go_wp2;go_ret;exact ⟨by simp,hb⟩
      · have hr2:r=false:=by rw[hr.out];simp[e2]
        subst hr2;subst e1;clear hr;go_wp2;go_ret;exact ⟨by simp,hb⟩
    · have hr2:r=false:=by rw[hr.out];simp[e1]
      subst hr2;clear hr;go_wp2;go_ret;exact ⟨by simp,hb⟩
structure BK (w:World) (A:Option Addr) (cap:Nat) (l:List Tf.Ho):Prop where
 at_:At 6 aX w w.heap.size A l
 cap:l.length<=cap
 len:l.length<=9223372036854775807
 txt:∀h∈l,Oy h
theorem BK.call {w w':World} {A:Option Addr} {cap:Nat} {l:List Tf.Ho} (h:BK w A cap l) (hb:Below w.heap.size w w'):BK w' A cap l:=⟨h.at_.call hb,h.cap,h.len,h.txt⟩
theorem wK {fn:Func} {t u s:Tmp} {g:Nat} {x0 x1 x2 x3 x4 x5 a b:Value} (h:fn.results=#[.cell t 53,.tmp u,.tmp s]) (tmps:Array Value) (w:World) (ht:tmps.getD t undef=.pointer (some ⟨g,0,none⟩)) (hu:tmps.getD u undef=a) (hs:tmps.getD s undef=b) (hB:Bx w g 53 #[x0,x1,x2,x3,x4,x5]) :
 (results fn tmps).run Tryz.prog w=.ok (.tuple #[.agg #[x0,x1,x2,x3,x4,x5],a,b]) w:=by
 obtain⟨h0,h1,h2,h3,h4,h5⟩:=hB.p6;have ht':tmps[t]?.getD undef=.pointer (some ⟨g,0,none⟩):=by simpa using ht
 have hu':tmps[u]?.getD undef=a:=by simpa using hu
 have hs':tmps[s]?.getD undef=b:=by simpa using hs
 simp only[results,h];simp [go_sem,ht',hu',hs',h0,h1,h2,h3,h4,h5,loadVar]
theorem n_ {e:TypeId} {size B B' n:Nat} {flat:List Value} {v:Value} {w:World} (h:bD e size B' n flat v w) (hB:B<=B'):bD e size B n flat v w:=by
 rcases h with h|⟨cap,⟨g,cells,h1,h2,h3⟩,hm⟩
 · exact .inl h
 · exact .inr ⟨cap,⟨g,cells,h1,Nat.le_trans hB h2,h3⟩,hm⟩
theorem Jw {o:Option Rat} {ra rb:List UInt8} {code:Int} (h:OB o ra rb code):ra.length<=9223372036854775807/\rb.length<=9223372036854775807:=by
 cases h with
 | bad=>exact⟨by simp,by simp⟩
 | good hu lq =>
  have h1:=aV hu.1.num;have h2:=aV hu.1.den;rw [lq.out.1]at h1;rw [lq.out.2]at h2;exact ⟨by omega,by omega⟩
theorem Nz (c e lo re pay:Int) (l:List Tf.Ho) (PA:Option Addr) (nG:Nat) (ms:List fM) (os:List (Option Rat)) (A:Option Addr) (cap:Nat) (number at_:Int) (w:World) (hL:AQ ms os) (hA:AU w A cap ms) (hP:BK w PA nG l) (hE:Env w) (ra rb:List UInt8) (code:Int) (ho:OB (iW os) ra rb code) (hok:((iW os).isSome&&L_ ms number)=false) :
 aW 25 #[.agg #[.int .i64 c,.int .i64 e,.int .i64 lo,.int .i64 re,.int .i64 pay],.slice PA l.length nG,.slice A ms.length cap,.int .i64 number,.int .i64 at_] w (.tuple #[.agg #[.int .i64 0,.int .i64 0,.string ⟨#[]⟩,.string ⟨#[]⟩,.int .i64 0,.int .i64 0],.bool false,.int .i64 360]):=by
 have B:=(Bx.mk w 31 #[.int .i64 c,.int .i64 e,.int .i64 lo,.int .i64 re,.int .i64 pay]).new (.cells #[.int .i64 0,.int .i64 0,.string ⟨#[]⟩,.string ⟨#[]⟩,.int .i64 0,.int .i64 0] 53);have Q:=Bx.mk (w.alloc (.cells #[.int .i64 c,.int .i64 e,.int .i64 lo,.int .i64 re,.int .i64 pay] 31)) 53 #[.int .i64 0,.int .i64 0,.string ⟨#[]⟩,.string ⟨#[]⟩,.int .i64 0,.int .i64 0];rw [ah]at Q;have hb:=bNew (au w (.cells #[.int .i64 c,.int .i64 e,.int .i64 lo,.int .i64 re,.int .i64 pay] 31)) (.cells #[.int .i64 0,.int .i64 0,.string ⟨#[]⟩,.string ⟨#[]⟩,.int .i64 0,.int .i64 0] 53);have hV:=pI ms os A cap number _ hL (hA.call hb) (hE.below hb) ra rb code ho;rw [hok]at hV
 go_enter Tryz.func25,Tryz.ntmps25
 go_wp2_with fail;refine hV.mono ?_;rintro _ w1 ⟨rfl,hb1⟩;clear hV;replace B:=(B.call hb1).new (.cells #[.string ⟨ra.toArray⟩,.string ⟨rb.toArray⟩] 51);replace Q:=(Q.call hb1).new (.cells #[.string ⟨ra.toArray⟩,.string ⟨rb.toArray⟩] 51);have E:=Bx.mk w1 51 #[.string ⟨ra.toArray⟩,.string ⟨rb.toArray⟩];replace hb:=bNew (aj hb hb1) (.cells #[.string ⟨ra.toArray⟩,.string ⟨rb.toArray⟩] 51);go_upto_region 2 with fail;clear hb1;generalize w1.alloc (.cells #[.string ⟨ra.toArray⟩,.string ⟨rb.toArray⟩] 51)=W0 at *;generalize w1.heap.size=ge at *;obtain ⟨qc0,qc1,qc2,qc3,qc4,qc5⟩:=Q.p6;have qf0:=fun i=>Q.frozen i
 go_wp2;exact bodyPost_ret (wK rfl _ _ rfl rfl rfl ((((((Q.set 0 (.int .i64 0)).set 1 (.int .i64 0)).set 2 (.string ⟨#[]⟩)).set 3 (.string ⟨#[]⟩)).set 4 (.int .i64 0)).set 5 (.int .i64 0))) rfl ⟨rfl,(aJ (aJ (aJ (aJ (aJ (aJ hb (p:=⟨w.heap.size+1,0,none⟩) (Nat.le_succ _) (.int .i64 0)) (p:=⟨w.heap.size+1,1,none⟩) (Nat.le_succ _) (.int .i64 0)) (p:=⟨w.heap.size+1,2,none⟩) (Nat.le_succ _) (.string ⟨#[]⟩)) (p:=⟨w.heap.size+1,3,none⟩) (Nat.le_succ _) (.string ⟨#[]⟩)) (p:=⟨w.heap.size+1,4,none⟩) (Nat.le_succ _) (.int .i64 0)) (p:=⟨w.heap.size+1,5,none⟩) (Nat.le_succ _) (.int .i64 0))⟩
theorem zG (c e lo re pay:Int) (l:List Tf.Ho) (PA:Option Addr) (nG:Nat) (ms:List fM) (os:List (Option Rat)) (A:Option Addr) (cap:Nat) (number at_:Int) (w:World) (hL:AQ ms os) (hA:AU w A cap ms) (hP:BK w PA nG l) (hE:Env w) (ra rb:List UInt8) (code:Int) (ho:OB (iW os) ra rb code) (hok:((iW os).isSome&&L_ ms number)=true) (hva:sH ⟨c,e,lo,re,pay⟩ l=true) (hat:Tp.within at_ 0 10000000=true) (res:Bool) (hv2:sH ⟨c,e,lo,re,pay⟩ (l++[(⟨number,at_,(ra,rb),0,0⟩:Tf.Ho)])=res) :
 aW 25 #[.agg #[.int .i64 c,.int .i64 e,.int .i64 lo,.int .i64 re,.int .i64 pay],.slice PA l.length nG,.slice A ms.length cap,.int .i64 number,.int .i64 at_] w (if res=true then .tuple #[.agg #[.int .i64 number,.int .i64 at_,.string ⟨ra.toArray⟩,.string ⟨rb.toArray⟩,.int .i64 0,.int .i64 0],.bool true,.int .i64 0] else .tuple #[.agg #[.int .i64 0,.int .i64 0,.string ⟨#[]⟩,.string ⟨#[]⟩,.int .i64 0,.int .i64 0],.bool false,.int .i64 0]):=by
 have B:=(Bx.mk w 31 #[.int .i64 c,.int .i64 e,.int .i64 lo,.int .i64 re,.int .i64 pay]).new (.cells #[.int .i64 0,.int .i64 0,.string ⟨#[]⟩,.string ⟨#[]⟩,.int .i64 0,.int .i64 0] 53);have Q:=Bx.mk (w.alloc (.cells #[.int .i64 c,.int .i64 e,.int .i64 lo,.int .i64 re,.int .i64 pay] 31)) 53 #[.int .i64 0,.int .i64 0,.string ⟨#[]⟩,.string ⟨#[]⟩,.int .i64 0,.int .i64 0];rw [ah]at Q;have hb:=bNew (au w (.cells #[.int .i64 c,.int .i64 e,.int .i64 lo,.int .i64 re,.int .i64 pay] 31)) (.cells #[.int .i64 0,.int .i64 0,.string ⟨#[]⟩,.string ⟨#[]⟩,.int .i64 0,.int .i64 0] 53);have hV:=pI ms os A cap number _ hL (hA.call hb) (hE.below hb) ra rb code ho;rw [hok]at hV
 go_enter Tryz.func25,Tryz.ntmps25
 go_wp2_with fail;refine hV.mono ?_;rintro _ w1 ⟨rfl,hb1⟩;clear hV;replace B:=(B.call hb1).new (.cells #[.string ⟨ra.toArray⟩,.string ⟨rb.toArray⟩] 51);replace Q:=(Q.call hb1).new (.cells #[.string ⟨ra.toArray⟩,.string ⟨rb.toArray⟩] 51);have E:=Bx.mk w1 51 #[.string ⟨ra.toArray⟩,.string ⟨rb.toArray⟩];replace hb:=bNew (aj hb hb1) (.cells #[.string ⟨ra.toArray⟩,.string ⟨rb.toArray⟩] 51);go_upto_region 2 with fail;clear hb1;generalize w1.alloc (.cells #[.string ⟨ra.toArray⟩,.string ⟨rb.toArray⟩] 51)=W0 at *;generalize w1.heap.size=ge at *;obtain ⟨r0,r1,r2,r3,r4⟩:=B.p5;have hV:=tH c e lo re pay l PA nG W0 ((hP.at_.below hb).more hb.size) hP.cap hP.len hP.txt (hE.below hb);rw [hva]at hV;go_wp2_with fail;refine hV.mono ?_;rintro _ w2 ⟨rfl,hb2⟩;clear hV r0 r1 r2 r3 r4;replace B:=B.call hb2;replace Q:=Q.call hb2;replace E:=E.call hb2;replace hb:=aj hb hb2;clear hb2;have hW:=fun w0=>aB (bZ at_ 0 10000000 w0)
 rw[hat]at hW;go_wp2_with fail;refine (hW _).mono ?_;rintro _ w3 ⟨rfl,hb3⟩;clear hW;replace B:=B.call hb3;replace Q:=Q.call hb3;replace E:=E.call hb3;replace hb:=aj hb hb3;clear hb3;have e0:=E.cell 0 rfl;have e1:=E.cell 1 rfl;go_upto_region 5 with fail;clear e0 e1;have hgz:w.heap.size+2<=w3.heap.size:=by have:=Q.lt;omega
 have Z:=Bx.mk w3 53 #[.int .i64 number,.int .i64 at_,.string ⟨ra.toArray⟩,.string ⟨rb.toArray⟩,.int .i64 0,.int .i64 0];replace B:=B.new (.cells #[.int .i64 number,.int .i64 at_,.string ⟨ra.toArray⟩,.string ⟨rb.toArray⟩,.int .i64 0,.int .i64 0] 53);replace Q:=Q.new (.cells #[.int .i64 number,.int .i64 at_,.string ⟨ra.toArray⟩,.string ⟨rb.toArray⟩,.int .i64 0,.int .i64 0] 53);replace hb:=bNew hb (.cells #[.int .i64 number,.int .i64 at_,.string ⟨ra.toArray⟩,.string ⟨rb.toArray⟩,.int .i64 0,.int .i64 0] 53);generalize w3.alloc (.cells #[.int .i64 number,.int .i64 at_,.string ⟨ra.toArray⟩,.string ⟨rb.toArray⟩,.int .i64 0,.int .i64 0] 53)=W5 at *;generalize w3.heap.size=gz at *;have Zm:w.heap.size+2<=W5.heap.size:=by have:=Z.lt;omega
 obtain⟨ti,tz,hi,hzz,hs1,hz1,hby⟩:=zJ;have NH:l.length<=20:=(yE.1 hva).2.len;have hfl:(l.flatMap aX).length=l.length*6:=je (f:=aX) (size:=6) (fun _=>rfl) l;have hhl:Oy (⟨number,at_,(ra,rb),0,0⟩:Tf.Ho):=Jw ho
 have hall:∀h∈l++[(⟨number,at_,(ra,rb),0,0⟩:Tf.Ho)],Oy h:=fun h hh=>by
  rcases List.mem_append.1 hh with hh|hh
  · exact hP.txt h hh
  · rw[List.mem_singleton.1 hh];exact hhl
 have aC:l.flatMap aX++aX (⟨number,at_,(ra,rb),0,0⟩:Tf.Ho)=(l++[(⟨number,at_,(ra,rb),0,0⟩:Tf.Ho)]).flatMap aX:=by rw[List.flatMap_append,List.flatMap_singleton]
 have hlen:(l++[(⟨number,at_,(ra,rb),0,0⟩:Tf.Ho)]).length=l.length+1:=by simp
 have Rk:∀w2,KH (w.heap.size+2) 53 (l.length*6) (aX (⟨number,at_,(ra,rb),0,0⟩:Tf.Ho)) W5 w2->Bx w2 gz 53 #[.int .i64 number,.int .i64 at_,.string ⟨ra.toArray⟩,.string ⟨rb.toArray⟩,.int .i64 0,.int .i64 0]:=fun w2 h=>by
  obtain⟨g,e9,hg,YC⟩:=kP (B:=w.heap.size+2) (e:=53) (pos:=l.length*6) (m:=1) (news:=aX (⟨number,at_,(ra,rb),0,0⟩:Tf.Ho)) (by rw[h_];omega) undef (.slice (some ⟨gz,0,none⟩) 1 1) W5 w2 ⟨gz,rfl,hgz,Z⟩ h;cases e9
  exact YC
 have sV:∀w2 A9 c9,KH (w.heap.size+2) 53 (l.length*6) (aX (⟨number,at_,(ra,rb),0,0⟩:Tf.Ho)) W5 w2->At 6 aX w2 w2.heap.size A9 (l++[(⟨number,at_,(ra,rb),0,0⟩:Tf.Ho)])->(l++[(⟨number,at_,(ra,rb),0,0⟩:Tf.Ho)]).length<=c9->aW 19 #[.agg #[.int .i64 c,.int .i64 e,.int .i64 lo,.int .i64 re,.int .i64 pay],.slice A9 (l.length+1) c9] w2 (.bool res):=fun w2 A9 c9 hK hAt AP=>by
  have h:=tH c e lo re pay (l++[(⟨number,at_,(ra,rb),0,0⟩:Tf.Ho)]) A9 c9 w2 hAt AP (by rw[hlen];omega) hall (hE.below (hb.trans (hK.1.mono (by omega))));rw [hv2,hlen]at h;exact h
 have Ua:=hP;refine RS.aA (Ag (w.heap.size+2) 53 (l.length*6) (aX (⟨number,at_,(ra,rb),0,0⟩:Tf.Ho))) [] [RS.ak (.agg #[.int .i64 c,.int .i64 e,.int .i64 lo,.int .i64 re,.int .i64 pay]),RS.ak (.slice PA l.length nG),uq 53 6 (w.heap.size+2) l.length (l.flatMap aX),RS.ak (.agg #[.int .i64 number,.int .i64 at_,.string ⟨ra.toArray⟩,.string ⟨rb.toArray⟩,.int .i64 0,.int .i64 0]),Kq (w.heap.size+2) 53 1 (aX (⟨number,at_,(ra,rb),0,0⟩:Tf.Ho)),uq 53 6 (w.heap.size+2) (l.length+1) (l.flatMap aX++aX (⟨number,at_,(ra,rb),0,0⟩:Tf.Ho)),RS.ak (.bool res),RS.ak (.bool (!res))] 8 50 (by kernel_rfl) rfl rfl (by kernel_rfl) (by kernel_rfl) ?_ ?_ ?_
 · simp only[RS.bV]
   and_intros <;> first|exact RS.aF _|exact mg hfl|exact kP (by rw[h_];omega)|exact jS (m:=1) hfl (by rw[h_])|trivial
 · simp only[RS.bG,List.take,List.length];refine ⟨?_,?_,?_,?_,?_,?_,?_,?_,trivial⟩;all_goals (intro vs w2 hb2 hd;simp only[RS.aQ,Act.put,List.nil_append,List.cons_append,List.setIfInBounds_toArray,List.set_cons_succ,List.set_cons_zero,Nat.reduceAdd];clear E Q Z hA hE hL hP)
   · have B2:=B.below hb2.1 (by omega);obtain ⟨r0,r1,r2,r3,r4⟩:=B2.p5;clear hd Ua B hb Rk sV
     go_wp2;first|exact⟨KH.rf _ _ _ _ _,rfl⟩|exact⟨KH.rf _ _ _ _ _,by simp[RS.ak]⟩|exact KH.rf _ _ _ _ _|(simp [RS.ak])
   · clear hd Ua B hb Rk sV;go_wp2;first|exact⟨KH.rf _ _ _ _ _,rfl⟩|exact⟨KH.rf _ _ _ _ _,by simp[RS.ak]⟩|exact KH.rf _ _ _ _ _|(simp [RS.ak])
   · have e0:vs 1=_:=hd 1 rfl;have hC:=clone_any l PA nG w2 ((Ua.at_.below (hb.trans (hb2.1.mono (by omega)))).more (Nat.le_trans hb.size hb2.2.1)) Ua.cap (by omega);have hsz2:w.heap.size+2<=w2.heap.size:=Nat.le_trans Zm hb2.2.1;clear hd Ua B hb Rk sV;rw [e0];go_wp2_with fail;refine hC.mono ?_;rintro _ w9 ⟨⟨v9,rfl,xU⟩,aY⟩;clear hC;have Dl:uq 53 6 (w.heap.size+2) l.length (l.flatMap aX) undef v9 w9:=n_ xU hsz2;have hK9:=hb2.call Zm aY;go_wp2;first|exact⟨hK9,Dl⟩|exact Dl
   · have Z2:=Rk w2 hb2;obtain ⟨z0,z1,z2,z3,z4,z5⟩:=Z2.p6;clear hd Ua B hb Rk sV
     go_wp2;first|exact⟨KH.rf _ _ _ _ _,rfl⟩|exact⟨KH.rf _ _ _ _ _,by simp[RS.ak]⟩|exact KH.rf _ _ _ _ _|(simp [RS.ak])
   · have e0:vs 3=_:=hd 3 rfl;have hsz2:w.heap.size+2<=w2.heap.size:=Nat.le_trans Zm hb2.2.1;have hK9:=hb2.call Zm (au w2 (.cells #[.int .i64 number,.int .i64 at_,.string ⟨ra.toArray⟩,.string ⟨rb.toArray⟩,.int .i64 0,.int .i64 0] 53));have Dk:Kq (w.heap.size+2) 53 1 (aX (⟨number,at_,(ra,rb),0,0⟩:Tf.Ho)) undef (.slice (some ⟨w2.heap.size,0,none⟩) 1 1) (w2.alloc (.cells #[.int .i64 number,.int .i64 at_,.string ⟨ra.toArray⟩,.string ⟨rb.toArray⟩,.int .i64 0,.int .i64 0] 53)):=⟨_,rfl,hsz2,Bx.mk _ _ _⟩
     clear hd Ua B hb Rk sV;rw [e0];go_wp2;first|exact⟨hK9,Dk⟩|exact Dk
   · have hrow:bD 53 6 (w.heap.size+2) l.length (l.flatMap aX) (vs 2) w2:=hd 2 rfl;obtain ⟨g4,e4,hg4,hB4⟩:=hd 4 rfl;change vs 4=_ at e4;have hsrc:=cO.src (P:=Tryz.prog) (B:=w.heap.size+2) (cap:=1) (e:=53) (size:=6) (t:=33) (g_ (⟨number,at_,(ra,rb),0,0⟩:Tf.Ho)) Tryz.underlying33 (show cO 53 6 (w.heap.size+2) 1 1 (aX (⟨number,at_,(ra,rb),0,0⟩:Tf.Ho)) (vs 4) w2 from ⟨g4,_,e4,hg4,Nat.le_refl _,hB4,rfl,rfl⟩);have hsz2:w.heap.size+2<=w2.heap.size:=Nat.le_trans Zm hb2.2.1;clear hd Ua B hb Rk sV hb2;refine jO rfl (.tmp 42) (.tmp 44) 33 53 rfl ti tz 6 (w.heap.size+2) l.length 1 (l.flatMap aX) (aX (⟨number,at_,(ra,rb),0,0⟩:Tf.Ho)) _ _ Tryz.underlying33 hi hzz hs1 hz1 rfl rfl hrow hsz2 hsrc (by omega) (by unfold maxLen;omega) (by rw[hby];omega) ?_;intro v' w' f1 f2;have f3:uq 53 6 (w.heap.size+2) (l.length+1) (l.flatMap aX++aX (⟨number,at_,(ra,rb),0,0⟩:Tf.Ho)) undef v' w':=f2;exact ⟨rfl,rfl,f1,f3⟩
   · have e0:vs 0=_:=hd 0 rfl;have hrow:bD 53 6 (w.heap.size+2) (l.length+1) (l.flatMap aX++aX (⟨number,at_,(ra,rb),0,0⟩:Tf.Ho)) (vs 5) w2:=hd 5 rfl;rw [aC,←hlen]at hrow;obtain ⟨A9,c9,e5,hAt,AP,hcm⟩:=bD.at (f:=aX) (p:=l++[(⟨number,at_,(ra,rb),0,0⟩:Tf.Ho)]) (fun _=>rfl) hrow;have hC:=sV w2 A9 c9 hb2 hAt AP;rw [hlen]at e5;clear hd Ua B hb Rk sV hrow hAt;rw [e0,e5];go_wp2_with fail;refine hC.mono ?_;rintro _ w9 ⟨rfl,aY⟩;clear hC;have hK9:=hb2.call Zm aY;go_wp2;first|exact⟨hK9,rfl⟩|exact hK9|rfl
   · have e0:vs 6=_:=hd 6 rfl;clear hd Ua B hb Rk sV;rw[e0];go_wp2;first|exact⟨KH.rf _ _ _ _ _,rfl⟩|exact⟨KH.rf _ _ _ _ _,by simp[RS.ak]⟩|exact KH.rf _ _ _ _ _|(simp [RS.ak])
 · intro vs wa hba hR2;simp only[RS.cZ,RS.ak]at hR2;obtain ⟨e0,e1,-,e3,-,-,e6,e7,-⟩:=hR2;simp only[List.drop,List.take,List.map,RS.aQ,Act.put,List.setIfInBounds_toArray,List.set_cons_succ,List.set_cons_zero,Nat.reduceAdd];rw [e7];replace Q:=Q.below hba.1 (by omega);replace Z:=Rk wa hba;replace hb:=hb.trans (hba.1.mono (by omega));obtain ⟨z0,z1,z2,z3,z4,z5⟩:=Z.p6;clear e0 e1 e3 e6 e7 Rk sV hba;obtain ⟨qc0,qc1,qc2,qc3,qc4,qc5⟩:=Q.p6;have qf0:=fun i=>Q.frozen i
   cases res
   · go_wp2;exact bodyPost_ret (wK rfl _ _ rfl rfl rfl ((((((Q.set 0 (.int .i64 0)).set 1 (.int .i64 0)).set 2 (.string ⟨#[]⟩)).set 3 (.string ⟨#[]⟩)).set 4 (.int .i64 0)).set 5 (.int .i64 0))) rfl ⟨rfl,(aJ (aJ (aJ (aJ (aJ (aJ hb (p:=⟨w.heap.size+1,0,none⟩) (Nat.le_succ _) (.int .i64 0)) (p:=⟨w.heap.size+1,1,none⟩) (Nat.le_succ _) (.int .i64 0)) (p:=⟨w.heap.size+1,2,none⟩) (Nat.le_succ _) (.string ⟨#[]⟩)) (p:=⟨w.heap.size+1,3,none⟩) (Nat.le_succ _) (.string ⟨#[]⟩)) (p:=⟨w.heap.size+1,4,none⟩) (Nat.le_succ _) (.int .i64 0)) (p:=⟨w.heap.size+1,5,none⟩) (Nat.le_succ _) (.int .i64 0))⟩
   · go_wp2;exact bodyPost_ret (wK rfl _ _ rfl rfl rfl ((((((Q.set 0 (.int .i64 number)).set 1 (.int .i64 at_)).set 2 (.string ⟨ra.toArray⟩)).set 3 (.string ⟨rb.toArray⟩)).set 4 (.int .i64 0)).set 5 (.int .i64 0))) rfl ⟨rfl,(aJ (aJ (aJ (aJ (aJ (aJ hb (p:=⟨w.heap.size+1,0,none⟩) (Nat.le_succ _) (.int .i64 number)) (p:=⟨w.heap.size+1,1,none⟩) (Nat.le_succ _) (.int .i64 at_)) (p:=⟨w.heap.size+1,2,none⟩) (Nat.le_succ _) (.string ⟨ra.toArray⟩)) (p:=⟨w.heap.size+1,3,none⟩) (Nat.le_succ _) (.string ⟨rb.toArray⟩)) (p:=⟨w.heap.size+1,4,none⟩) (Nat.le_succ _) (.int .i64 0)) (p:=⟨w.heap.size+1,5,none⟩) (Nat.le_succ _) (.int .i64 0))⟩
theorem tX (c e lo re pay:Int) (l:List Tf.Ho) (PA:Option Addr) (nG:Nat) (ms:List fM) (os:List (Option Rat)) (A:Option Addr) (cap:Nat) (number at_:Int) (w:World) (hL:AQ ms os) (hA:AU w A cap ms) (hP:BK w PA nG l) (hE:Env w) (ra rb:List UInt8) (code:Int) (ho:OB (iW os) ra rb code) (hok:((iW os).isSome&&L_ ms number)=true) (hva:sH ⟨c,e,lo,re,pay⟩ l=true) (hat:Tp.within at_ 0 10000000=true) (hv2:sH ⟨c,e,lo,re,pay⟩ (l++[(⟨number,at_,(ra,rb),0,0⟩:Tf.Ho)])=true) :
 aW 25 #[.agg #[.int .i64 c,.int .i64 e,.int .i64 lo,.int .i64 re,.int .i64 pay],.slice PA l.length nG,.slice A ms.length cap,.int .i64 number,.int .i64 at_] w (.tuple #[.agg #[.int .i64 number,.int .i64 at_,.string ⟨ra.toArray⟩,.string ⟨rb.toArray⟩,.int .i64 0,.int .i64 0],.bool true,.int .i64 0]):=zG c e lo re pay l PA nG ms os A cap number at_ w hL hA hP hE ra rb code ho hok hva hat true hv2
theorem wW (c e lo re pay:Int) (l:List Tf.Ho) (PA:Option Addr) (nG:Nat) (ms:List fM) (os:List (Option Rat)) (A:Option Addr) (cap:Nat) (number at_:Int) (w:World) (hL:AQ ms os) (hA:AU w A cap ms) (hP:BK w PA nG l) (hE:Env w) (ra rb:List UInt8) (code:Int) (ho:OB (iW os) ra rb code) (hok:((iW os).isSome&&L_ ms number)=true) (hva:sH ⟨c,e,lo,re,pay⟩ l=true) (hat:Tp.within at_ 0 10000000=true) (hv2:sH ⟨c,e,lo,re,pay⟩ (l++[(⟨number,at_,(ra,rb),0,0⟩:Tf.Ho)])=false) :
 aW 25 #[.agg #[.int .i64 c,.int .i64 e,.int .i64 lo,.int .i64 re,.int .i64 pay],.slice PA l.length nG,.slice A ms.length cap,.int .i64 number,.int .i64 at_] w (.tuple #[.agg #[.int .i64 0,.int .i64 0,.string ⟨#[]⟩,.string ⟨#[]⟩,.int .i64 0,.int .i64 0],.bool false,.int .i64 0]):=zG c e lo re pay l PA nG ms os A cap number at_ w hL hA hP hE ra rb code ho hok hva hat false hv2
theorem J9 {α:Type} {size:Nat} {f:α->List Value} (hf:∀c,(f c).length=size) {w:World} {g:Nat} {t:TypeId} {p:List α} (h:Bx w g t (p.flatMap f).toArray):At size f w w.heap.size (some ⟨g,0,none⟩) p:=fun _=>by
 refine⟨g,0,rfl,h.lt,fun i c hi j u hj=>h.cell (0+i*size+j) ?_⟩;have hjl:j<size:=by rw[←hf c];exact (List.getElem?_eq_some_iff.1 hj).1
 rw[List.getElem?_toArray,Nat.zero_add,flat_get hf p i j c hi hjl];exact hj
theorem La {q:Rat} {n d:Int} {a b:List UInt8} (h1:q.num=n) (h2:(q.den:Int)=d) (h3:Lib.itoa n=a) (h4:Lib.itoa d=b):LQ q a b:=⟨by rw[h1,h3],by rw[h2,h4]⟩
theorem ZR:LQ (Tb.Pq 3 3 1 (10-1)) [49] [49,48,48,48]:=La (n:=1) (d:=1000) (by decide +kernel) (by decide +kernel) (by decide +kernel) (by decide +kernel)
theorem ZT:LQ (Tb.Hq 5 2 2 2) [49] [49,48]:=La (n:=1) (d:=10) (by decide +kernel) (by decide +kernel) (by decide +kernel) (by decide +kernel)
def qA:Rat:=Tb.Pq 3 3 1 (10-1)
def qB:Rat:=Tb.Hq 5 2 2 2
def qC:Rat:=Tb.Pq 3 3 2 (10-2)
theorem vk:LQ qA [49] [49,48,48,48]:=ZR
theorem C_:LQ qB [49] [49,48]:=ZT
theorem Qu:LQ qC [49] [49,50,53]:=La (n:=1) (d:=125) (by decide +kernel) (by decide +kernel) (by decide +kernel) (by decide +kernel)
theorem xI:Un qA:=⟨⟨by unfold Ig.fits;decide +kernel,by unfold Ig.fits;decide +kernel⟩,by decide +kernel,by decide +kernel⟩
theorem OY:Un qB:=⟨⟨by unfold Ig.fits;decide +kernel,by unfold Ig.fits;decide +kernel⟩,by decide +kernel,by decide +kernel⟩
theorem V4:Un qC:=⟨⟨by unfold Ig.fits;decide +kernel,by unfold Ig.fits;decide +kernel⟩,by decide +kernel,by decide +kernel⟩
def M_:Rat:=Rat.divInt 1 500
theorem Qv:LQ M_ [49] [53,48,48]:=La (n:=1) (d:=500) (by decide +kernel) (by decide +kernel) (by decide +kernel) (by decide +kernel)
theorem OZ:Un M_:=⟨⟨by unfold Ig.fits;decide +kernel,by unfold Ig.fits;decide +kernel⟩,by decide +kernel,by decide +kernel⟩
theorem DY {q:Rat} (h:um (some 0) (some q)=some q) (h1:¬ 1<q):Tf.sO [q]=some q:=by
 unfold Tf.sO
 rw[if_pos (by simp)]
 show (comb [q]).map uo=_
 have:comb [q]=some q:=h;rw [this]
 unfold uo
 simp[h1]
theorem add0 {q:Rat} (hf:jY 0 q):um (some 0) (some q)=some q:=by
 have:=uY (P:=jY) (f:=fun a b=>a+b) hf
 unfold um
 rw[this]
 congr 1
 exact Rat.zero_add q
theorem fa_A:jY 0 qA:=⟨by unfold Ig.fits;decide +kernel,by unfold Ig.fits;decide +kernel,by unfold Ig.fits;decide +kernel,by unfold Ig.fits;decide +kernel⟩
theorem fa_B:jY 0 qB:=⟨by unfold Ig.fits;decide +kernel,by unfold Ig.fits;decide +kernel,by unfold Ig.fits;decide +kernel,by unfold Ig.fits;decide +kernel⟩
theorem fa_C:jY 0 qC:=⟨by unfold Ig.fits;decide +kernel,by unfold Ig.fits;decide +kernel,by unfold Ig.fits;decide +kernel,by unfold Ig.fits;decide +kernel⟩
theorem fa_AA:jY qA qA:=⟨by unfold Ig.fits;decide +kernel,by unfold Ig.fits;decide +kernel,by unfold Ig.fits;decide +kernel,by unfold Ig.fits;decide +kernel⟩
theorem FK:iW [some qA]=some qA:=(iK [qA]).trans (DY (add0 fa_A) (by decide +kernel))
theorem Zx:iW [some qB]=some qB:=(iK [qB]).trans (DY (add0 fa_B) (by decide +kernel))
theorem Zw:iW [some qC]=some qC:=(iK [qC]).trans (DY (add0 fa_C) (by decide +kernel))
theorem KD {x:Rat} (h:¬x<qA):Tf.sO [qA,x]=some M_:=by
 unfold Tf.sO
 rw[if_pos (by simp)];have hm:Tf.iT [qA,x]=qA:=by show (if x<qA then x else qA)=qA;rw[if_neg h]
 rw[hm]
 show (comb [qA,qA]).map uo=_
 have h2:um (some qA) (some qA)=some (qA+qA):=uY (P:=jY) (f:=fun a b=>a+b) fa_AA
 have:comb [qA,qA]=some (qA+qA):=by
  show um (um (some 0) (some qA)) (some qA)=_
  rw[add0 fa_A,h2]
 rw[this]
 show some (uo (qA+qA))=some M_
 congr 1
 decide +kernel
theorem Zz:iW [some qA,some qB]=some M_:=(iK [qA,qB]).trans (KD (by decide +kernel))
theorem Zy:iW [some qA,some qC]=some M_:=(iK [qA,qC]).trans (KD (by decide +kernel))
def sA (k:Int):fM:=⟨⟨2,7,k,10,3,3,[],0,0,0⟩,none,0⟩
def sB:fM:=⟨⟨3,7,0,0,2,2,[],0,5,2⟩,none,0⟩
theorem XH {q:Rat} {a b:List UInt8} {ra rb:List UInt8} {code:Int} (h:LQ q a b) (ho:OB (some q) ra rb code):ra=a/\rb=b/\code=0:=by
 cases ho with
 | good hu lq=>exact⟨(lq.same h).1,(lq.same h).2,rfl⟩
theorem VA:OD 36 (sA 1) (some qA):=⟨fun q h=>by cases h;exact xI,fun W ra rb code hS hE ho=>by
 obtain⟨rfl,rfl,rfl⟩:=XH vk ho
 exact ru 7 1 10 3 3 none 0 0 0 0 0 _ _ W (by decide) fun W' h=>nV 3 3 1 10 _ _ W' (by decide) (by decide) (by decide) (by decide) (by decide) (by decide) vk (hE.below h)⟩
theorem bd_C:OD 36 (sA 2) (some qC):=⟨fun q h=>by cases h;exact V4,fun W ra rb code hS hE ho=>by
 obtain⟨rfl,rfl,rfl⟩:=XH Qu ho
 exact ru 7 2 10 3 3 none 0 0 0 0 0 _ _ W (by decide) fun W' h=>nV 3 3 2 10 _ _ W' (by decide) (by decide) (by decide) (by decide) (by decide) (by decide) Qu (hE.below h)⟩
theorem Y3:OD 36 sB (some qB):=⟨fun q h=>by cases h;exact OY,fun W ra rb code hS hE ho=>by
 obtain⟨rfl,rfl,rfl⟩:=XH C_ ho
 exact yt 7 0 0 2 2 none 0 0 0 5 2 _ _ W (by decide) fun W' h=>AA 5 2 2 2 _ _ W' (by decide) (by decide) (by decide) (by decide) C_ (hE.below h)⟩
theorem UD:AQ [sA 1] [some qA]:=AQ.all [qA] rfl (by decide) fun i h=>by
 obtain rfl:i=0:=by simp at h;omega
 exact VA
theorem sl_B:AQ [sB] [some qB]:=AQ.all [qB] rfl (by decide) fun i h=>by
 obtain rfl:i=0:=by simp at h;omega
 exact Y3
theorem sl_C:AQ [sA 2] [some qC]:=AQ.all [qC] rfl (by decide) fun i h=>by
 obtain rfl:i=0:=by simp at h;omega
 exact bd_C
theorem ZI:AQ [sA 1,sB] [some qA,some qB]:=AQ.all [qA,qB] rfl (by decide) fun i h=>by
 have h2:i<2:=h
 match i,h2 with
 | 0,_=>exact VA
 | 1,_=>exact Y3
theorem ZH:AQ [sA 1,sA 2] [some qA,some qC]:=AQ.all [qA,qC] rfl (by decide) fun i h=>by
 have h2:i<2:=h
 match i,h2 with
 | 0,_=>exact VA
 | 1,_=>exact bd_C
theorem qG {w:World} {s:Tf.Su} (h:s.times=[]):nI w w.heap.size ⟨s,none,0⟩:=⟨by rw[show (fM.s ⟨s,none,0⟩).times=[] from h];exact At.nil,by rw[show (fM.s ⟨s,none,0⟩).times=[] from h];exact Nat.le_refl _,by rw[show (fM.s ⟨s,none,0⟩).times=[] from h];decide⟩
theorem rM {w:World} {g:Nat} {s:Tf.Su} (ht:s.times=[]) (h:Bx w g 39 (iY ⟨s,none,0⟩).toArray):AU w (some ⟨g,0,none⟩) 1 [⟨s,none,0⟩] :=
 ⟨J9 (size:=10) (f:=iY) (p:=[⟨s,none,0⟩]) yJ (by simpa using h),fun m hm=>by rw[List.mem_singleton.1 hm];exact qG ht,Nat.le_refl _,by simp⟩
theorem KJ {w:World} {g:Nat} {s t:Tf.Su} (ht:s.times=[]) (ht':t.times=[]) (h:Bx w g 39 (iY ⟨s,none,0⟩++iY ⟨t,none,0⟩).toArray):AU w (some ⟨g,0,none⟩) 2 [⟨s,none,0⟩,⟨t,none,0⟩] :=
 ⟨J9 (size:=10) (f:=iY) (p:=[⟨s,none,0⟩,⟨t,none,0⟩]) yJ (by simpa using h),fun m hm=>by
  rcases List.mem_cons.1 hm with rfl|hm
  · exact qG ht
  · rw[List.mem_singleton.1 hm];exact qG ht',Nat.le_refl _,by simp⟩
theorem Lu {w:World}:BK w none 0 []:=⟨At.nil,Nat.le_refl _,by decide,fun h hh=>by cases hh⟩
theorem pz {w:World} {g:Nat} {h:Tf.Ho} (hl:Oy h) (hB:Bx w g 53 (aX h).toArray):BK w (some ⟨g,0,none⟩) 1 [h] :=
 ⟨J9 (size:=6) (f:=aX) (p:=[h]) h_ (by simpa using hB),Nat.le_refl _,by simp,fun x hx=>by rw[List.mem_singleton.1 hx];exact hl⟩
def Wi:Tf.Ru:=⟨1,100,100,50,3⟩
def xW (f v d:Int):Tf.Ho:=⟨7,f,([49],[49,48,48,48]),v,d⟩
theorem Jh:AL 1 100 100 50 3=true:=by decide
theorem zL (f v d:Int):Oy (xW f v d):=⟨by simp[xW],by simp[xW]⟩
theorem in_A:rF 1 100 ([49],[49,48,48,48]):=⟨qA,xI.1,by unfold iy;rw[vk.out.1,vk.out.2],xI.2.1,by decide +kernel⟩
theorem ZJ:¬rF 1 100 ([49],[49,48]):=fun ⟨q,h1,h2,h3,h4⟩=>by
 have e:q=qB:=by
  unfold iy at h2
  obtain⟨e1,e2⟩:=Prod.mk.inj h2;have e3:Lib.itoa q.num=Lib.itoa qB.num:=by rw[←e1,C_.out.1]
  have e4:Lib.itoa (q.den:Int)=Lib.itoa (qB.den:Int):=by rw[←e2,C_.out.2]
  exact Rat.ext (Ig.dH e3) (by have:=Ig.dH e4;omega)
 rw[e]at h4;exact absurd h4 (by decide +kernel)
theorem zT {f v d:Int} (h0:0<=f) (h1:f<=10000000) (hv:v=0/\d=0∨(v=1∨v=2)/\f<=d/\d<=11000000):Tf.Fm (rF 1 100) (xW f v d):=⟨by show (0:Int)<=7;decide,by show (7:Int)<=_;decide,h0,h1,in_A,hv⟩
theorem I7:sH Wi []=true:=l7 ⟨jq.1 Jh,Tf.Va.nil _ _⟩
theorem DU:sH Wi [xW 1000 0 0]=true:=l7 ⟨jq.1 Jh,Tf.Va.one (zT (by decide) (by decide) (.inl ⟨rfl,rfl⟩))⟩
theorem Xu:sH Wi [xW 1000 0 0,xW 1150 0 0]=true:=l7 ⟨jq.1 Jh,(Tf.Va.snoc (l:=[xW 1000 0 0])).2 ⟨Tf.Va.one (zT (by decide) (by decide) (.inl ⟨rfl,rfl⟩)),by decide,zT (by decide) (by decide) (.inl ⟨rfl,rfl⟩),fun g hg=>by
 rw[List.mem_singleton.1 hg]
 exact⟨by decide,fun _=>by decide⟩⟩⟩
theorem OX:sH Wi [xW 1000 0 0,xW 1149 0 0]=false:=qF fun hv=>by
 have:=((Tf.Va.snoc (l:=[xW 1000 0 0])).1 hv.2).2.2.2 _ (List.mem_singleton_self _);have h2:=this.2 rfl
 revert h2
 decide
theorem Uh:sH Wi [⟨7,1000,([49],[49,48]),0,0⟩]=false:=qF fun hv=>by
 have:=hv.2.fm _ (List.mem_singleton_self _);exact ZJ this.b
theorem G5 (n t:Int):G6 Wi [xW 1000 0 0] n t=((7:Int)==n&&(decide (1000<=t)&&decide (t<1100))):=by
 rw[WT (yE.1 DU)]
 show ((7:Int)==n&&Tf.U9 Wi (xW 1000 0 0) t||false)=_
 rw[Bool.or_false];rfl
theorem o7 {fn:Func} {t:Tmp} {g:Nat} {x0 x1 x2 x3 x4 x5 x6 x7 x8 x9:Value} (h:fn.results=#[.cell t 39]) (tmps:Array Value) (w:World) (ht:tmps.getD t undef=.pointer (some ⟨g,0,none⟩)) (hB:Bx w g 39 #[x0,x1,x2,x3,x4,x5,x6,x7,x8,x9]) :
 (results fn tmps).run Tryz.prog w=.ok (.agg #[x0,x1,x2,x3,x4,x5,x6,x7,x8,x9]) w:=by
 obtain⟨h0,h1,h2,h3,h4,h5,h6,h7,h8,h9⟩:=hB.p10;have ht':tmps[t]?.getD undef=.pointer (some ⟨g,0,none⟩):=by simpa using ht
 simp only[results,h];simp [go_sem,ht',h0,h1,h2,h3,h4,h5,h6,h7,h8,h9,loadVar]
theorem tJ {fn:Func} {t:Tmp} {g:Nat} {x0 x1 x2 x3 x4:Value} (h:fn.results=#[.cell t 31]) (tmps:Array Value) (w:World) (ht:tmps.getD t undef=.pointer (some ⟨g,0,none⟩)) (hB:Bx w g 31 #[x0,x1,x2,x3,x4]) :
 (results fn tmps).run Tryz.prog w=.ok (.agg #[x0,x1,x2,x3,x4]) w:=by
 obtain⟨h0,h1,h2,h3,h4⟩:=hB.p5;have ht':tmps[t]?.getD undef=.pointer (some ⟨g,0,none⟩):=by simpa using ht
 simp only[results,h];simp [go_sem,ht',h0,h1,h2,h3,h4,loadVar]
theorem iO (k:Int) (w:World):aW 40 #[.int .i64 k] w (.agg #[.int .i64 2,.int .i64 7,.int .i64 k,.int .i64 10,.int .i64 3,.int .i64 3,.slice none 0 0,.int .i64 0,.int .i64 0,.int .i64 0]):=by
 have B:=Bx.mk w 39 #[.int .i64 2,.int .i64 7,.int .i64 k,.int .i64 10,.int .i64 3,.int .i64 3,.slice none 0 0,.int .i64 0,.int .i64 0,.int .i64 0];have hb:=au w (.cells #[.int .i64 2,.int .i64 7,.int .i64 k,.int .i64 10,.int .i64 3,.int .i64 3,.slice none 0 0,.int .i64 0,.int .i64 0,.int .i64 0] 39);obtain ⟨c0,c1,c2,c3,c4,c5,c6,c7,c8,c9⟩:=B.p10
 go_enter Tryz.func40,Tryz.ntmps40
 go_wp2;exact bodyPost_ret (o7 rfl _ _ rfl B) rfl ⟨rfl,hb⟩
theorem CO (w:World):aW 39 #[] w (.agg #[.int .i64 1,.int .i64 100,.int .i64 100,.int .i64 50,.int .i64 3]):=by
 have B:=Bx.mk w 31 #[.int .i64 1,.int .i64 100,.int .i64 100,.int .i64 50,.int .i64 3];have hb:=au w (.cells #[.int .i64 1,.int .i64 100,.int .i64 100,.int .i64 50,.int .i64 3] 31);obtain ⟨c0,c1,c2,c3,c4⟩:=B.p5
 go_enter Tryz.func39,Tryz.ntmps39
 go_wp2;exact bodyPost_ret (tJ rfl _ _ rfl B) rfl ⟨rfl,hb⟩
theorem Ep (a b:List UInt8) (w:World):aW 41 #[.agg #[.string ⟨a.toArray⟩,.string ⟨b.toArray⟩],.string ⟨a.toArray⟩,.string ⟨b.toArray⟩] w (.bool true):=by
 have hb:=au w (.cells #[.string ⟨a.toArray⟩,.string ⟨b.toArray⟩] 51);have B:=Bx.mk w 51 #[.string ⟨a.toArray⟩,.string ⟨b.toArray⟩];have c0:=B.cell 0 rfl;have c1:=B.cell 1 rfl
 go_enter Tryz.func41,Tryz.ntmps41
 go_wp2;go_ret;exact ⟨rfl,hb⟩
theorem uX (v d x:Int) (w:World) (hv:v=0/\d=0∨(v=1∨v=2)/\1000<=d/\d<=11000000) (hx:Tf.owed Wi (xW 1000 v d)=x) (hE:Env w):aW 42 #[.int .i64 v,.int .i64 d,.int .i64 x] w (.bool true):=by
 have hR:=fun w0=>CO w0
 have hO:=fun w0 hE0=>Ov 1 100 100 50 3 7 1000 v d [49] [49,48,48,48] w0 (by decide) (by decide) Jh (yh (zT (by decide) (by decide) hv)) hE0
 have hx':Tf.owed ⟨1,100,100,50,3⟩ ⟨7,1000,([49],[49,48,48,48]),v,d⟩=x:=hx;rw [hx']at hO;clear hx hx' hv
 go_enter Tryz.func42,Tryz.ntmps42
 go_wp2_with fail;refine (hR _).mono ?_;rintro _ w1 ⟨rfl,hb1⟩;have Yw:=hO w1 (hE.below hb1);clear hR hO;go_wp2_with fail;refine Yw.mono ?_;rintro _ w2 ⟨rfl,hb2⟩;clear Yw;go_wp2;go_ret;exact ⟨by simp,aj hb1 hb2⟩
theorem ex_a (W:World) (hE:Env W):aW 36 #[.agg #[.int .i64 2,.int .i64 7,.int .i64 1,.int .i64 10,.int .i64 3,.int .i64 3,.slice none 0 0,.int .i64 0,.int .i64 0,.int .i64 0]] W (.tuple #[.agg #[.string ⟨#[49]⟩,.string ⟨#[49,48,48,48]⟩],.int .i64 0]) :=
 VA.2 W _ _ _ (qG rfl) hE (.good xI vk)
theorem ex_b (W:World) (hE:Env W):aW 36 #[.agg #[.int .i64 3,.int .i64 7,.int .i64 0,.int .i64 0,.int .i64 2,.int .i64 2,.slice none 0 0,.int .i64 0,.int .i64 5,.int .i64 2]] W (.tuple #[.agg #[.string ⟨#[49]⟩,.string ⟨#[49,48]⟩],.int .i64 0]) :=
 Y3.2 W _ _ _ (qG rfl) hE (.good OY C_)
theorem ex_c (W:World) {g:Nat} (hB:Bx W g 39 #[.int .i64 2,.int .i64 7,.int .i64 1,.int .i64 10,.int .i64 3,.int .i64 3,.slice none 0 0,.int .i64 0,.int .i64 0,.int .i64 0,.int .i64 3,.int .i64 7,.int .i64 0,.int .i64 0,.int .i64 2,.int .i64 2,.slice none 0 0,.int .i64 0,.int .i64 5,.int .i64 2]) (hE:Env W):aW 33 #[.slice (some ⟨g,0,none⟩) 2 2] W (.tuple #[.agg #[.string ⟨#[49]⟩,.string ⟨#[53,48,48]⟩],.int .i64 0]) :=
 have h:=KJ (w:=W) (g:=g) (s:=(sA 1).s) (t:=(sB).s) rfl rfl hB
 ZI.sO _ 2 W _ _ _ h.at_ h.each h.cap h.len hE (by rw[Zz];exact .good OZ Qv)
theorem ex_d (W:World) {g:Nat} (hB:Bx W g 39 #[.int .i64 2,.int .i64 7,.int .i64 1,.int .i64 10,.int .i64 3,.int .i64 3,.slice none 0 0,.int .i64 0,.int .i64 0,.int .i64 0,.int .i64 2,.int .i64 7,.int .i64 2,.int .i64 10,.int .i64 3,.int .i64 3,.slice none 0 0,.int .i64 0,.int .i64 0,.int .i64 0]) (hE:Env W):aW 33 #[.slice (some ⟨g,0,none⟩) 2 2] W (.tuple #[.agg #[.string ⟨#[49]⟩,.string ⟨#[53,48,48]⟩],.int .i64 0]) :=
 have h:=KJ (w:=W) (g:=g) (s:=(sA 1).s) (t:=(sA 2).s) rfl rfl hB
 ZH.sO _ 2 W _ _ _ h.at_ h.each h.cap h.len hE (by rw[Zy];exact .good OZ Qv)
theorem YJ (W:World) {g:Nat} (hB:Bx W g 39 #[.int .i64 2,.int .i64 7,.int .i64 1,.int .i64 10,.int .i64 3,.int .i64 3,.slice none 0 0,.int .i64 0,.int .i64 0,.int .i64 0]) (hE:Env W):aW 25 #[.agg #[.int .i64 1,.int .i64 100,.int .i64 100,.int .i64 50,.int .i64 3],.slice none 0 0,.slice (some ⟨g,0,none⟩) 1 1,.int .i64 7,.int .i64 1000] W (.tuple #[.agg #[.int .i64 7,.int .i64 1000,.string ⟨#[49]⟩,.string ⟨#[49,48,48,48]⟩,.int .i64 0,.int .i64 0],.bool true,.int .i64 0]) :=
 tX 1 100 100 50 3 [] none 0 [sA 1] _ _ 1 7 1000 W UD (rM rfl hB) Lu hE _ _ _ (by rw[FK];exact .good xI vk) (by rw[FK];rfl) I7 (by decide) DU
theorem RJ (W:World) {g:Nat} (hB:Bx W g 39 #[.int .i64 2,.int .i64 7,.int .i64 1,.int .i64 10,.int .i64 3,.int .i64 3,.slice none 0 0,.int .i64 0,.int .i64 0,.int .i64 0]) {gp:Nat} (hP:Bx W gp 53 #[.int .i64 7,.int .i64 1000,.string ⟨#[49]⟩,.string ⟨#[49,48,48,48]⟩,.int .i64 0,.int .i64 0]) (hE:Env W):aW 25 #[.agg #[.int .i64 1,.int .i64 100,.int .i64 100,.int .i64 50,.int .i64 3],.slice (some ⟨gp,0,none⟩) 1 1,.slice (some ⟨g,0,none⟩) 1 1,.int .i64 7,.int .i64 1149] W (.tuple #[.agg #[.int .i64 0,.int .i64 0,.string ⟨#[]⟩,.string ⟨#[]⟩,.int .i64 0,.int .i64 0],.bool false,.int .i64 0]) :=
 wW 1 100 100 50 3 [xW 1000 0 0] _ 1 [sA 1] _ _ 1 7 1149 W UD (rM rfl hB) (pz (zL 1000 0 0) hP) hE _ _ _ (by rw[FK];exact .good xI vk) (by rw[FK];rfl) DU (by decide) OX
theorem YI (W:World) {g:Nat} (hB:Bx W g 39 #[.int .i64 2,.int .i64 7,.int .i64 1,.int .i64 10,.int .i64 3,.int .i64 3,.slice none 0 0,.int .i64 0,.int .i64 0,.int .i64 0]) {gp:Nat} (hP:Bx W gp 53 #[.int .i64 7,.int .i64 1000,.string ⟨#[49]⟩,.string ⟨#[49,48,48,48]⟩,.int .i64 0,.int .i64 0]) (hE:Env W):aW 25 #[.agg #[.int .i64 1,.int .i64 100,.int .i64 100,.int .i64 50,.int .i64 3],.slice (some ⟨gp,0,none⟩) 1 1,.slice (some ⟨g,0,none⟩) 1 1,.int .i64 7,.int .i64 1150] W (.tuple #[.agg #[.int .i64 7,.int .i64 1150,.string ⟨#[49]⟩,.string ⟨#[49,48,48,48]⟩,.int .i64 0,.int .i64 0],.bool true,.int .i64 0]) :=
 tX 1 100 100 50 3 [xW 1000 0 0] _ 1 [sA 1] _ _ 1 7 1150 W UD (rM rfl hB) (pz (zL 1000 0 0) hP) hE _ _ _ (by rw[FK];exact .good xI vk) (by rw[FK];rfl) DU (by decide) Xu
theorem Vs (W:World) {g:Nat} (hB:Bx W g 39 #[.int .i64 3,.int .i64 7,.int .i64 0,.int .i64 0,.int .i64 2,.int .i64 2,.slice none 0 0,.int .i64 0,.int .i64 5,.int .i64 2]) (hE:Env W):aW 25 #[.agg #[.int .i64 1,.int .i64 100,.int .i64 100,.int .i64 50,.int .i64 3],.slice none 0 0,.slice (some ⟨g,0,none⟩) 1 1,.int .i64 7,.int .i64 1000] W (.tuple #[.agg #[.int .i64 0,.int .i64 0,.string ⟨#[]⟩,.string ⟨#[]⟩,.int .i64 0,.int .i64 0],.bool false,.int .i64 0]) :=
 wW 1 100 100 50 3 [] none 0 [sB] _ _ 1 7 1000 W sl_B (rM rfl hB) Lu hE _ _ _ (by rw[Zx];exact .good OY C_) (by rw[Zx];rfl) I7 (by decide) Uh
theorem YL (W:World) (hE:Env W):aW 29 #[.agg #[.int .i64 1,.int .i64 100,.int .i64 100,.int .i64 50,.int .i64 3],.agg #[.int .i64 7,.int .i64 1000,.string ⟨#[49]⟩,.string ⟨#[49,48,48,48]⟩,.int .i64 0,.int .i64 0]] W (.tuple #[.int .i64 1100,.int .i64 0]) :=
 DL 1 100 100 50 3 7 1000 0 0 [49] [49,48,48,48] W (by decide) (by decide) Jh (yh (zT (by decide) (by decide) (.inl ⟨rfl,rfl⟩))) hE
theorem YM (W:World) {g:Nat} (hB:Bx W g 39 #[.int .i64 2,.int .i64 7,.int .i64 1,.int .i64 10,.int .i64 3,.int .i64 3,.slice none 0 0,.int .i64 0,.int .i64 0,.int .i64 0]) (hE:Env W):aW 27 #[.agg #[.int .i64 1,.int .i64 100,.int .i64 100,.int .i64 50,.int .i64 3],.agg #[.int .i64 7,.int .i64 1000,.string ⟨#[49]⟩,.string ⟨#[49,48,48,48]⟩,.int .i64 0,.int .i64 0],.slice (some ⟨g,0,none⟩) 1 1] W (.bool true):=by
 have h:=qY 1 100 100 50 3 7 1000 0 0 [49] [49,48,48,48] [sA 1] _ _ 1 W (by decide) (by decide) UD (rM rfl hB) hE _ _ _ (show OB (iW _) _ _ 0 by rw[FK];exact .good xI vk);rw [FK,Jh,show vK 1 100 ⟨7,1000,([49],[49,48,48,48]),0,0⟩=true from (yh (zT (by decide) (by decide) (.inl ⟨rfl,rfl⟩)))]at h;exact h
theorem YK (W:World) {g:Nat} (hB:Bx W g 39 #[.int .i64 2,.int .i64 7,.int .i64 2,.int .i64 10,.int .i64 3,.int .i64 3,.slice none 0 0,.int .i64 0,.int .i64 0,.int .i64 0]) (hE:Env W):aW 27 #[.agg #[.int .i64 1,.int .i64 100,.int .i64 100,.int .i64 50,.int .i64 3],.agg #[.int .i64 7,.int .i64 1000,.string ⟨#[49]⟩,.string ⟨#[49,48,48,48]⟩,.int .i64 0,.int .i64 0],.slice (some ⟨g,0,none⟩) 1 1] W (.bool false):=by
 have h:=qY 1 100 100 50 3 7 1000 0 0 [49] [49,48,48,48] [sA 2] _ _ 1 W (by decide) (by decide) sl_C (rM rfl hB) hE _ _ _ (show OB (iW _) _ _ 0 by rw[Zw];exact .good V4 Qu);rw [Zw,Jh,show vK 1 100 ⟨7,1000,([49],[49,48,48,48]),0,0⟩=true from (yh (zT (by decide) (by decide) (.inl ⟨rfl,rfl⟩)))]at h;exact h
theorem ex_k1 (W:World) {gp:Nat} (hP:Bx W gp 53 #[.int .i64 7,.int .i64 1000,.string ⟨#[49]⟩,.string ⟨#[49,48,48,48]⟩,.int .i64 0,.int .i64 0]) (hE:Env W):aW 23 #[.agg #[.int .i64 1,.int .i64 100,.int .i64 100,.int .i64 50,.int .i64 3],.slice (some ⟨gp,0,none⟩) 1 1,.int .i64 7,.int .i64 1099,.int .i64 1] W (.bool true):=by
 have hH:=pz (zL 1000 0 0) hP;have h:=uj 1 100 100 50 3 [xW 1000 0 0] _ 1 7 1099 1 W hH.at_ hH.cap hH.len hH.txt hE;rw [show G6 ⟨1,100,100,50,3⟩ [xW 1000 0 0] 7 1099=_ from G5 7 1099]at h;exact h
theorem ex_k2 (W:World) {gp:Nat} (hP:Bx W gp 53 #[.int .i64 7,.int .i64 1000,.string ⟨#[49]⟩,.string ⟨#[49,48,48,48]⟩,.int .i64 0,.int .i64 0]) (hE:Env W):aW 23 #[.agg #[.int .i64 1,.int .i64 100,.int .i64 100,.int .i64 50,.int .i64 3],.slice (some ⟨gp,0,none⟩) 1 1,.int .i64 7,.int .i64 1100,.int .i64 1] W (.bool false):=by
 have hH:=pz (zL 1000 0 0) hP;have h:=uj 1 100 100 50 3 [xW 1000 0 0] _ 1 7 1100 1 W hH.at_ hH.cap hH.len hH.txt hE;rw [show G6 ⟨1,100,100,50,3⟩ [xW 1000 0 0] 7 1100=_ from G5 7 1100]at h;exact h
theorem ex_k3 (W:World) {gp:Nat} (hP:Bx W gp 53 #[.int .i64 7,.int .i64 1000,.string ⟨#[49]⟩,.string ⟨#[49,48,48,48]⟩,.int .i64 0,.int .i64 0]) (hE:Env W):aW 23 #[.agg #[.int .i64 1,.int .i64 100,.int .i64 100,.int .i64 50,.int .i64 3],.slice (some ⟨gp,0,none⟩) 1 1,.int .i64 7,.int .i64 1099,.int .i64 3] W (.bool false):=by
 have hH:=pz (zL 1000 0 0) hP;have h:=uj 1 100 100 50 3 [xW 1000 0 0] _ 1 7 1099 3 W hH.at_ hH.cap hH.len hH.txt hE;rw [show G6 ⟨1,100,100,50,3⟩ [xW 1000 0 0] 7 1099=_ from G5 7 1099]at h;exact h
theorem ex_h1 (W:World) {gp:Nat} (hP:Bx W gp 53 #[.int .i64 7,.int .i64 1000,.string ⟨#[49]⟩,.string ⟨#[49,48,48,48]⟩,.int .i64 0,.int .i64 0]) (hE:Env W):aW 21 #[.agg #[.int .i64 1,.int .i64 100,.int .i64 100,.int .i64 50,.int .i64 3],.slice (some ⟨gp,0,none⟩) 1 1,.int .i64 7,.int .i64 1000] W (.bool true):=by
 have hH:=pz (zL 1000 0 0) hP;have h:=zM 1 100 100 50 3 [xW 1000 0 0] _ 1 7 1000 W hH.at_ hH.cap hH.len hH.txt hE;rw [show G6 ⟨1,100,100,50,3⟩ [xW 1000 0 0] 7 1000=_ from G5 7 1000]at h;exact h
theorem ex_h2 (W:World) {gp:Nat} (hP:Bx W gp 53 #[.int .i64 7,.int .i64 1000,.string ⟨#[49]⟩,.string ⟨#[49,48,48,48]⟩,.int .i64 0,.int .i64 0]) (hE:Env W):aW 21 #[.agg #[.int .i64 1,.int .i64 100,.int .i64 100,.int .i64 50,.int .i64 3],.slice (some ⟨gp,0,none⟩) 1 1,.int .i64 8,.int .i64 1000] W (.bool false):=by
 have hH:=pz (zL 1000 0 0) hP;have h:=zM 1 100 100 50 3 [xW 1000 0 0] _ 1 8 1000 W hH.at_ hH.cap hH.len hH.txt hE;rw [show G6 ⟨1,100,100,50,3⟩ [xW 1000 0 0] 8 1000=_ from G5 8 1000]at h;exact h
theorem ex_v1 (W:World) (hE:Env W):aW 19 #[.agg #[.int .i64 1,.int .i64 100,.int .i64 100,.int .i64 50,.int .i64 3],.slice none 0 0] W (.bool true):=by
 have h:=tH 1 100 100 50 3 [] none 0 W At.nil (Nat.le_refl _) (by decide) (fun h hh=>by cases hh) hE;rw [show sH ⟨1,100,100,50,3⟩ []=true from I7]at h;exact h
theorem ex_v2 (W:World) (hE:Env W):aW 19 #[.agg #[.int .i64 0,.int .i64 0,.int .i64 0,.int .i64 0,.int .i64 0],.slice none 0 0] W (.bool false):=by
 have h:=tH 0 0 0 0 0 [] none 0 W At.nil (Nat.le_refl _) (by decide) (fun h hh=>by cases hh) hE;rw [B_ (by decide)]at h;exact h
end Go.Proofs.YtelljijajgiabaaGreatDoor

import Derived.Test.YtelljijajgiabaaGreatDoorQ11
import Init.Data.Int.Pow
set_option linter.unusedVariables false
set_option linter.unusedSimpArgs false
set_option maxRecDepth 100000
set_option maxHeartbeats 8000000
namespace Go.Proofs.YtelljijajgiabaaGreatDoor
open Go.RowKit Go.Shelf
theorem Fp (qs:List Rat) (A:Option Addr) (cap:Nat) (r:Rat) (ra rb:List UInt8) (w:World) (hA:At 2 nD w w.heap.size A (qs.map iy)) (hn:qs.length<=cap) (hl:qs.length<=20) (hq:∀q∈qs,Un q) (hc:Kp (comb qs=some r)) (lr:LQ (uo r) ra rb) (hE:Env w) :
 aW 60 #[.slice A qs.length cap] w (.tuple #[.agg #[.string ⟨ra.toArray⟩,.string ⟨rb.toArray⟩],.int .i64 0]):=by
 have hb0:=au w (.cells #[.string ⟨#[]⟩,.string ⟨#[]⟩] 51);have BR:=Bx.mk w 51 #[.string ⟨#[]⟩,.string ⟨#[]⟩];obtain ⟨za,zb,lz⟩:=LQ.ex (Wq 0);have hI:I64 0:=⟨by decide,by decide⟩
 have hcon:=Xa (qs.map iy) A cap (w.alloc (.cells #[.string ⟨#[]⟩,.string ⟨#[]⟩] 51)) ((hA.below hb0).more hb0.size) (by rw[List.length_map];exact hn) (by rw[List.length_map];omega) (fun p hp W hW=>by
  obtain⟨q,hqm,rfl⟩:=List.mem_map.1 hp
  exact Xd q _ _ W ⟨⟨rfl,rfl⟩⟩ (hq q hqm).1 ((hE.below hb0).below hW))
 rw[List.length_map]at hcon
 have hany:(qs.map iy).any (fun p=> !FD p)=false:=by
  rw[List.any_eq_false];intro p hp;obtain ⟨q,hqm,rfl⟩:=List.mem_map.1 hp;rw [Kz ⟨q,hq q hqm,rfl⟩];decide
 rw[hany]at hcon;have t0:decide ((qs.length:Int) > 20)=false:=by simp;omega
 obtain⟨oa,ob,lo⟩:=LQ.ex r;have hrf:Rq.Fq r:=EP (fun q h=>(hq q h).1) r hc.out;have vO:VO (comb qs)=.agg #[.string ⟨oa.toArray⟩,.string ⟨ob.toArray⟩]:=by rw[hc.out,←lo.eq];rfl
 have eO':eO (comb qs)=0:=by rw[hc.out];rfl
 have oK:∀W,Below w.heap.size w W->Env W:=fun W hW=>hE.below hW
 clear hany
 go_enter Tryz.func60,Tryz.ntmps60
 go_wp2_with (go_at_call 87;refine hcon.mono ?_;rintro _ w1 ⟨rfl,hb1⟩;clear hcon)
 replace hb0:=aj hb0 hb1;replace BR:=BR.call hb1;have JK:=bNew hb0 (.cells #[.int .i64 0] 54);have BE:=Bx.mk w1 54 #[.int .i64 0];replace BR:=BR.new (.cells #[.int .i64 0] 54);have lR:=BR.lt;have hw:=oL (w1.alloc (.cells #[.int .i64 0] 54)) hI lz (oK _ JK);have JH:=hb0.size;have hRlt:w.heap.size<w1.heap.size:=by have:=hb1.size;rw[ah]at this;omega
 refine hw.mono ?_;rintro _ w2 ⟨rfl,hb2⟩;clear hw;replace JK:=aj JK hb2;replace BE:=BE.call hb2;replace BR:=BR.call hb2;have hF:=Hr qs A cap w1.heap.size za zb w2 w.heap.size lz (hA.below JK) hn hl (fun q h=>(hq q h).1) BE JH (fun W hW=>oK W (JK.trans hW));rw [vO,eO']at hF;go_wp2_with fail;refine hF.mono ?_;rintro _ w3 ⟨rfl,BE3,hO⟩;clear hF;have BR3:=hO.bx BR (by omega);have hb3:=JK.trans (hO.to JH (Nat.le_trans JH (by have:=BE.lt;omega)));have hb4:=bNew hb3 (.cells #[.string ⟨oa.toArray⟩,.string ⟨ob.toArray⟩] 51);have BE4:=BE3.new (.cells #[.string ⟨oa.toArray⟩,.string ⟨ob.toArray⟩] 51);have Xn:=BR3.new (.cells #[.string ⟨oa.toArray⟩,.string ⟨ob.toArray⟩] 51);have B6:=Bx.mk w3 51 #[.string ⟨oa.toArray⟩,.string ⟨ob.toArray⟩];have e0:=BE4.cell 0 rfl;have s0:=B6.cell 0 rfl;have s1:=B6.cell 1 rfl;have hL:=Ld (w3.alloc (.cells #[.string ⟨oa.toArray⟩,.string ⟨ob.toArray⟩] 51)) hrf lo lr (oK _ hb4);clear hE oK hc lr lo lz hrf hq hA vO eO' hO BE BE3 BR BR3 hb0 JK hb1 hb2 hb3;go_wp2_with fail;refine hL.mono ?_;rintro _ w5 ⟨rfl,hb5⟩;clear hL;replace Xn:=Xn.call hb5;have d0:=Xn.cell 0 rfl;have d1:=Xn.cell 1 rfl;have f0:=Xn.frozen 0;have f1:=Xn.frozen 1;have B9:=(Xn.set 0 (.string ⟨ra.toArray⟩)).set 1 (.string ⟨rb.toArray⟩);have aY:=aJ (aJ (aj hb4 hb5) (p:=⟨w.heap.size,0,none⟩) (Nat.le_refl _) (.string ⟨ra.toArray⟩)) (p:=⟨w.heap.size,1,none⟩) (Nat.le_refl _) (.string ⟨rb.toArray⟩);clear Xn BE4 B6 e0 s0 s1 hb4 hb5;go_wp2;exact bodyPost_ret (aU rfl _ _ rfl rfl B9) rfl ⟨rfl,aY⟩
theorem MW {fn:Func} {s t u:Tmp} {g:Nat} {n d:ByteArray} {e x:Value} (h:fn.results=#[.tmp s,.cell t 51,.tmp u]) (tmps:Array Value) (w:World) (hs:tmps.getD s undef=x) (ht:tmps.getD t undef=.pointer (some ⟨g,0,none⟩)) (hu:tmps.getD u undef=e) (hB:Bx w g 51 #[.string n,.string d]) :
 (results fn tmps).run Tryz.prog w=.ok (.tuple #[x,.agg #[.string n,.string d],e]) w:=by
 have h0:=hB.cell 0 rfl;have h1:=hB.cell 1 rfl;have hs':tmps[s]?.getD undef=x:=by simpa using hs
 have ht':tmps[t]?.getD undef=.pointer (some ⟨g,0,none⟩):=by simpa using ht
 have hu':tmps[u]?.getD undef=e:=by simpa using hu
 simp only[results,h];simp [go_sem,hs',ht',hu',h0,h1,loadVar]
def bst (n m mx:Nat) (c e:Int):Rat:=Tb.Pq n m c (e-c)*Wq mx
theorem Ku (l:List Int) (A:Option Addr) (cap:Nat) (width:Int) (n:Nat) (c e:Int) (w:World) (hA:At 1 aO w w.heap.size A l) (hn:l.length<=cap) (ht:Tb.VI l) (hw1:1<=width) (hw2:width<=10000000) (OL:n<=50) (h0:0<=c) (h1:c<=e) (h2:e<=1000) (h3:1<=e) (hE:Env w) :
 Calls Tryz.prog 105 #[.slice A l.length cap,.int .i64 width,.int .i64 n,.agg #[.int .i64 c,.int .i64 e]] w fun e' w'=>(∃(best:Nat) (at_:Int) (ra rb:List UInt8),e'=.returned (.tuple #[.int .i64 best,.agg #[.string ⟨ra.toArray⟩,.string ⟨rb.toArray⟩],.int .i64 0])/\Tb.Bw l width l.length best at_/\best<=l.length/\LQ (uo (bst n (min best (n+1)) (max l.length 1) c e)) ra rb)/\Below w.heap.size w w':=by
 have hb0:=bNew (au w (.cells #[.int .i64 c,.int .i64 e] 29)) (.cells #[.string ⟨#[]⟩,.string ⟨#[]⟩] 51);have B0:=(Bx.mk w 29 #[.int .i64 c,.int .i64 e]).new (.cells #[.string ⟨#[]⟩,.string ⟨#[]⟩] 51);have B1:=Bx.mk (w.alloc (.cells #[.int .i64 c,.int .i64 e] 29)) 51 #[.string ⟨#[]⟩,.string ⟨#[]⟩];rw [ah]at B1;have hl60:=ht.1;have hS:=Ol l A cap width _ ((hA.below hb0).more hb0.size) hn ht hw1 hw2;have oK:∀W,Below w.heap.size w W->Env W:=fun W hW=>hE.below hW
 go_enter Tryz.func105,Tryz.ntmps105
 go_wp2_with fail;refine hS.mono ?_;rintro _ w1 ⟨⟨best,at_,rfl,hBw,hb1',hb2',-,-⟩,hb1⟩;clear hS hA;obtain ⟨bn,rfl⟩:=Int.eq_ofNat_of_zero_le hb1';have hbl:bn<=l.length:=by omega
 replace hb0:=aj hb0 hb1;replace B0:=B0.call hb1;replace B1:=B1.call hb1;have c0:=B0.cell 0 rfl;have c1:=B0.cell 1 rfl;have hT:=yX n c e w1 OL h0 h1 h2 h3 (oK _ hb0);obtain ⟨m,hm⟩:∃m,min bn (n+1)=m:=⟨_,rfl⟩
 obtain⟨mx,hmx⟩:∃m,max l.length 1=m:=⟨_,rfl⟩
 have hmi:min (bn:Int) ((n:Int)+1)=(m:Int):=by omega
 have hmxi:max (l.length:Int) 1=(mx:Int):=by omega
 obtain⟨pa,pb,lp⟩:=LQ.ex (Tb.Pq n m c (e-c));obtain ⟨wa,wb,lw⟩:=LQ.ex (Wq mx);have hIm:I64 (mx:Int):=⟨by omega,by omega⟩
 have hpq:=Tb.TP (n:=n) h0 (show 0<=e-c by omega) (by omega) (by omega) m;have hwn:(Wq (mx:Int)).num=(mx:Int):=by rw[Aq];exact Rat.num_intCast _
 have hwd:(Wq (mx:Int)).den=1:=by rw[Aq];exact Rat.den_intCast _
 have hms:Rq.Sz 2 (mx:Int):=by unfold Rq.Sz;rw[Int.natAbs_natCast];omega
 have hMul:=fun W hEW=>DJ (Tb.Pq n m c (e-c)) (Wq mx) W hEW (Xj OL h0 h1 h2 h3) (nT hIm) (by rw[hwn];exact (hpq.num.mul hms).fits (by omega)) (by rw[hwd];exact (hpq.den.mul Rq.O_).fits (by omega))
 obtain⟨ma,mb,lm⟩:=LQ.ex (bst n m mx c e)
 have hqm:Rq.Fq (bst n m mx c e):=by
  have hp:=Tb.Fa (n:=n) (k:=m) h0 (show 0<=e-c by omega) (by omega)
  have e1:bst n m mx c e=Rat.divInt ((Tb.Pq n m c (e-c)).num*(mx:Int)) ((Tb.Pq n m c (e-c)).den:Int):=by
   unfold bst
   rw[←Rq.wQ,hwn,hwd];simp
  obtain⟨s1,s2⟩:=pO ((Tb.Pq n m c (e-c)).num*(mx:Int)) (Tb.Pq n m c (e-c)).den (Tb.Pq n m c (e-c)).den_pos;rw [←e1]at s1 s2;refine ⟨Nat.lt_of_le_of_lt s1 ((hpq.num.mul hms).fits (by omega)),?_⟩;have hd:=hpq.den.fits (show 3*n+1<=200 by omega)
  unfold Ig.fits at hd ⊢
  rw[Int.natAbs_natCast]at hd ⊢;omega
 have WW:=fun W hEW=>(by
  have h:=hMul W hEW;rw [lp.eq,lw.eq,show QV (Tb.Pq n m c (e-c)*Wq mx)=_ from lm.eq]at h
  exact h:aW 37 #[.agg #[.string ⟨pa.toArray⟩,.string ⟨pb.toArray⟩],.agg #[.string ⟨wa.toArray⟩,.string ⟨wb.toArray⟩]] W (.tuple #[.agg #[.string ⟨ma.toArray⟩,.string ⟨mb.toArray⟩],.int .i64 0]))
 obtain⟨ra,rb,lr⟩:=LQ.ex (uo (bst n m mx c e));have hmle:m<=n+1:=by omega
 clear hMul hwn hwd hms hpq hE;go_wp2_with fail;refine hT.mono ?_;rintro _ w2 ⟨⟨gn,ga,gr,gy,go,rfl,hTl⟩,hb2⟩;clear hT c0 c1;replace hb0:=aj hb0 hb2;replace B1:=B1.call hb2;have hK:=FM n m c e gn ga gr gy go pa pb w2 hTl OL hmle h0 h1 h2 h3 lp (oK _ hb0);clear hb1 hb2 B0;go_wp2_with fail;refine hK.mono ?_;rintro _ w3 ⟨rfl,hb3⟩;clear hK lp;replace hb0:=aj hb0 hb3;replace B1:=B1.call hb3;have hwh:=oL w3 hIm lw (oK _ hb0);go_wp2_with fail;refine hwh.mono ?_;rintro _ w4 ⟨rfl,hb4⟩;clear hwh lw;replace hb0:=aj hb0 hb4;replace B1:=B1.call hb4;have hM4:=WW w4 (oK _ hb0);go_wp2_with fail;refine hM4.mono ?_;rintro _ w5 ⟨rfl,hb5⟩;clear hM4 WW hb3 hb4;replace hb0:=bNew (aj hb0 hb5) (.cells #[.string ⟨ma.toArray⟩,.string ⟨mb.toArray⟩] 51);replace B1:=(B1.call hb5).new (.cells #[.string ⟨ma.toArray⟩,.string ⟨mb.toArray⟩] 51);have B6:=Bx.mk w5 51 #[.string ⟨ma.toArray⟩,.string ⟨mb.toArray⟩];have s0:=B6.cell 0 rfl;have s1:=B6.cell 1 rfl;have hL:=Ld (w5.alloc (.cells #[.string ⟨ma.toArray⟩,.string ⟨mb.toArray⟩] 51)) hqm lm lr (oK _ hb0);clear hqm lm oK hb5;go_wp2_with fail;refine hL.mono ?_;rintro _ w6 ⟨rfl,hb6⟩;clear hL s0 s1 B6;replace B1:=B1.call hb6;replace hb0:=aj hb0 hb6;have d0:=B1.cell 0 rfl;have d1:=B1.cell 1 rfl;have f0:=B1.frozen 0;have f1:=B1.frozen 1;have B9:=(B1.set 0 (.string ⟨ra.toArray⟩)).set 1 (.string ⟨rb.toArray⟩);have aY:=aJ (aJ hb0 (p:=⟨w.heap.size+1,0,none⟩) (Nat.le_succ _) (.string ⟨ra.toArray⟩)) (p:=⟨w.heap.size+1,1,none⟩) (Nat.le_succ _) (.string ⟨rb.toArray⟩);clear B1 hb0 hb6;go_wp2;exact bodyPost_ret (MW rfl _ _ rfl rfl rfl B9) rfl ⟨⟨bn,at_,ra,rb,rfl,hBw,hbl,by rw[hm,hmx];exact lr⟩,aY⟩
theorem wR {c n:Int} (hc:0<=c):Tp.pick c n=c % n:=by unfold Tp.pick;rw[if_neg (by omega)]
theorem wS {c n:Int} (hc:c<0):Tp.pick c n=(-(c+1)) % n:=by unfold Tp.pick;rw[if_pos hc]
theorem jT (c n:Int) (h0:0<n) (h:I64 c) (w:World) :
 Calls Tryz.prog 73 #[.int .i64 c,.int .i64 n] w fun e w'=>e=.returned (.int .i64 (Tp.pick c n))/\w=w':=by
 obtain⟨h1,h2⟩:=h;by_cases hc:c<0
 · have hm:0<= -(c+1):=by omega
   go_enter Tryz.func73,Tryz.ntmps73
   go_wp2;go_ret;refine ⟨cu ?_,rfl⟩;rw [wS hc,←Int.neg_tmod];exact Int.tmod_eq_emod_of_nonneg hm
 · have hm:0<=c:=by omega
   go_enter Tryz.func73,Tryz.ntmps73
   go_wp2;go_ret;exact ⟨cu (wR hm).symm,rfl⟩
structure SE (w0 w:World):Prop where
 bl:Below w0.heap.size w0 w
 env:Env w
theorem SE.call {w0 w w':World} (h:SE w0 w) (hb:Below w.heap.size w w'):SE w0 w':=⟨aj h.bl hb,h.env.below hb⟩
theorem SE.at (w:World) {h0 w1:World} (hE:Env h0) (hb:Below h0.heap.size h0 w1):SE h0 w1:=⟨hb,hE.below hb⟩
theorem LQ.same {q:Rat} {a b c d:List UInt8} (h:LQ q a b) (k:LQ q c d):a=c/\b=d:=⟨h.out.1.symm.trans k.out.1,h.out.2.symm.trans k.out.2⟩
theorem VP {l:List Int} {A:Option Addr} {cap:Nat} {width:Int} {n:Nat} {c e:Int} {best:Nat} {at_:Int} {ra rb:List UInt8} (w:World) (hA:At 1 aO w w.heap.size A l) (hn:l.length<=cap) (ht:Tb.VI l) (hw1:1<=width) (hw2:width<=10000000) (OL:n<=50) (h0:0<=c) (h1:c<=e) (h2:e<=1000) (h3:1<=e)
 (hB:Tb.Bw l width l.length best at_) (lr:LQ (uo (bst n (min best (n+1)) (max l.length 1) c e)) ra rb) (hE:Env w) :
 aW 105 #[.slice A l.length cap,.int .i64 width,.int .i64 n,.agg #[.int .i64 c,.int .i64 e]] w (.tuple #[.int .i64 best,.agg #[.string ⟨ra.toArray⟩,.string ⟨rb.toArray⟩],.int .i64 0]) :=
 (Ku l A cap width n c e w hA hn ht hw1 hw2 OL h0 h1 h2 h3 hE).mono fun e' w' ⟨⟨b,a,ra',rb',he,hB',_,lr'⟩,hb⟩=>⟨by
  obtain⟨e1,_⟩:=hB'.unique hB;obtain rfl:b=best:=by omega
  obtain⟨e3,e4⟩:=lr'.same lr
  rw[he,e3,e4],hb⟩
theorem Dy (l:List Rat) {j k:Nat} (hjk:j+k+1<=200) (hs:∀i,i<=l.length->Rq.Qz j j (Tb.lG (l.take i))) (hq:∀q∈l,Rq.Qz k k q):∀i,i<=l.length->comb (l.take i)=some (Tb.lG (l.take i))
 | 0,_=>rfl
 | i+1,hi=>by
  have e:l.take (i+1)=l.take i++[l[i]]:=by rw[List.take_add_one,List.getElem?_eq_getElem (by omega)];rfl
  rw[e,sD,Dy l hjk hs hq i (by omega),Tb.MQ];exact uY (Tb.Vr (hs i (by omega)) (hq _ (List.getElem_mem _)) hjk)
theorem Vw (l:List Rat) {j k:Nat} (hjk:j+k+1<=200) (hs:∀i,i<=l.length->Rq.Qz j j (Tb.lG (l.take i))) (hq:∀q∈l,Rq.Qz k k q):comb l=some (Tb.lG l):=by
 have h:=Dy l hjk hs hq l.length (Nat.le_refl _)
 rwa [List.take_length]at h
namespace Tf
theorem first (p:Int->Bool) (a:Int) (k:Nat):(∀j:Nat,j<k->p (a+j)=false)∨∃j:Nat,j<k/\p (a+j)=true/\∀i:Nat,i<j->p (a+i)=false:=by
 induction k with
 | zero=>exact .inl fun j h=>absurd h (by omega)
 | succ k ih =>
  rcases ih with h|⟨j,h1,h2,h3⟩
  · cases hp:p (a+k) with
    | true=>exact .inr ⟨k,by omega,hp,h⟩
    | false =>
     refine .inl fun j hj=>?_
     rcases Nat.lt_or_eq_of_le (Nat.le_of_lt_succ hj) with h4|h4
     · exact h j h4
     · rw[h4];exact hp
  · exact .inr ⟨j,by omega,h2,h3⟩
abbrev Pr:=List UInt8 × List UInt8
structure Ru where
 c:Int
 e:Int
 lo:Int
 re:Int
 pay:Int
structure Ho where
 n:Int
 f:Int
 b:Pr
 v:Int
 d:Int
def fin (r:Ru) (h:Ho):Int:=if h.v=2 then min (h.f+r.lo) h.d else h.f+r.lo
def Nx (r:Ru) (a b:Ho):Prop:=a.f<=b.f/\(a.n=b.n->fin r a+r.re<=b.f)
def Sp (r:Ru) (h:Ho):Prop:=h.f<=fin r h/\fin r h<=h.f+r.lo
def U9 (r:Ru) (h:Ho) (t:Int):Bool:=decide (h.f<=t)&&decide (t<fin r h)
def held (r:Ru) (l:List Ho) (n t:Int):Bool:=l.any fun h=>h.n==n&&U9 r h t
theorem FT {r:Ru} {h:Ho} (hl:0<=r.lo) (hd:h.v=2->h.f<=h.d):Sp r h:=by
 unfold Sp fin
 split
 · have:=hd ‹_›;omega
 · omega
theorem QW {r:Ru} {l:List Ho} {n t:Int}:held r l n t=true↔∃h∈l,h.n=n/\h.f<=t/\t<fin r h:=by
 simp only[held,U9,List.any_eq_true,Bool.and_eq_true,beq_iff_eq,decide_eq_true_eq]
theorem XC {α:Type} {R:α->α->Prop} {l:List α} (hp:l.Pairwise R) {a b:α} (ha:a∈l) (hb:b∈l):a=b∨R a b∨R b a:=by
 induction l with
 | nil=>cases ha
 | cons x l ih =>
  obtain⟨h1,h2⟩:=List.pairwise_cons.1 hp
  rcases List.mem_cons.1 ha with ea|ha
  · rcases List.mem_cons.1 hb with eb|hb
    · exact .inl (ea.trans eb.symm)
    · exact .inr (.inl (ea ▸ h1 _ hb))
  · rcases List.mem_cons.1 hb with eb|hb
    · exact .inr (.inr (eb ▸ h1 _ ha))
    · exact ih h2 ha hb
theorem rest {r:Ru} {l:List Ho} {n:Int} (hre:0<=r.re) (hp:l.Pairwise (Nx r)) (hs:∀h∈l,Sp r h) {h:Ho} (hh:h∈l) (hn:h.n=n) {t:Int} (h1:fin r h<=t) (h2:t<fin r h+r.re):held r l n t=false:=by
 cases hb:held r l n t with
 | false=>rfl
 | true =>
  obtain⟨g,hg,hgn,hg1,hg2⟩:=QW.1 hb;have:=(hs h hh).1
  rcases XC hp hh hg with rfl|h3|h3
  · omega
  · have:=h3.2 (by omega);omega
  · have:=h3.2 (by omega);omega
def lens (r:Ru) (n:Int) (l:List Ho):Int:=l.foldl (fun s h=>if h.n=n then s+(fin r h-h.f) else s) 0
def later (s:Int) (h:Ho):Ho:={ h with f:=h.f+s,d:=if h.v=0 then h.d else h.d+s }
theorem NQ (r:Ru) (s:Int) (h:Ho):fin r (later s h)=fin r h+s:=by
 have e1:(later s h).f=h.f+s:=rfl;have e2:(later s h).v=h.v:=rfl;have e3:(later s h).d=if h.v=0 then h.d else h.d+s:=rfl
 unfold fin
 rw[e1,e2,e3];by_cases h2:h.v=2
 · rw[if_pos h2,if_pos h2,if_neg (by omega)];omega
 · rw[if_neg h2,if_neg h2];omega
theorem QD {r:Ru} {l:List Ho} (s:Int) (hp:l.Pairwise (Nx r)):(l.map (later s)).Pairwise (Nx r):=by
 rw[List.pairwise_map];refine hp.imp fun {a b} h=>⟨?_,?_⟩
 · have:=h.1;simp only[later];omega
 · intro hn;have:=h.2 hn;rw [NQ];simp only[later];omega
end Tf
namespace Tf
structure BJ (r:Ru):Prop where
 e1:1<=r.e
 e2:r.e<=1000
 c0:0<=r.c
 ce:r.c<=r.e
 l1:1<=r.lo
 l2:r.lo<=1000000
 r1:1<=r.re
 r2:r.re<=1000000
 p0:0<=r.pay
 p2:r.pay<=1000
structure Fm (P:Pr->Prop) (h:Ho):Prop where
 n0:0<=h.n
 n2:h.n<=99999999
 f0:0<=h.f
 f2:h.f<=10000000
 b:P h.b
 v:h.v=0/\h.d=0∨(h.v=1∨h.v=2)/\h.f<=h.d/\h.d<=11000000
structure Va (P:Pr->Prop) (r:Ru) (l:List Ho):Prop where
 len:l.length<=20
 fm:∀h∈l,Fm P h
 nx:l.Pairwise (Nx r)
theorem Va.nil (P:Pr->Prop) (r:Ru):Va P r []:=⟨Nat.zero_le _,fun h hh=>absurd hh (List.not_mem_nil),List.Pairwise.nil⟩
theorem Va.sp {P:Pr->Prop} {r:Ru} {l:List Ho} (hr:0<=r.lo) (h:Va P r l):∀g∈l,Sp r g:=fun g hg=>by
 have hf:=(h.fm g hg)
 refine FT hr fun h2=>?_
 rcases hf.v with ⟨h3,-⟩|⟨-,h3,-⟩
 · omega
 · exact h3
theorem Va.front {P:Pr->Prop} {r:Ru} {l k:List Ho} (h:Va P r (l++k)):Va P r l :=
 ⟨by have:=h.len;simp at this;omega,fun g hg=>h.fm g (List.mem_append_left _ hg),(List.pairwise_append.1 h.nx).1⟩
theorem Va.snoc {P:Pr->Prop} {r:Ru} {l:List Ho} {h:Ho}:Va P r (l++[h])↔Va P r l/\l.length<20/\Fm P h/\∀g∈l,Nx r g h:=by
 constructor
 · intro hv;refine ⟨hv.front,by have:=hv.len;simp at this;omega,hv.fm h (by simp),fun g hg=>?_⟩;exact (List.pairwise_append.1 hv.nx).2.2 g hg h (by simp)
 · rintro ⟨h1,h2,h3,h4⟩;refine ⟨by simp;omega,fun g hg=>?_,List.pairwise_append.2 ⟨h1.nx,List.pairwise_singleton ..,fun a ha b hb=>?_⟩⟩
   · rcases List.mem_append.1 hg with hg|hg
     · exact h1.fm g hg
     · rw[List.mem_singleton.1 hg];exact h3
   · rw[List.mem_singleton.1 hb];exact h4 a ha
theorem Va.later {P:Pr->Prop} {r:Ru} {l:List Ho} {s:Int} (hs:0<=s) (h:Va P r l) (h1:∀g∈l,g.f+s<=10000000) (h2:∀g∈l,g.d+s<=11000000):Va P r (l.map (later s)) :=
 ⟨by rw[List.length_map];exact h.len,fun g hg=>by
  obtain⟨k,hk,rfl⟩:=List.mem_map.1 hg;have hf:=h.fm k hk;have a1:=h1 k hk;have a2:=h2 k hk;have a3:=hf.f0;refine ⟨hf.n0,hf.n2,by simp only[Tf.later];omega,by simp only[Tf.later];omega,hf.b,?_⟩;simp only[Tf.later]
  rcases hf.v with ⟨h3,h4⟩|⟨h3,h4,h5⟩
  · left;rw[if_pos h3];exact⟨h3,h4⟩
  · right;rw[if_neg (by omega)];exact⟨h3,by omega,by omega⟩,QD s h.nx⟩
theorem Va.one {P:Pr->Prop} {r:Ru} {h:Ho} (hf:Fm P h):Va P r [h]:=⟨by simp,fun g hg=>by rw[List.mem_singleton.1 hg];exact hf,List.pairwise_singleton ..⟩
def vg (c e x2 x3 x4:Int):Ru:=⟨if c=0 then 1 else c,e,1+Tp.pick x2 20,1+Tp.pick x3 20,Tp.pick x4 10⟩
theorem GL {c e:Int} (x2 x3 x4:Int) (h1:1<=e) (h2:e<=1000) (h3:0<=c) (h4:c<=e):BJ (vg c e x2 x3 x4)/\(vg c e x2 x3 x4).lo<=20/\(vg c e x2 x3 x4).re<=20/\1<=(vg c e x2 x3 x4).c/\(vg c e x2 x3 x4).pay<=9:=by
 have a:=Tp.aZ x2 (show (0:Int)<20 by decide);have b:=Tp.aZ x3 (show (0:Int)<20 by decide);have d:=Tp.aZ x4 (show (0:Int)<10 by decide);have hc:1<=(if c=0 then 1 else c)/\(if c=0 then 1 else c)<=e:=by split <;> omega
 refine⟨⟨h1,h2,?_,hc.2,?_,?_,?_,?_,?_,?_⟩,?_,?_,hc.1,?_⟩ <;> simp only[vg] <;> first|omega|(have:=hc.1;omega)
def nf (r:Ru) (l:List Ho) (n f:Int):Int:=l.foldl (fun f h=>if h.n=n then max f (fin r h+r.re) else f) f
theorem Qj (r:Ru) (l:List Ho) (n f:Int):f<=nf r l n f:=by
 induction l generalizing f with
 | nil=>exact Int.le_refl _
 | cons h l ih =>
  simp only[nf,List.foldl_cons];refine Int.le_trans ?_ (ih _)
  split <;> omega
theorem XM {r:Ru} {l:List Ho} {n:Int} (f:Int) {h:Ho} (hh:h∈l) (hn:h.n=n):fin r h+r.re<=nf r l n f:=by
 induction l generalizing f with
 | nil=>cases hh
 | cons g l ih =>
  simp only[nf,List.foldl_cons]
  rcases List.mem_cons.1 hh with e|hh
  · subst e;rw [if_pos hn];exact Int.le_trans (by omega) (Qj r l n _)
  · exact ih _ hh
theorem WB {r:Ru} {l:List Ho} {n f m:Int} (h0:f<=m) (hl:∀h∈l,fin r h+r.re<=m):nf r l n f<=m:=by
 induction l generalizing f with
 | nil=>exact h0
 | cons g l ih =>
  simp only[nf,List.foldl_cons];refine ih ?_ fun h hh=>hl h (List.mem_cons_of_mem _ hh)
  have:=hl g (List.mem_cons_self ..)
  split <;> omega
theorem UZ (r:Ru) (l:List Ho) (h:Ho) (n f:Int):nf r (l++[h]) n f=if h.n=n then max (nf r l n f) (fin r h+r.re) else nf r l n f:=by
 simp only[nf,List.foldl_append,List.foldl_cons,List.foldl_nil]
structure X4 where
 a:Int
 b:Int
 c:Int
 d:Int
def mkH (B:Int->Pr) (r:Ru) (l:List Ho) (last:Int) (x:X4):Ho :=
 let n:=5+Tp.pick x.a 3
 let f:=nf r l n (last+Tp.pick x.b 8)
 ⟨n,f,B (Tp.pick (x.b.tdiv 8) (r.c+1)),Tp.pick x.c 3,if Tp.pick x.c 3=0 then 0 else f+Tp.pick x.d (r.lo+3)⟩
def FP (B:Int->Pr) (r:Ru) (s:List Ho × Int) (x:X4):List Ho × Int:=(s.1++[mkH B r s.1 s.2 x],(mkH B r s.1 s.2 x).f)
def xg (B:Int->Pr) (r:Ru) (x:List X4):List Ho × Int:=x.foldl (FP B r) ([],0)
theorem Dq (B:Int->Pr) (r:Ru) (x:List X4) (y:X4):xg B r (x++[y])=FP B r (xg B r x) y:=by
 simp only[xg,List.foldl_append,List.foldl_cons,List.foldl_nil]
structure Oz (P:Pr->Prop) (r:Ru) (k:Nat) (s:List Ho × Int):Prop where
 va:Va P r s.1
 len:s.1.length=k
 le:∀h∈s.1,h.f<=s.2
 nn:∀h∈s.1,5<=h.n/\h.n<=7
 dd:∀h∈s.1,h.d<=h.f+22
 l0:0<=s.2
 l2:s.2<=48*k
theorem Oz.step {P:Pr->Prop} {B:Int->Pr} {r:Ru} {k:Nat} {s:List Ho × Int} (hr:BJ r) (hlo:r.lo<=20) (hre:r.re<=20) (hB:∀p,0<=p->p<=r.c->P (B p)) (hk:k<8) (h:Oz P r k s) (x:X4):Oz P r (k+1) (FP B r s x):=by
 obtain⟨l,last⟩:=s;have va:=h.va;have hlen:=h.len;have hle:=h.le;have hl0:=h.l0;have hl2:=h.l2;simp only at va hlen hle hl0 hl2;have p1:=Tp.aZ x.a (show (0:Int)<3 by decide);have p2:=Tp.aZ x.b (show (0:Int)<8 by decide);have p3:=Tp.aZ (x.b.tdiv 8) (show 0<r.c+1 by have:=hr.c0;omega);have p4:=Tp.aZ x.c (show (0:Int)<3 by decide);have p5:=Tp.aZ x.d (show 0<r.lo+3 by have:=hr.l1;omega);have hlo1:=hr.l1;have hsp:=va.sp (by omega);have hf1:=Qj r l (5+Tp.pick x.a 3) (last+Tp.pick x.b 8)
 have hf2:nf r l (5+Tp.pick x.a 3) (last+Tp.pick x.b 8)<=last+40:=WB (by omega) fun g hg=>by
  have:=(hsp g hg).2;have:=hle g hg;omega
 have hf3:∀g∈l,g.n=5+Tp.pick x.a 3->fin r g+r.re<=nf r l (5+Tp.pick x.a 3) (last+Tp.pick x.b 8):=fun g hg hn=>XM _ hg hn
 have hm:∃m:Ho,m=mkH B r l last x/\m.n=5+Tp.pick x.a 3/\m.f=nf r l (5+Tp.pick x.a 3) (last+Tp.pick x.b 8)/\P m.b/\m.v=Tp.pick x.c 3/\m.d=if Tp.pick x.c 3=0 then 0 else m.f+Tp.pick x.d (r.lo+3) :=
  ⟨_,rfl,rfl,rfl,hB _ p3.1 (by omega),rfl,rfl⟩
 obtain⟨m,hm,m1,m2,m3,m4,m5⟩:=hm;have hst:FP B r (l,last) x=(l++[m],m.f):=by rw[hm];rfl
 rw[hst];generalize nf r l (5+Tp.pick x.a 3) (last+Tp.pick x.b 8)=F at *
 have hfm:Fm P m:=by
  refine⟨by omega,by omega,by omega,by omega,m3,?_⟩;by_cases hv:Tp.pick x.c 3=0
  · left;rw[if_pos hv]at m5;exact⟨by omega,m5⟩
  · right;rw[if_neg hv]at m5;exact⟨by omega,by omega,by omega⟩
 have hva:Va P r (l++[m]):=Va.snoc.2 ⟨va,by omega,hfm,fun g hg=>⟨by have:=hle g hg;omega,fun hn=>by have:=hf3 g hg (by omega);omega⟩⟩;refine ⟨hva,by simp[hlen],?_,?_,?_,?_,?_⟩
 · intro g hg
   rcases List.mem_append.1 hg with hg|hg
   · have:=hle g hg;show g.f<=m.f;omega
   · rw[List.mem_singleton.1 hg];exact Int.le_refl _
 · intro g hg
   rcases List.mem_append.1 hg with hg|hg
   · exact h.nn g hg
   · rw[List.mem_singleton.1 hg];omega
 · intro g hg
   rcases List.mem_append.1 hg with hg|hg
   · exact h.dd g hg
   · rw[List.mem_singleton.1 hg,m5];split <;> omega
 · show 0<=m.f;omega
 · show m.f<=_;push_cast;omega
theorem EF {P:Pr->Prop} {B:Int->Pr} {r:Ru} (hr:BJ r) (hlo:r.lo<=20) (hre:r.re<=20) (hB:∀p,0<=p->p<=r.c->P (B p)) (x:List X4):∀k:Nat,k<=x.length->k<=8->Oz P r k (xg B r (x.take k))
 | 0,_,_=>⟨Va.nil _ _,rfl,fun h hh=>absurd hh List.not_mem_nil,fun h hh=>absurd hh List.not_mem_nil,fun h hh=>absurd hh List.not_mem_nil,Int.le_refl _,Int.le_refl _⟩
 | k+1,h1,h2=>by
  have ih:=EF hr hlo hre hB x k (by omega) (by omega);rw [List.take_add_one,List.getElem?_eq_getElem (show k<x.length by omega),Option.toList_some,Dq];exact ih.step hr hlo hre hB (by omega) _
end Tf
namespace Tf
theorem Va.step {P:Pr->Prop} {r:Ru} {l:List Ho} {k:Nat} (hk:k<l.length) (h20:l.length<=20) (h:Va P r (l.take k)) (hf:Fm P l[k]) (ho:∀(hj:0<k),(l[k-1]'(by omega)).f<=l[k].f) (hn:∀(j:Nat) (hj:j<k),(l[j]'(by omega)).n=l[k].n->fin r (l[j]'(by omega))+r.re<=l[k].f):Va P r (l.take (k+1)):=by
 rw[List.take_add_one,List.getElem?_eq_getElem hk,Option.toList_some];refine Va.snoc.2 ⟨h,by rw[List.length_take];omega,hf,fun g hg=>?_⟩;obtain ⟨j,hj,rfl⟩:=List.getElem_of_mem hg;rw [List.length_take]at hj;have e:(l.take k)[j]=l[j]'(by omega):=List.getElem_take;refine ⟨?_,fun h1=>?_⟩
 · rw[e]
   rcases Nat.lt_or_ge j (k-1) with h1|h1
   · have h2:=List.pairwise_iff_getElem.1 h.nx j (k-1) (by rw[List.length_take];omega) (by rw[List.length_take];omega) h1;have e2:(l.take k)[k-1]'(by rw[List.length_take];omega)=l[k-1]'(by omega):=List.getElem_take;have h3:=h2.1;rw [e,e2]at h3;exact Int.le_trans h3 (ho (by omega))
   · have hjk:j=k-1:=by omega
     subst hjk;exact ho (by omega)
 · rw[e]at h1 ⊢;exact hn j (by omega) h1
theorem Va.back {P:Pr->Prop} {r:Ru} {l:List Ho} {k:Nat} (hk:k<l.length) (h:Va P r l):Va P r (l.take k)/\Fm P l[k]/\∀(j:Nat) (hj:j<k),Nx r (l[j]'(by omega)) l[k] :=
 ⟨by rw[←List.take_append_drop k l]at h;exact h.front,h.fm _ (List.getElem_mem hk),fun j hj=>List.pairwise_iff_getElem.1 h.nx j k (by omega) hk hj⟩
theorem Va.step' {P:Pr->Prop} {r:Ru} {l:List Ho} {k:Nat} (hk:k<l.length) (h20:l.length<=20) (h:Va P r (l.take k)) (hf:Fm P l[k]) (hn:∀(j:Nat) (hj:j<k),Nx r (l[j]'(by omega)) l[k]):Va P r (l.take (k+1)) :=
 h.step hk h20 hf (fun hj=>(hn (k-1) (by omega)).1) fun j hj e=>(hn j hj).2 e
theorem Va.UW {P:Pr->Prop} {r:Ru} {l:List Ho} (h:20<l.length):¬Va P r l:=fun hv=>by have:=hv.len;omega
theorem Va.XL {P:Pr->Prop} {r:Ru} {l:List Ho} {k:Nat} (hk:k<l.length) (h:¬Fm P l[k]):¬Va P r l:=fun hv=>h (hv.back hk).2.1
theorem Va.JA {P:Pr->Prop} {r:Ru} {l:List Ho} {k j:Nat} (hk:k<l.length) (hj:j<k) (h:¬Nx r (l[j]'(by omega)) l[k]):¬Va P r l:=fun hv=>h ((hv.back hk).2.2 j hj)
theorem Va.whole {P:Pr->Prop} {r:Ru} {l:List Ho} (h:Va P r (l.take l.length)):Va P r l:=by rwa [List.take_length]at h
def owed (r:Ru) (h:Ho):Int:=if h.v=1/\h.d<h.f+r.lo then 0 else r.pay*(fin r h-h.f)
end Tf
def AL (c e lo re pay:Int):Bool:=ES c e&&(Tp.within lo 1 1000000&&Tp.within re 1 1000000)&&Tp.within pay 0 1000
theorem jq {c e lo re pay:Int}:AL c e lo re pay=true↔Tf.BJ ⟨c,e,lo,re,pay⟩:=by
 unfold AL
 rw[Bool.and_eq_true,Bool.and_eq_true,Bool.and_eq_true,nS,Tp.within_iff,Tp.within_iff,Tp.within_iff]
 constructor
 · rintro ⟨⟨⟨h1,h2,h3,h4⟩,h5,h6⟩,h7⟩;refine ⟨h1,h2,h3,h4,?_,?_,?_,?_,?_,?_⟩ <;> dsimp only <;> omega
 · rintro ⟨h1,h2,h3,h4,h5,h6,h7,h8,h9,h10⟩;dsimp only at *;omega
def rF (c e:Int) (p:Tf.Pr):Prop:=∃q,Rq.Fq q/\p=iy q/\0<=q/\q<=Rat.divInt c e
noncomputable def vK (c e:Int) (h:Tf.Ho):Bool:=@decide (Tf.Fm (rF c e) h) (Classical.propDecidable _)
theorem yh {c e:Int} {h:Tf.Ho} (hf:Tf.Fm (rF c e) h):vK c e h=true:=@decide_eq_true _ (Classical.propDecidable _) hf
theorem Du {c e:Int} {h:Tf.Ho} (hf:¬Tf.Fm (rF c e) h):vK c e h=false:=@decide_eq_false _ (Classical.propDecidable _) hf
theorem su {c e:Int} {h:Tf.Ho}:vK c e h=true↔Tf.Fm (rF c e) h:=by
 constructor
 · intro h1;by_cases hf:Tf.Fm (rF c e) h
   · exact hf
   · rw[Du hf]at h1;cases h1
 · exact yh
def OE (v d f:Int):Bool:=if v=0 then decide (d=0) else (decide (v=1)||decide (v=2))&&Tp.within d f 11000000
theorem Ug {v d f:Int}:OE v d f=true↔(v=0/\d=0∨(v=1∨v=2)/\f<=d/\d<=11000000):=by
 unfold OE
 split
 · rw[decide_eq_true_eq];omega
 · rw[Bool.and_eq_true,Bool.or_eq_true,decide_eq_true_eq,decide_eq_true_eq,Tp.within_iff];omega
theorem Ht {c e:Int} {h:Tf.Ho} {q:Rat} (hq:Rq.Fq q) (hb:h.b=iy q):Tf.Fm (rF c e) h↔(0<=h.n/\h.n<=99999999)/\(0<=h.f/\h.f<=10000000)/\(0<=q/\q<=Rat.divInt c e)/\OE h.v h.d h.f=true:=by
 rw[Ug]
 constructor
 · rintro ⟨h1,h2,h3,h4,⟨q',h5,h6,h7,h8⟩,h9⟩
   have e1:q'=q:=by
    rw[hb]at h6;have e2:=congrArg Prod.fst h6;have e3:=congrArg Prod.snd h6;have e4:q.num=q'.num:=Ig.dH e2;have e5:(q.den:Int)=q'.den:=Ig.dH e3;exact (Rat.ext e4 (by exact_mod_cast e5)).symm
   subst e1;exact ⟨⟨h1,h2⟩,⟨h3,h4⟩,⟨h7,h8⟩,h9⟩
 · rintro ⟨⟨h1,h2⟩,⟨h3,h4⟩,⟨h7,h8⟩,h9⟩;exact ⟨h1,h2,h3,h4,⟨q,hq,hb,h7,h8⟩,h9⟩
theorem YG {c e:Int} {h:Tf.Ho} (hb:Rq.okB h.b.1 h.b.2=false):¬Tf.Fm (rF c e) h:=fun hf=>by
 obtain⟨q,h1,h2,-,-⟩:=hf.b;have h3:=Rq.oq h1;rw [h2]at hb;rw [show Rq.okB (iy q).1 (iy q).2=Rq.okB (Go.Lib.itoa q.num) (Go.Lib.itoa (q.den:Int)) from rfl,h3]at hb;cases hb
theorem bZ (n lo hi:Int) (w:World) :
 Calls Tryz.prog 53 #[.int .i64 n,.int .i64 lo,.int .i64 hi] w fun e w'=>e=.returned (.bool (Tp.within n lo hi))/\w=w':=by
 by_cases h1:lo<=n <;> by_cases h2:n<=hi
 all_goals
  go_enter Tryz.func53,Tryz.ntmps53
  go_wp2;go_ret;exact ⟨by simp[Tp.within, *] <;> omega,rfl⟩
theorem Hy (c e:Int) (w:World) :
 aW 76 #[.agg #[.int .i64 c,.int .i64 e]] w (.bool (ES c e)):=by
 have hI1:=fun w0=>aB (bZ e 1 1000 w0)
 have hI2:=fun w0=>aB (bZ c 0 e w0)
 have hd:Kp (ES c e=(Tp.within e 1 1000&&Tp.within c 0 e)):=⟨rfl⟩
 have B:=Bx.mk w 29 #[.int .i64 c,.int .i64 e];have hb:=bNew (gq w) (.cells #[.int .i64 c,.int .i64 e] 29);have c0:=B.cell 0 rfl;have c1:=B.cell 1 rfl;generalize Tp.within c 0 e=r2 at *
 cases h1:Tp.within e 1 1000 with
 | true =>
  rw[h1]at hI1 hd;clear h1
  go_enter Tryz.func76,Tryz.ntmps76
  go_wp2_with fail;refine (hI1 _).mono ?_;rintro e w1 ⟨rfl,hb1⟩;have d0:=(B.call hb1).cell 0 rfl;have d1:=(B.call hb1).cell 1 rfl;go_wp2_with fail;refine (hI2 _).mono ?_;rintro e w2 ⟨rfl,hb2⟩;go_wp2;go_ret;exact ⟨aH (by rw[hd.out];simp),aj (aj hb hb1) hb2⟩
 | false =>
  rw[h1]at hI1 hd;clear h1
  go_enter Tryz.func76,Tryz.ntmps76
  go_wp2_with fail;refine (hI1 _).mono ?_;rintro e w1 ⟨rfl,hb1⟩;go_wp2;go_ret;exact ⟨aH (by rw[hd.out];simp),aj hb hb1⟩
theorem pW (c e lo re pay:Int) (w:World) :
 aW 47 #[.agg #[.int .i64 c,.int .i64 e,.int .i64 lo,.int .i64 re,.int .i64 pay]] w (.bool (AL c e lo re pay)):=by
 have hI1:=fun w0=>aB (bZ lo 1 1000000 w0)
 have hI2:=fun w0=>aB (bZ re 1 1000000 w0)
 have G7:=fun w0=>Hy c e w0
 have hI4:=fun w0=>aB (bZ pay 0 1000 w0)
 have hd:Kp (AL c e lo re pay=(ES c e&&(Tp.within lo 1 1000000&&Tp.within re 1 1000000)&&Tp.within pay 0 1000)):=⟨rfl⟩
 generalize Tp.within lo 1 1000000=s1 at *;generalize Tp.within re 1 1000000=s2 at *;generalize ES c e=s3 at *;generalize Tp.within pay 0 1000=s4 at *;generalize AL c e lo re pay=res at *;have B:=Bx.mk w 31 #[.int .i64 c,.int .i64 e,.int .i64 lo,.int .i64 re,.int .i64 pay];have hb:=au w (.cells #[.int .i64 c,.int .i64 e,.int .i64 lo,.int .i64 re,.int .i64 pay] 31);cases s1 <;> cases s2 <;> cases s3
 · obtain rfl:=hd.out
   go_enter Tryz.func47,Tryz.ntmps47
   obtain⟨cB0,cB1,cB2,cB3,aN⟩:=B.p5;go_wp2_with fail;refine (hI1 _).mono ?_;rintro _ w1 ⟨rfl,hb1⟩;clear cB0 cB1 cB2 cB3 aN;replace B:=B.call hb1;replace hb:=aj hb hb1;clear hb1;obtain ⟨cB0,cB1,cB2,cB3,aN⟩:=B.p5;go_wp2_with fail;refine (G7 _).mono ?_;rintro _ w2 ⟨rfl,hb1⟩;clear cB0 cB1 cB2 cB3 aN;replace B:=B.call hb1;replace hb:=aj hb hb1;clear hb1;obtain ⟨cB0,cB1,cB2,cB3,aN⟩:=B.p5;go_wp2;go_ret;exact ⟨by simp,hb⟩
 · obtain rfl:=hd.out
   go_enter Tryz.func47,Tryz.ntmps47
   obtain⟨cB0,cB1,cB2,cB3,aN⟩:=B.p5;go_wp2_with fail;refine (hI1 _).mono ?_;rintro _ w1 ⟨rfl,hb1⟩;clear cB0 cB1 cB2 cB3 aN;replace B:=B.call hb1;replace hb:=aj hb hb1;clear hb1;obtain ⟨cB0,cB1,cB2,cB3,aN⟩:=B.p5;go_wp2_with fail;refine (G7 _).mono ?_;rintro _ w2 ⟨rfl,hb1⟩;clear cB0 cB1 cB2 cB3 aN;replace B:=B.call hb1;replace hb:=aj hb hb1;clear hb1;obtain ⟨cB0,cB1,cB2,cB3,aN⟩:=B.p5;go_wp2;go_ret;exact ⟨by simp,hb⟩
 · obtain rfl:=hd.out
   go_enter Tryz.func47,Tryz.ntmps47
   obtain⟨cB0,cB1,cB2,cB3,aN⟩:=B.p5;go_wp2_with fail;refine (hI1 _).mono ?_;rintro _ w1 ⟨rfl,hb1⟩;clear cB0 cB1 cB2 cB3 aN;replace B:=B.call hb1;replace hb:=aj hb hb1;clear hb1;obtain ⟨cB0,cB1,cB2,cB3,aN⟩:=B.p5;go_wp2_with fail;refine (G7 _).mono ?_;rintro _ w2 ⟨rfl,hb1⟩;clear cB0 cB1 cB2 cB3 aN;replace B:=B.call hb1;replace hb:=aj hb hb1;clear hb1;obtain ⟨cB0,cB1,cB2,cB3,aN⟩:=B.p5;go_wp2;go_ret;exact ⟨by simp,hb⟩
 · obtain rfl:=hd.out
   go_enter Tryz.func47,Tryz.ntmps47
   obtain⟨cB0,cB1,cB2,cB3,aN⟩:=B.p5;go_wp2_with fail;refine (hI1 _).mono ?_;rintro _ w1 ⟨rfl,hb1⟩;clear cB0 cB1 cB2 cB3 aN;replace B:=B.call hb1;replace hb:=aj hb hb1;clear hb1;obtain ⟨cB0,cB1,cB2,cB3,aN⟩:=B.p5;go_wp2_with fail;refine (G7 _).mono ?_;rintro _ w2 ⟨rfl,hb1⟩;clear cB0 cB1 cB2 cB3 aN;replace B:=B.call hb1;replace hb:=aj hb hb1;clear hb1;obtain ⟨cB0,cB1,cB2,cB3,aN⟩:=B.p5;go_wp2;go_ret;exact ⟨by simp,hb⟩
 · obtain rfl:=hd.out
   go_enter Tryz.func47,Tryz.ntmps47
   obtain⟨cB0,cB1,cB2,cB3,aN⟩:=B.p5;go_wp2_with fail;refine (hI1 _).mono ?_;rintro _ w1 ⟨rfl,hb1⟩;clear cB0 cB1 cB2 cB3 aN;replace B:=B.call hb1;replace hb:=aj hb hb1;clear hb1;obtain ⟨cB0,cB1,cB2,cB3,aN⟩:=B.p5;go_wp2_with fail;refine (hI2 _).mono ?_;rintro _ w2 ⟨rfl,hb1⟩;clear cB0 cB1 cB2 cB3 aN;replace B:=B.call hb1;replace hb:=aj hb hb1;clear hb1;obtain ⟨cB0,cB1,cB2,cB3,aN⟩:=B.p5;go_wp2_with fail;refine (G7 _).mono ?_;rintro _ w3 ⟨rfl,hb1⟩;clear cB0 cB1 cB2 cB3 aN;replace B:=B.call hb1;replace hb:=aj hb hb1;clear hb1;obtain ⟨cB0,cB1,cB2,cB3,aN⟩:=B.p5;go_wp2;go_ret;exact ⟨by simp,hb⟩
 · obtain rfl:=hd.out
   go_enter Tryz.func47,Tryz.ntmps47
   obtain⟨cB0,cB1,cB2,cB3,aN⟩:=B.p5;go_wp2_with fail;refine (hI1 _).mono ?_;rintro _ w1 ⟨rfl,hb1⟩;clear cB0 cB1 cB2 cB3 aN;replace B:=B.call hb1;replace hb:=aj hb hb1;clear hb1;obtain ⟨cB0,cB1,cB2,cB3,aN⟩:=B.p5;go_wp2_with fail;refine (hI2 _).mono ?_;rintro _ w2 ⟨rfl,hb1⟩;clear cB0 cB1 cB2 cB3 aN;replace B:=B.call hb1;replace hb:=aj hb hb1;clear hb1;obtain ⟨cB0,cB1,cB2,cB3,aN⟩:=B.p5;go_wp2_with fail;refine (G7 _).mono ?_;rintro _ w3 ⟨rfl,hb1⟩;clear cB0 cB1 cB2 cB3 aN;replace B:=B.call hb1;replace hb:=aj hb hb1;clear hb1;obtain ⟨cB0,cB1,cB2,cB3,aN⟩:=B.p5;go_wp2;go_ret;exact ⟨by simp,hb⟩
 · obtain rfl:=hd.out
   go_enter Tryz.func47,Tryz.ntmps47
   obtain⟨cB0,cB1,cB2,cB3,aN⟩:=B.p5;go_wp2_with fail;refine (hI1 _).mono ?_;rintro _ w1 ⟨rfl,hb1⟩;clear cB0 cB1 cB2 cB3 aN;replace B:=B.call hb1;replace hb:=aj hb hb1;clear hb1;obtain ⟨cB0,cB1,cB2,cB3,aN⟩:=B.p5;go_wp2_with fail;refine (hI2 _).mono ?_;rintro _ w2 ⟨rfl,hb1⟩;clear cB0 cB1 cB2 cB3 aN;replace B:=B.call hb1;replace hb:=aj hb hb1;clear hb1;obtain ⟨cB0,cB1,cB2,cB3,aN⟩:=B.p5;go_wp2_with fail;refine (G7 _).mono ?_;rintro _ w3 ⟨rfl,hb1⟩;clear cB0 cB1 cB2 cB3 aN;replace B:=B.call hb1;replace hb:=aj hb hb1;clear hb1;obtain ⟨cB0,cB1,cB2,cB3,aN⟩:=B.p5;go_wp2;go_ret;exact ⟨by simp,hb⟩
 · obtain rfl:=hd.out
   go_enter Tryz.func47,Tryz.ntmps47
   obtain⟨cB0,cB1,cB2,cB3,aN⟩:=B.p5;go_wp2_with fail;refine (hI1 _).mono ?_;rintro _ w1 ⟨rfl,hb1⟩;clear cB0 cB1 cB2 cB3 aN;replace B:=B.call hb1;replace hb:=aj hb hb1;clear hb1;obtain ⟨cB0,cB1,cB2,cB3,aN⟩:=B.p5;go_wp2_with fail;refine (hI2 _).mono ?_;rintro _ w2 ⟨rfl,hb1⟩;clear cB0 cB1 cB2 cB3 aN;replace B:=B.call hb1;replace hb:=aj hb hb1;clear hb1;obtain ⟨cB0,cB1,cB2,cB3,aN⟩:=B.p5;go_wp2_with fail;refine (G7 _).mono ?_;rintro _ w3 ⟨rfl,hb1⟩;clear cB0 cB1 cB2 cB3 aN;replace B:=B.call hb1;replace hb:=aj hb hb1;clear hb1;obtain ⟨cB0,cB1,cB2,cB3,aN⟩:=B.p5;go_wp2_with fail;refine (hI4 _).mono ?_;rintro _ w4 ⟨rfl,hb1⟩;clear cB0 cB1 cB2 cB3 aN;replace B:=B.call hb1;replace hb:=aj hb hb1;clear hb1;obtain ⟨cB0,cB1,cB2,cB3,aN⟩:=B.p5;go_wp2;go_ret;exact ⟨by simp,hb⟩
open Go.RowKit
def bD (e:TypeId) (size B n:Nat) (flat:List Value):Value->World->Prop:=fun v w=>(v=.slice none 0 0/\n=0/\flat=[])∨∃cap,cO e size B cap n flat v w/\cap<=maxLen
theorem dU (e:TypeId) (size B n:Nat) (flat:List Value):eP (bD e size B n flat):=fun v w w' h hb=>by
 rcases h with h|⟨cap,h,hm⟩
 · exact .inl h
 · exact .inr ⟨cap,aS e size B cap n flat v w w' h hb,hm⟩
theorem IB {P:Program} (w:World) (t ty e:TypeId) (i:TypeInfo) (z:Value) (size B n m:Nat) (flat news:List Value) (v x:Value) (ht:P.underlying t=some (.slice e)) (hi:P.info? e=some i) (hz:i.zero=some z)
 (hsize:i.size=size) (hzs:z.cells.size=size) (hv:bD e size B n flat v w) (hB:B<=w.heap.size) (hs:Src P size t x m news w) (hm:0<m) (h63:n+m<=maxLen) (hb:(n+m)*i.bytes<=140737488355328) :
 ∃v' w',(Builtin.append_ #[t,t] ty #[v,x]).run P w=.ok v' w'/\Below B w w'/\bD e size B (n+m) (flat++news) v' w':=by
 rcases hv with ⟨rfl,rfl,rfl⟩|⟨cap,hv,hcm⟩
 · subst hsize;have hnl:=hs.newsLen;have hold:(Builtin.firstCells i.size 0 (.slice none 0 0)).run P w.drew=.ok ([]:List Value).toArray w.drew:=by simp[Builtin.firstCells,loadCells,loadCellsFrom]
   have hrun:=run_append_grow_src (P:=P) w t t ty e i z ht hi hz none 0 0 [] hold x m news hs (by omega) (by simp only[maxLen]at h63;omega) (growslice_fits (by omega) hb);have hge:=grownCap_ge w (0+m) 0 e;refine ⟨_,_,hrun,((Below.refl B w).drew).alloc hB _,.inr ⟨_,⟨w.heap.size,_,rfl,hB,hge,Bx.mk w.drew e _,?_,?_⟩,grownCap_le_maxLen w (0+m) 0 e h63⟩⟩
   · rw[Array.size_append,List.size_toArray,List.length_append,List.length_nil,hnl,size_zeroCells,hzs,Nat.zero_add,←Nat.add_mul]
     congr 1;omega
   · rw[Array.toList_append,List.take_append_of_le_length (by simp[hnl,Nat.add_mul])];rw [List.take_of_length_le (by simp[hnl,Nat.add_mul])]
 · obtain⟨v',w',cap',h1,h2,h3,h4,h5⟩:=pX (P:=P) w t ty e i z size B cap n m flat news v x ht hi hz hsize hzs hv hB hs hcm h63 hb;exact ⟨v',w',h1,h2,.inr ⟨cap',h4,h5⟩⟩
theorem eF {P:Program} {w:World} {ops:Array Oper} {rest:List Oper} {o:Oper} {a:Act} {Q:Exit->Act->World->Prop} (hgd:o.guard=none) (s y:Operand) (t e:TypeId) (ho:o.op=.call { callee:=.builtin .append,args:=#[s,y],argTypes:=#[t,t] })
 (i:TypeInfo) (z:Value) (size B n m:Nat) (flat news:List Value) (v x:Value) (ht:P.underlying t=some (.slice e)) (hi:P.info? e=some i) (hz:i.zero=some z)
 (hsize:i.size=size) (hzs:z.cells.size=size) (hes:a.eval s=v) (EC:a.eval y=x) (hv:bD e size B n flat v w) (hB:B<=w.heap.size) (hs:Src P size t x m news w) (hm:0<m) (h63:n+m<=maxLen) (hb:(n+m)*i.bytes<=140737488355328)
 (h:∀v' w',Below B w w'->bD e size B (n+m) (flat++news) v' w'->wpList P ops Q rest (a.put o.dst v') w'):wpList P ops Q (o :: rest) a w:=by
 obtain⟨v',w',hr,h1,h2⟩:=IB (P:=P) w t o.type e i z size B n m flat news v x ht hi hz hsize hzs hv hB hs hm h63 hb;refine wpList_plain hgd fun _ hK=>?_
 unfold Oper.wp execOp
 simp only[ho,resolve,invoke,builtin,Sem.run_bind,Sem.run_pure,Result.andThen_ok,List.map_toArray,List.map_cons,List.map_nil,hes,EC,hr];exact hK _ _ (h v' w' h1 h2)
theorem bD.at {α:Type} {size:Nat} {f:α->List Value} {w:World} {e:TypeId} {B:Nat} {p:List α} {v:Value} (hf:∀c,(f c).length=size) (h:bD e size B p.length (p.flatMap f) v w) :
 ∃A cap,v=.slice A p.length cap/\At size f w w.heap.size A p/\p.length<=cap/\cap<=maxLen:=by
 rcases h with ⟨rfl,h0,-⟩|⟨cap,h,hm⟩
 · rw[h0];exact ⟨none,0,rfl,fun h=>by omega,by omega,Nat.zero_le _⟩
 · obtain⟨A,h1,h2,h3⟩:=cO.at hf h;exact ⟨A,cap,h1,h2,h3,hm⟩
end Go.Proofs.YtelljijajgiabaaGreatDoor
namespace Tb
def cD (x y:Int):Int:=if Tp.pick x 8=7 then 1+Tp.pick y 1000 else 1+Tp.pick y 12
def cN (x y:Int):Int:=Tp.pick (x.tdiv 8) (cD x y+1)
theorem Dz (x y:Int):1<=cD x y/\cD x y<=1000:=by
 unfold cD
 have h1:=Tp.aZ y (show (0:Int)<1000 by decide);have h2:=Tp.aZ y (show (0:Int)<12 by decide)
 split <;> omega
theorem Ie (x y:Int):0<=cN x y/\cN x y<=cD x y:=by
 have h:=Dz x y;have:=Tp.aZ (x.tdiv 8) (show 0<cD x y+1 by omega)
 unfold cN;omega
end Tb
namespace Go.Proofs.YtelljijajgiabaaGreatDoor
open Go.RowKit Go.Shelf
theorem Cj {x:Int} (h:I64 x):I64 (x.tdiv 8):=by
 obtain⟨h1,h2⟩:=h
 rcases Int.le_total 0 x with hx|hx
 · have a:=Int.tdiv_nonneg hx (show (0:Int)<=8 by decide);have b:=Int.tdiv_le_self 8 hx;exact ⟨by omega,by omega⟩
 · have a:=Int.tdiv_nonneg (a:= -x) (b:=8) (by omega) (by decide);have b:=Int.tdiv_le_self 8 (show 0<= -x by omega);rw [Int.neg_tdiv]at a b;exact ⟨by omega,by omega⟩
theorem zh {fn:Func} {t:Tmp} {g:Nat} {a b:Int} (h:fn.results=#[.cell t 29]) (tmps:Array Value) (w:World) (ht:tmps.getD t undef=.pointer (some ⟨g,0,none⟩)) (hB:Bx w g 29 #[.int .i64 a,.int .i64 b]) :
 (results fn tmps).run Tryz.prog w=.ok (.agg #[.int .i64 a,.int .i64 b]) w:=by
 have h0:=hB.cell 0 rfl;have h1:=hB.cell 1 rfl;have ht':tmps[t]?.getD undef=.pointer (some ⟨g,0,none⟩):=by simpa using ht
 simp only[results,h];simp [go_sem,ht',h0,h1,loadVar]
theorem xP (x y:Int) (w:World) (hx:I64 x) (hy:I64 y) :
 aW 43 #[.agg #[.int .i64 x,.int .i64 y]] w (.agg #[.int .i64 (Tb.cN x y),.int .i64 (Tb.cD x y)]):=by
 have B0:=(Bx.mk w 80 #[.int .i64 x,.int .i64 y]).new (.cells #[.int .i64 0,.int .i64 0] 29);have B1:=Bx.mk (w.alloc (.cells #[.int .i64 x,.int .i64 y] 80)) 29 #[.int .i64 0,.int .i64 0];rw [ah]at B1;have hb:=bNew (au w (.cells #[.int .i64 x,.int .i64 y] 80)) (.cells #[.int .i64 0,.int .i64 0] 29);have c0:=B0.cell 0 rfl;have c1:=B0.cell 1 rfl;have f0:=B1.frozen 0;have f1:=B1.frozen 1;have d1:=Cj hx;have p1:=fun w0=>jT y 12 (by decide) hy w0
 have p2:=fun w0=>jT x 8 (by decide) hx w0
 have p3:=fun w0=>jT y 1000 (by decide) hy w0
 have hdi:=Tb.Dz x y;have hni:=Tb.Ie x y;have p4:=fun w0=>jT (x.tdiv 8) (Tb.cD x y+1) (by omega) d1 w0
 have hD:Kp (Tb.cD x y=if Tp.pick x 8=7 then 1+Tp.pick y 1000 else 1+Tp.pick y 12):=⟨rfl⟩
 have e1:=Tp.aZ y (show (0:Int)<12 by decide);have e2:=Tp.aZ y (show (0:Int)<1000 by decide);have e3:=Tp.aZ x (show (0:Int)<8 by decide);rw [show Tp.pick (x.tdiv 8) (Tb.cD x y+1)=Tb.cN x y from rfl]at p4;generalize Tb.cN x y=N at *;generalize Tb.cD x y=D at *;generalize Tp.pick y 12=q1 at *;generalize Tp.pick x 8=q2 at *;generalize Tp.pick y 1000=q3 at *;have B4:=Bx.mk (w.alloc (.cells #[.int .i64 x,.int .i64 y] 80)) 29 #[.int .i64 N,.int .i64 D];rw [ah]at B4;have hb4:=bNew (au w (.cells #[.int .i64 x,.int .i64 y] 80)) (.cells #[.int .i64 N,.int .i64 D] 29);obtain ⟨x1,x2⟩:=hx;clear hy;replace d1:=Kp.mk d1;by_cases hq:q2=7
 · subst hq;have hD2:1+q3=D:=by rw[hD.out,if_pos rfl]
   clear hD
   go_enter Tryz.func43,Tryz.ntmps43
   go_wp2_with fail;refine (p1 _).mono ?_;rintro _ _ ⟨rfl,rfl⟩;go_wp2_with fail;refine (p2 _).mono ?_;rintro _ _ ⟨rfl,rfl⟩;go_wp2_with fail;refine (p3 _).mono ?_;rintro _ _ ⟨rfl,rfl⟩;go_wp2_with fail;refine (p4 _).mono ?_;rintro _ _ ⟨rfl,rfl⟩;go_wp2;exact bodyPost_ret (zh rfl _ _ rfl B4) rfl ⟨rfl,hb4⟩
 · have hq':(q2==7)=false:=by simp[hq]
   have hD2:1+q1=D:=by rw[hD.out,if_neg hq]
   clear hD
   go_enter Tryz.func43,Tryz.ntmps43
   go_wp2_with fail;refine (p1 _).mono ?_;rintro _ _ ⟨rfl,rfl⟩;go_wp2_with fail;refine (p2 _).mono ?_;rintro _ _ ⟨rfl,rfl⟩;go_wp2_with fail;refine (p4 _).mono ?_;rintro _ _ ⟨rfl,rfl⟩;go_wp2;exact bodyPost_ret (zh rfl _ _ rfl B4) rfl ⟨rfl,hb4⟩
section
variable {x y z:Rat} {xa xb ya yb za zb:List UInt8} {j k:Nat} (w:World) (lx:LQ x xa xb) (ly:LQ y ya yb) (lz:LQ z za zb) (hx:Rq.Qz j j x) (hy:Rq.Qz k k y) (hjk:j+k+1<=200)
include lx ly lz hx hy hjk
end
end Go.Proofs.YtelljijajgiabaaGreatDoor

import Derived.Test.YtohgjenaclfegaaGreatDoorQT01
import Derived.Test.YtohgjenaclfegaaGreatDoorQR02
set_option linter.unusedVariables false
set_option linter.unusedSimpArgs false
set_option maxRecDepth 100000
set_option maxHeartbeats 8000000
namespace Go.Proofs.YtohgjenaclfegaaGreatDoor
open Go.RowKit Go.Shelf
theorem dW {fn:Func} {t:Tmp} {g:Nat} {n d:ByteArray} (h:fn.results=#[.cell t 77]) (tmps:Array Value) (w:World) (ht:tmps.getD t undef=.pointer (some ⟨g,0,none⟩)) (hB:Bx w g 77 #[.string n,.string d]) :
 (results fn tmps).run Tryz.prog w=.ok (.agg #[.string n,.string d]) w:=by
 have h0:=hB.cell 0 rfl;have h1:=hB.cell 1 rfl;have ht':tmps[t]?.getD undef=.pointer (some ⟨g,0,none⟩):=by simpa using ht
 simp only[results,h];simp [go_sem,ht',h0,h1,loadVar]
theorem U6 (f:Nat->Int) (g1 g2 g3 g4:Nat) (k n:Nat) (den:Int) (q:Rat) (sd qa qb:List UInt8) (w:World) (hf:∀i,Rq.Sz 183 (f i)) (hn:n<=100) (hk:k<=n+1) (hd:0<den) (hds:Rq.Sz 160 den) (hsd:Ix den sd) (hE:Env w) (hq:Kp (Rat.divInt (Tb.sm f k (n+1-k)) den=q)) (lq:LQ q qa qb)
 (hT:∀(i:Nat) (s:List UInt8) (W:World),k<=i->i<=n->Ix (f i) s->Below w.heap.size w W->aT 116 #[.int .i64 i,.pointer (some ⟨g1,0,none⟩),.pointer (some ⟨g2,0,none⟩),.pointer (some ⟨g3,0,none⟩),.pointer (some ⟨g4,0,none⟩)] W (.string ⟨s.toArray⟩)) :
 aT 115 #[.int .i64 k,.int .i64 n,.string ⟨sd.toArray⟩,.func (.func 116) #[] #[.pointer (some ⟨g1,0,none⟩),.pointer (some ⟨g2,0,none⟩),.pointer (some ⟨g3,0,none⟩),.pointer (some ⟨g4,0,none⟩)]] w (.agg #[.string ⟨qa.toArray⟩,.string ⟨qb.toArray⟩]):=by
 have hb0:=aA w (.cells #[.string ⟨#[]⟩,.string ⟨#[]⟩] 77);have BR:=Bx.mk w 77 #[.string ⟨#[]⟩,.string ⟨#[]⟩];have z0:Ix 0 [48]:=⟨oq⟩
 go_enter Tryz.func115,Tryz.ntmps115
 go_wp2_with fail
 go_loopw [9,10] (fun s9 s10 wr=>∃(i:Nat) (s:List UInt8),s10=.int .i64 i/\s9=.string ⟨s.toArray⟩/\k<=i/\i<=n+1/\Ix (Tb.sm f k (i-k)) s/\Bx wr w.heap.size 77 #[.string ⟨#[]⟩,.string ⟨#[]⟩]/\Below w.heap.size w wr) (fun _ s10 _=>n+1-(intOf s10).toNat)
 case atStart=>exact⟨k,[48],rfl,rfl,Nat.le_refl _,hk,by rw[Nat.sub_self];exact z0,BR,hb0⟩
 case round =>
  clear hb0 BR z0;obtain ⟨i,s,rfl,rfl,hki,hin,hs,hB,hb⟩:=hrel;have hEr:=hE.below hb;by_cases hlt:i<=n
  · have t0:decide ((i:Int)<=(n:Int))=true:=by simp;omega
    obtain⟨st,est⟩:=Ix.ex (f i);obtain ⟨s2,es2⟩:=Ix.ex (Tb.sm f k (i+1-k));have hC:=hT i st wr hki hlt est hb;have hP:=fun w1 (hb1:Below wr.heap.size wr w1)=>Hf w1 hs est es2 ⟨by rw[show i+1-k=(i-k)+1 by omega];show _=Tb.sm f k (i-k)+f (k+(i-k));rw[show k+(i-k)=i by omega]⟩ (Tb.z_ k hf (by omega)) (hf i) (Tb.z_ k hf (by omega)) (by decide) (by decide) (by decide) (hEr.below hb1)
    clear hT hs est hEr hE;go_wp2_with fail;refine hC.mono ?_;rintro _ w1 ⟨rfl,hb1⟩;have hP1:=hP w1 hb1;clear hC hP;go_wp2_with fail;refine hP1.mono ?_;rintro _ w2 ⟨rfl,hb2⟩;clear hP1;replace hB:=(hB.call hb1).call hb2;replace hb:=ah (ah hb hb1) hb2;clear hb1 hb2;go_wp2;exact ⟨⟨i+1,s2,by go_num,rfl,by omega,by omega,es2,hB,hb⟩,by simp[intOf] <;> omega⟩
  · obtain rfl:i=n+1:=by omega
    have hM:=DI (Tb.sm f k (n+1-k)) den wr ((Tb.z_ (j:=183) k hf (m:=n+1-k) (by omega)).fits (by decide)) (hds.fits (by decide)) (by omega) hEr;rw [hs.out,hsd.out,hq.out,lq.eq]at hM;have t0:decide (((n+1:Nat):Int)<=(n:Int))=false:=by simp;omega
    clear hT hs hE hEr hq lq;go_wp2_with fail;refine hM.mono ?_;rintro _ w1 ⟨rfl,hb1⟩;clear hM;have B2:=(hB.call hb1).new (.cells #[.string ⟨qa.toArray⟩,.string ⟨qb.toArray⟩] 77);have B3:=Bx.mk w1 77 #[.string ⟨qa.toArray⟩,.string ⟨qb.toArray⟩];have hb2:=bNew (ah hb hb1) (.cells #[.string ⟨qa.toArray⟩,.string ⟨qb.toArray⟩] 77);have c0:=B2.cell 0 rfl;have c1:=B2.cell 1 rfl;have f0:=B2.frozen 0;have f1:=B2.frozen 1;have d0:=B3.cell 0 rfl;have d1:=B3.cell 1 rfl;have B4:=(B2.set 0 (.string ⟨qa.toArray⟩)).set 1 (.string ⟨qb.toArray⟩);have hb4:=aK (aK hb2 (p:=⟨w.heap.size,0,none⟩) (Nat.le_refl _) (.string ⟨qa.toArray⟩)) (p:=⟨w.heap.size,1,none⟩) (Nat.le_refl _) (.string ⟨qb.toArray⟩);clear hB hb hb1;go_wp2;exact bodyPost_ret (dW rfl _ _ rfl B4) rfl ⟨rfl,hb4⟩
theorem U7 (f:Nat->Int) (g1 g2 g3:Nat) (k n:Nat) (den:Int) (q:Rat) (sd qa qb:List UInt8) (w:World) (hf:∀i,Rq.Sz 183 (f i)) (hn:n<=100) (hk:k<=n+1) (hd:0<den) (hds:Rq.Sz 160 den) (hsd:Ix den sd) (hE:Env w) (hq:Kp (Rat.divInt (Tb.sm f k (n+1-k)) den=q)) (lq:LQ q qa qb)
 (hT:∀(i:Nat) (s:List UInt8) (W:World),k<=i->i<=n->Ix (f i) s->Below w.heap.size w W->aT 148 #[.int .i64 i,.pointer (some ⟨g1,0,none⟩),.pointer (some ⟨g2,0,none⟩),.pointer (some ⟨g3,0,none⟩)] W (.string ⟨s.toArray⟩)) :
 aT 115 #[.int .i64 k,.int .i64 n,.string ⟨sd.toArray⟩,.func (.func 148) #[] #[.pointer (some ⟨g1,0,none⟩),.pointer (some ⟨g2,0,none⟩),.pointer (some ⟨g3,0,none⟩)]] w (.agg #[.string ⟨qa.toArray⟩,.string ⟨qb.toArray⟩]):=by
 have hb0:=aA w (.cells #[.string ⟨#[]⟩,.string ⟨#[]⟩] 77);have BR:=Bx.mk w 77 #[.string ⟨#[]⟩,.string ⟨#[]⟩];have z0:Ix 0 [48]:=⟨oq⟩
 go_enter Tryz.func115,Tryz.ntmps115
 go_wp2_with fail
 go_loopw [9,10] (fun s9 s10 wr=>∃(i:Nat) (s:List UInt8),s10=.int .i64 i/\s9=.string ⟨s.toArray⟩/\k<=i/\i<=n+1/\Ix (Tb.sm f k (i-k)) s/\Bx wr w.heap.size 77 #[.string ⟨#[]⟩,.string ⟨#[]⟩]/\Below w.heap.size w wr) (fun _ s10 _=>n+1-(intOf s10).toNat)
 case atStart=>exact⟨k,[48],rfl,rfl,Nat.le_refl _,hk,by rw[Nat.sub_self];exact z0,BR,hb0⟩
 case round =>
  clear hb0 BR z0;obtain ⟨i,s,rfl,rfl,hki,hin,hs,hB,hb⟩:=hrel;have hEr:=hE.below hb;by_cases hlt:i<=n
  · have t0:decide ((i:Int)<=(n:Int))=true:=by simp;omega
    obtain⟨st,est⟩:=Ix.ex (f i);obtain ⟨s2,es2⟩:=Ix.ex (Tb.sm f k (i+1-k));have hC:=hT i st wr hki hlt est hb;have hP:=fun w1 (hb1:Below wr.heap.size wr w1)=>Hf w1 hs est es2 ⟨by rw[show i+1-k=(i-k)+1 by omega];show _=Tb.sm f k (i-k)+f (k+(i-k));rw[show k+(i-k)=i by omega]⟩ (Tb.z_ k hf (by omega)) (hf i) (Tb.z_ k hf (by omega)) (by decide) (by decide) (by decide) (hEr.below hb1)
    clear hT hs est hEr hE;go_wp2_with fail;refine hC.mono ?_;rintro _ w1 ⟨rfl,hb1⟩;have hP1:=hP w1 hb1;clear hC hP;go_wp2_with fail;refine hP1.mono ?_;rintro _ w2 ⟨rfl,hb2⟩;clear hP1;replace hB:=(hB.call hb1).call hb2;replace hb:=ah (ah hb hb1) hb2;clear hb1 hb2;go_wp2;exact ⟨⟨i+1,s2,by go_num,rfl,by omega,by omega,es2,hB,hb⟩,by simp[intOf] <;> omega⟩
  · obtain rfl:i=n+1:=by omega
    have hM:=DI (Tb.sm f k (n+1-k)) den wr ((Tb.z_ (j:=183) k hf (m:=n+1-k) (by omega)).fits (by decide)) (hds.fits (by decide)) (by omega) hEr;rw [hs.out,hsd.out,hq.out,lq.eq]at hM;have t0:decide (((n+1:Nat):Int)<=(n:Int))=false:=by simp;omega
    clear hT hs hE hEr hq lq;go_wp2_with fail;refine hM.mono ?_;rintro _ w1 ⟨rfl,hb1⟩;clear hM;have B2:=(hB.call hb1).new (.cells #[.string ⟨qa.toArray⟩,.string ⟨qb.toArray⟩] 77);have B3:=Bx.mk w1 77 #[.string ⟨qa.toArray⟩,.string ⟨qb.toArray⟩];have hb2:=bNew (ah hb hb1) (.cells #[.string ⟨qa.toArray⟩,.string ⟨qb.toArray⟩] 77);have c0:=B2.cell 0 rfl;have c1:=B2.cell 1 rfl;have f0:=B2.frozen 0;have f1:=B2.frozen 1;have d0:=B3.cell 0 rfl;have d1:=B3.cell 1 rfl;have B4:=(B2.set 0 (.string ⟨qa.toArray⟩)).set 1 (.string ⟨qb.toArray⟩);have hb4:=aK (aK hb2 (p:=⟨w.heap.size,0,none⟩) (Nat.le_refl _) (.string ⟨qa.toArray⟩)) (p:=⟨w.heap.size,1,none⟩) (Nat.le_refl _) (.string ⟨qb.toArray⟩);clear hB hb hb1;go_wp2;exact bodyPost_ret (dW rfl _ _ rfl B4) rfl ⟨rfl,hb4⟩
structure Pw (a:Int) (n g:Nat) (W:World):Prop where
 out:∃A cap,Bx W g 34 #[.slice A (n+1) cap]/\At 1 rD W W.heap.size A (Aj a n)/\n+1<=cap
theorem Pw.call {a:Int} {n g:Nat} {W W':World} (h:Pw a n g W) (hb:Below W.heap.size W W'):Pw a n g W':=by
 obtain⟨A,cap,h1,h2,h3⟩:=h.out;exact ⟨A,cap,h1.call hb,(h2.below hb).more hb.size,h3⟩
structure Tl (n:Nat) (c e:Int) (gn ga gr gy go:Nat) (W:World):Prop where
 hn:Bx W gn 3 #[.int .i64 n]
 hr:Bx W gr 207 (bM (pt n))
 hy:Pw c n gy W
 ho:Pw (e-c) n go W
 ha:Pw e n ga W
theorem Tl.call {n:Nat} {c e:Int} {gn ga gr gy go:Nat} {W W':World} (h:Tl n c e gn ga gr gy go W) (hb:Below W.heap.size W W'):Tl n c e gn ga gr gy go W' :=
 ⟨h.hn.call hb,h.hr.call hb,h.hy.call hb,h.ho.call hb,h.ha.call hb⟩
theorem Pw.cells {a:Int} {n g:Nat} {W:World} (h:Pw a n g W):∃b off cap,n+1<=cap/\(∀d os,(Sort.grow (redrawn W d) os).cell? ⟨g,0,none⟩=some (.slice (some ⟨b,off,none⟩) (n+1) cap)) /\
 ∀(j:Nat) (s:List UInt8),j<=n->Ix (a ^ j) s->∀d os,(Sort.grow (redrawn W d) os).cell? ⟨b,off+j,none⟩=some (.string ⟨s.toArray⟩):=by
 obtain⟨A,cap,h1,h2,h3⟩:=h.out;obtain ⟨b,off,rfl,hb,hc⟩:=h2 (by rw[Ce];omega);refine ⟨b,off,cap,h3,fun d os=>(h1.again d os).cell 0 rfl,fun j s hj hs d os=>?_⟩;have h4:=hc j _ (Jw a (by omega)) 0 _ rfl;rw [Nat.mul_one,Nat.add_zero,hs.out]at h4;exact ((below_regrown W d os).cell (p:=⟨b,off+j,none⟩) hb).trans h4
theorem Oj (n i:Nat) (c e:Int) (gn ga gr gy go:Nat) (s:List UInt8) (w:World) (hT:Tl n c e gn ga gr gy go w) (hn:n<=50) (hi:i<=n) (h0:0<=c) (h1:c<=e) (h2:e<=1000) (hs:Ix (Tb.tm n c (e-c) i) s) (hE:Env w) :
 aT 116 #[.int .i64 i,.pointer (some ⟨gr,0,none⟩),.pointer (some ⟨gy,0,none⟩),.pointer (some ⟨go,0,none⟩),.pointer (some ⟨gn,0,none⟩)] w (.string ⟨s.toArray⟩):=by
 obtain⟨by_,oy,cy,hcy,yb,yc⟩:=hT.hy.cells;obtain ⟨bo,oo,co,hco,ob,oc⟩:=hT.ho.cells;obtain ⟨s1,e1⟩:=Ix.ex (c ^ i);obtain ⟨s2,e2⟩:=Ix.ex ((e-c) ^ (n-i));obtain ⟨s3,e3⟩:=Ix.ex (c ^ i*(e-c) ^ (n-i));have e4:=qH n i;have gN:=fun d os=>(hT.hn.again d os).cell 0 rfl
 have gR:=fun d os=>(hT.hr.again d os).cell i (iJ (pt n) (by omega))
 have y1:=yc i s1 hi e1;have o1:=oc (n-i) s2 (by omega) e2;have k1:=fun d os=>wu (Sort.grow (redrawn w d) os) e1 e2 e3 ⟨rfl⟩ (Tb.jk h0 (by omega) i) (Tb.jk (c:=e-c) (by omega) (by omega) (n-i)) ((Tb.jk h0 (by omega) i).mul (Tb.jk (c:=e-c) (by omega) (by omega) (n-i))) (by omega) (by omega) (by omega) (hE.below (below_regrown w d os))
 have k2:=fun d os=>wu (Sort.grow (redrawn w d) os) e4 e3 hs ⟨rfl⟩ (Tb.qp (by omega) i) ((Tb.jk h0 (by omega) i).mul (Tb.jk (c:=e-c) (by omega) (by omega) (n-i))) (Tb.WV hn h0 (by omega) (d:=e-c) (by omega) (by omega) i) (by decide) (by omega) (by decide) (hE.below (below_regrown w d os))
 obtain⟨m,hm⟩:∃m,n-i=m:=⟨_,rfl⟩
 have hni:(n:Int)-(i:Int)=(m:Int):=by omega
 rw[hm]at o1;have hm2:m<=n:=by omega
 generalize pt n i=sp at *;clear yc oc hT e1 e2 e3 e4 hs hE hm
 go_enter Tryz.func116,Tryz.ntmps116
 go_wp2;refine wp_region_quiet_below (by kernel_rfl) (by kernel_rfl) ?_
 repeat (go_big_quiet_step (first
  | (go_at_call 117;with_reducible exact Calls.regrown_of (k1 _ _))
  | (go_at_call 117;with_reducible exact Calls.regrown_of (k2 _ _))))
 refine wpQuiet_nil ?_;rintro _ ⟨z,rfl⟩;have hbz:=below_regrown w z.d z.os;clear k1 k2 yb ob y1 o1 gN gR;generalize Sort.grow (redrawn w z.d) z.os=W2 at *;go_wp2;go_ret;exact ⟨rfl,hbz⟩
theorem Ol (n k:Nat) (c e:Int) (gn ga gr gy go:Nat) (qa qb:List UInt8) (w:World) (hT:Tl n c e gn ga gr gy go w) (hn:n<=50) (hk:k<=n+1) (h0:0<=c) (h1:c<=e) (h2:e<=1000) (h3:1<=e) (lq:LQ (Tb.Pq n k c (e-c)) qa qb) (hE:Env w) :
 aT 114 #[.int .i64 k,.pointer (some ⟨gn,0,none⟩),.pointer (some ⟨ga,0,none⟩),.pointer (some ⟨gr,0,none⟩),.pointer (some ⟨gy,0,none⟩),.pointer (some ⟨go,0,none⟩)] w (.agg #[.string ⟨qa.toArray⟩,.string ⟨qb.toArray⟩]):=by
 have Ub:=aA w (.cells #[.string ⟨#[]⟩,.string ⟨#[]⟩] 77);have BR:=Bx.mk w 77 #[.string ⟨#[]⟩,.string ⟨#[]⟩];have hTA:=hT.call Ub;have hEA:=hE.below Ub;obtain ⟨sd,esd⟩:=Ix.ex (e ^ n)
 have hq:Kp (Rat.divInt (Tb.sm (Tb.tm n c (e-c)) k (n+1-k)) (e ^ n)=Tb.Pq n k c (e-c)):=⟨by
  show _=Rat.divInt (Tb.S n k c (e-c)) ((c+(e-c)) ^ n)
  rw[show c+(e-c)=e by omega];rfl⟩
 have hrat:=fun W (hW:Below (w.alloc (.cells #[.string ⟨#[]⟩,.string ⟨#[]⟩] 77)).heap.size (w.alloc (.cells #[.string ⟨#[]⟩,.string ⟨#[]⟩] 77)) W) =>
  U6 (Tb.tm n c (e-c)) gr gy go gn k n (e ^ n) _ sd qa qb W (fun i=>Tb.WV hn h0 (by omega) (by omega) (by omega) i) (by omega) hk (Int.pow_pos (by omega)) ((Tb.jk (c:=e) (by omega) h2 n).mono (by omega)) esd (hEA.below hW) hq lq
   (fun i s X hki hin hs hX=>Oj n i c e gn ga gr gy go s X ((hTA.call hW).call hX) hn hin h0 h1 h2 hs ((hEA.below hW).below hX))
 obtain⟨ba,oa,ca,hca,ab,ac⟩:=hTA.ha.cells;have a1:=ac n sd (Nat.le_refl _) esd;have gN:=fun d os=>(hTA.hn.again d os).cell 0 rfl
 generalize hW0:w.alloc (.cells #[.string ⟨#[]⟩,.string ⟨#[]⟩] 77)=W0 at *;have kr:=fun d os=>hrat (Sort.grow (redrawn W0 d) os) (below_regrown W0 d os)
 clear hrat ac hTA hT hE hEA esd hq lq
 go_enter Tryz.func114,Tryz.ntmps114
 go_wp2
 try rw[hW0]
 clear hW0;refine bF 8 (by kernel_rfl) (by kernel_rfl) ?_;simp only[List.take,List.drop]
 repeat (go_big_quiet_step (first|(go_at_call 115;with_reducible exact Calls.regrown_of (kr _ _))))
 refine wpQuiet_nil ?_;rintro _ ⟨z,rfl⟩;have hbz:=dY Ub z.d z.os;replace BR:=BR.again z.d z.os;clear kr ab a1 gN Ub;generalize Sort.grow (redrawn W0 z.d) z.os=W2 at *;have c0:=BR.cell 0 rfl;have c1:=BR.cell 1 rfl;have f0:=BR.frozen 0;have f1:=BR.frozen 1;have B4:=(BR.set 0 (.string ⟨qa.toArray⟩)).set 1 (.string ⟨qb.toArray⟩);have hb4:=aK (aK hbz (p:=⟨w.heap.size,0,none⟩) (Nat.le_refl _) (.string ⟨qa.toArray⟩)) (p:=⟨w.heap.size,1,none⟩) (Nat.le_refl _) (.string ⟨qb.toArray⟩);go_wp2;exact bodyPost_ret (dW rfl _ _ rfl B4) rfl ⟨rfl,hb4⟩
def Ku (c e:Int):Bool:=Tp.within e 1 1000&&Tp.within c 0 e
theorem tN {c e:Int}:Ku c e=true↔1<=e/\e<=1000/\0<=c/\c<=e:=by
 unfold Ku
 rw[Bool.and_eq_true,Tp.within_iff,Tp.within_iff];omega
theorem CX (c e:Int) (w:World) :
 aT 111 #[.agg #[.int .i64 c,.int .i64 e]] w (.bool (Ku c e)):=by
 have hI1:=fun w0=>aO (ou e 1 1000 w0)
 have hI2:=fun w0=>aO (ou c 0 e w0)
 have hd:Kp (Ku c e=(Tp.within e 1 1000&&Tp.within c 0 e)):=⟨rfl⟩
 have B:=Bx.mk w 39 #[.int .i64 c,.int .i64 e];have hb:=bNew (bH w) (.cells #[.int .i64 c,.int .i64 e] 39);have c0:=B.cell 0 rfl;have c1:=B.cell 1 rfl;generalize Tp.within c 0 e=r2 at *
 cases h1:Tp.within e 1 1000 with
 | true =>
  rw[h1]at hI1 hd;clear h1
  go_enter Tryz.func111,Tryz.ntmps111
  go_wp2_with fail;refine (hI1 _).mono ?_;rintro e w1 ⟨rfl,hb1⟩;have d0:=(B.call hb1).cell 0 rfl;have d1:=(B.call hb1).cell 1 rfl;go_wp2_with fail;refine (hI2 _).mono ?_;rintro e w2 ⟨rfl,hb2⟩;go_wp2;go_ret;exact ⟨eF (by rw[hd.out];simp),ah (ah hb hb1) hb2⟩
 | false =>
  rw[h1]at hI1 hd;clear h1
  go_enter Tryz.func111,Tryz.ntmps111
  go_wp2_with fail;refine (hI1 _).mono ?_;rintro e w1 ⟨rfl,hb1⟩;go_wp2;go_ret;exact ⟨eF (by rw[hd.out];simp),ah hb hb1⟩
def FB (i:Nat) (v:Value) (w w':World):Prop:=17<=i/\i<=20->v=.pointer (some ⟨w.heap.size,0,none⟩)/\w.heap.size<w'.heap.size
theorem FB.no {i:Nat} {v:Value} {w w':World} (h:i<17):FB i v w w':=fun e=>by omega
def KA (w w':World):Prop:=Below w.heap.size w w'
theorem Z9:RA.Cls KA:=⟨fun w=>Below.refl _ _,fun h k=>ah h k,fun w n=>⟨rfl,rfl,rfl,Nat.le_refl _,fun _ _=>rfl⟩⟩
def PwR (a:Int) (n:Nat):RA.Rl:=fun _ v W=>TN 9 1 0 (n+1) ((Aj a n).flatMap rD) v W
theorem UQ (a:Int) (n:Nat):RA.dG KA (PwR a n):=fun x v w w' h hb=>Lc _ _ _ _ _ v w w' h hb
theorem dP.weak {e:TypeId} {size B cap n:Nat} {flat:List Value} {v:Value} {w:World} (h:dP e size B cap n flat v w):dP e size 0 cap n flat v w:=by
 obtain⟨g,cells,h1,h2,h3⟩:=h;exact ⟨g,cells,h1,Nat.zero_le _,h3⟩
theorem nI {W:World} {a b:Nat} {t t':TypeId} {cs cs':Array Value} (h:Bx W a t cs) (h':Bx W b t' cs') (hne:t≠t'):a≠b:=by
 rintro rfl;have e:=h.symm.trans h'
 injection e with e
 injection e with e1 e2
 exact hne e2
theorem O5 {W:World} {a:Int} {n gb cap g:Nat} {cells:Array Value} (hB:Bx W gb 34 #[.slice (some ⟨g,0,none⟩) (n+1) cap]) (hc:n+1<=cap) (hx:Bx W g 9 cells) (hs:cells.size=cap*1) (hf:cells.toList.take ((n+1)*1)=(Aj a n).flatMap rD):Pw a n gb W:=by
 have hR:dP 9 1 0 cap (Aj a n).length ((Aj a n).flatMap rD) (.slice (some ⟨g,0,none⟩) (n+1) cap) W:=by
  rw[Ce];exact⟨g,cells,rfl,Nat.zero_le _,hc,hx,hs,hf⟩
 obtain⟨A,e,h1,h2⟩:=hR.at xg;rw [Ce]at e h2
 injection e with e1
 subst e1;exact ⟨_,cap,hB,h1,hc⟩
def BoR (B:Nat) (t:TypeId) (cs:Array Value):RA.Rl:=fun _ v W=>∃g,v=.pointer (some ⟨g,0,none⟩)/\B<=g/\Bx W g t cs
theorem UU (B:Nat) (t:TypeId) (cs:Array Value):RA.dG KA (BoR B t cs):=fun x v w w' ⟨g,h1,h2,h3⟩ hb=>⟨g,h1,h2,h3.call hb⟩
theorem BG {o:Oper} {a:Act} {w:World} {K:Act->World->Prop} {Q:Exit->Act->World->Prop} {x y:Operand} (ho:o.op=.store 207 x y) {g:Nat} (hx:a.eval x=.pointer (some ⟨g,0,none⟩)) {t:TypeId} {old:Array Value} {f:Nat->List UInt8}
 (hy:a.eval y=.agg (bM f)) (hB:Bx w g t old) (hs:old.size=101) (h:K (a.put o.dst undef) (w.setRow g (bM f))):o.wp Tryz.prog a w K Q :=
 wp_store_row 207 x y ho g (bM f) hx hy t old hB (by rw[fO];exact jG) (by rw[fO];exact hs) (xC f) h
theorem Gy (n:Nat) (c e:Int) (w:World) (hn:n<=50) (h0:0<=c) (h1:c<=e) (h2:e<=1000) (h3:1<=e) (hE:Env w) :
 Calls Tryz.prog 69 #[.int .i64 n,.agg #[.int .i64 c,.int .i64 e]] w fun e' w'=>(∃gn ga gr gy go,e'=.returned (.tuple #[.func (.func 114) #[] #[.pointer (some ⟨gn,0,none⟩),.pointer (some ⟨ga,0,none⟩),.pointer (some ⟨gr,0,none⟩),.pointer (some ⟨gy,0,none⟩),.pointer (some ⟨go,0,none⟩)],.int .i64 0])/\Tl n c e gn ga gr gy go w')/\Below w.heap.size w w':=by
 have B0:=(Bx.mk w 3 #[.int .i64 n]).new (.cells #[.int .i64 c,.int .i64 e] 39);have B1:=Bx.mk (w.alloc (.cells #[.int .i64 n] 3)) 39 #[.int .i64 c,.int .i64 e];rw [aj]at B1;have hb:=bNew (aA w (.cells #[.int .i64 n] 3)) (.cells #[.int .i64 c,.int .i64 e] 39);have hC:=fun w0=>CX c e w0
 rw[tN.2 ⟨h3,h2,h0,h1⟩]at hC;have hI:=fun w0=>ou n 0 50 w0
 rw[Tp.within_iff.2 ⟨by omega,by omega⟩]at hI;have c0:=B0.cell 0 rfl;have c1:=B1.cell 0 rfl;have c2:=B1.cell 1 rfl
 go_enter Tryz.func69,Tryz.ntmps69
 go_upto_region 3 with (first|(go_at_call 111;refine (hC _).mono ?_;rintro e w1 ⟨rfl,hb1⟩;clear hC;have d0:=(B0.call hb1).cell 0 rfl)|(go_at_call 70;refine (hI _).mono ?_;rintro e w2 ⟨rfl,rfl⟩;clear hI))
 replace hb:=ah hb hb1;replace B0:=B0.call hb1;replace B1:=B1.call hb1;have hE1:=hE.below hb;clear c0 c1 c2 d0 hb1 hE
 refine RA.au (F:=FB) Z9 [] [RA.ak (.int .i64 n),RA.ak (.agg (bM (pt n))),RA.ak (.pointer (some ⟨w.heap.size+1,0,none⟩)),RA.ak (.int .i64 c),RA.ak (.int .i64 n),PwR c n,RA.ak (.pointer (some ⟨w.heap.size+1,1,none⟩)),RA.ak (.int .i64 e),RA.ak (.pointer (some ⟨w.heap.size+1,0,none⟩)),RA.ak (.int .i64 c),RA.ak (.int .i64 (e-c)),RA.ak (.int .i64 n),PwR (e-c) n,RA.ak (.pointer (some ⟨w.heap.size+1,1,none⟩)),RA.ak (.int .i64 e),RA.ak (.int .i64 n),PwR e n,
  BoR w1.heap.size 207 Tryz.zeroCells207,BoR w1.heap.size 34 #[.slice none 0 0],BoR w1.heap.size 34 #[.slice none 0 0],BoR w1.heap.size 34 #[.slice none 0 0]] 21 36 (fun i=>decide (17<=i)&&decide (i<=20)) (fun _ _ h=>h.size) (fun p hp v w w' h=>h (by simpa using hp)) rfl rfl rfl (by kernel_rfl) (by kernel_rfl) ?_ ?_ ?_
 · simp only[RA.aY]
   repeat' apply And.intro
   all_goals first|exact RA.aB _|exact UQ _ _|exact UU _ _ _|trivial
 · simp only[RA.aS,List.take,List.length];refine ⟨?_,?_,?_,?_,?_,?_,?_,?_,?_,?_,?_,?_,?_,?_,?_,?_,?_,?_,?_,?_,?_,trivial⟩;all_goals (intro vs w2 hb2 hd;simp only[RA.aJ,Act.put,List.nil_append,List.cons_append,List.setIfInBounds_toArray,List.set_cons_succ,List.set_cons_zero,Nat.reduceAdd])
   · have q0:=(B0.call hb2).cell 0 rfl;clear hd;go_wp2;exact⟨Below.refl _ _,rfl,FB.no (by decide)⟩
   · have e0:vs 0=_:=hd 0 rfl;have hC:=mM n w2 (by omega) (hE1.below hb2);clear hd;rw[e0];go_wp2_with fail;refine hC.mono ?_;clear hC;rintro _ w9 ⟨rfl,aX⟩;go_wp2;exact ⟨aX,rfl,FB.no (by decide)⟩
   · clear hd;go_wp2;exact⟨Below.refl _ _,rfl,FB.no (by decide)⟩
   · have e2:vs 2=_:=hd 2 rfl;have q0:=(B1.call hb2).cell 0 rfl;clear hd;rw[e2];go_wp2;exact⟨Below.refl _ _,rfl,FB.no (by decide)⟩
   · have q0:=(B0.call hb2).cell 0 rfl;clear hd;go_wp2;exact⟨Below.refl _ _,rfl,FB.no (by decide)⟩
   · have e3:vs 3=_:=hd 3 rfl;have e4:vs 4=_:=hd 4 rfl;have hC:=qI (c) n w2 (by omega) (by omega) hn (hE1.below hb2);clear hd;rw[e3,e4];go_wp2_with fail;refine hC.mono ?_;clear hC;rintro _ w9 ⟨⟨v9,rfl,cap,CY,zI⟩,aX⟩;have hr8:=CY;obtain ⟨x9,x8,rfl,-,-,-,-,-⟩:=hr8;go_wp2;exact ⟨aX,⟨cap,CY.weak,zI⟩,FB.no (by decide)⟩
   · clear hd;go_wp2;exact⟨Below.refl _ _,rfl,FB.no (by decide)⟩
   · have e6:vs 6=_:=hd 6 rfl;have q0:=(B1.call hb2).cell 1 rfl;clear hd;rw[e6];go_wp2;exact⟨Below.refl _ _,rfl,FB.no (by decide)⟩
   · clear hd;go_wp2;exact⟨Below.refl _ _,rfl,FB.no (by decide)⟩
   · have e8:vs 8=_:=hd 8 rfl;have q0:=(B1.call hb2).cell 0 rfl;clear hd;rw[e8];go_wp2;exact⟨Below.refl _ _,rfl,FB.no (by decide)⟩
   · have e7:vs 7=_:=hd 7 rfl;have e9:vs 9=_:=hd 9 rfl;clear hd;rw[e7,e9];go_wp2;exact⟨Below.refl _ _,rfl,FB.no (by decide)⟩
   · have q0:=(B0.call hb2).cell 0 rfl;clear hd;go_wp2;exact⟨Below.refl _ _,rfl,FB.no (by decide)⟩
   · have e10:vs 10=_:=hd 10 rfl;have e11:vs 11=_:=hd 11 rfl;have hC:=qI (e-c) n w2 (by omega) (by omega) hn (hE1.below hb2);clear hd;rw[e10,e11];go_wp2_with fail;refine hC.mono ?_;clear hC;rintro _ w9 ⟨⟨v9,rfl,cap,CY,zI⟩,aX⟩;have hr8:=CY;obtain ⟨x9,x8,rfl,-,-,-,-,-⟩:=hr8;go_wp2;exact ⟨aX,⟨cap,CY.weak,zI⟩,FB.no (by decide)⟩
   · clear hd;go_wp2;exact⟨Below.refl _ _,rfl,FB.no (by decide)⟩
   · have e13:vs 13=_:=hd 13 rfl;have q0:=(B1.call hb2).cell 1 rfl;clear hd;rw[e13];go_wp2;exact⟨Below.refl _ _,rfl,FB.no (by decide)⟩
   · have q0:=(B0.call hb2).cell 0 rfl;clear hd;go_wp2;exact⟨Below.refl _ _,rfl,FB.no (by decide)⟩
   · have e14:vs 14=_:=hd 14 rfl;have e15:vs 15=_:=hd 15 rfl;have hC:=qI (e) n w2 (by omega) (by omega) hn (hE1.below hb2);clear hd;rw[e14,e15];go_wp2_with fail;refine hC.mono ?_;clear hC;rintro _ w9 ⟨⟨v9,rfl,cap,CY,zI⟩,aX⟩;have hr8:=CY;obtain ⟨x9,x8,rfl,-,-,-,-,-⟩:=hr8;go_wp2;exact ⟨aX,⟨cap,CY.weak,zI⟩,FB.no (by decide)⟩
   · clear hd;go_wp2;exact⟨aA _ _,⟨_,rfl,Below.size hb2,Bx.mk _ _ _⟩,fun _=>⟨rfl,by rw[aj];omega⟩⟩
   · clear hd;go_wp2;exact⟨aA _ _,⟨_,rfl,Below.size hb2,Bx.mk _ _ _⟩,fun _=>⟨rfl,by rw[aj];omega⟩⟩
   · clear hd;go_wp2;exact⟨aA _ _,⟨_,rfl,Below.size hb2,Bx.mk _ _ _⟩,fun _=>⟨rfl,by rw[aj];omega⟩⟩
   · clear hd;go_wp2;exact⟨aA _ _,⟨_,rfl,Below.size hb2,Bx.mk _ _ _⟩,fun _=>⟨rfl,by rw[aj];omega⟩⟩
 · intro vs W1 hba hR hne;simp only[RA.bP,RA.ak]at hR;obtain ⟨e0,e1,e2,e3,e4,⟨k5,⟨x5,y5,e5,-,l5,X5,z5,f5⟩,-⟩,e6,e7,e8,e9,e10,e11,⟨k12,⟨x12,y12,e12,-,l12,X12,z12,f12⟩,-⟩,e13,e14,e15,⟨k16,⟨x16,y16,e16,-,l16,X16,z16,f16⟩,-⟩,⟨g17,e17,b17,B17⟩,⟨g18,e18,b18,B18⟩,⟨g19,e19,b19,B19⟩,⟨g20,e20,b20,B20⟩,-⟩:=hR
   have ne:∀i j x y,17<=i->i<=20->17<=j->j<=20->i≠j->vs i=.pointer (some ⟨x,0,none⟩)->vs j=.pointer (some ⟨y,0,none⟩)->x≠y:=fun i j x y h1 h2 h3 h4 h5 h6 h7 h8 =>
    hne i j (by omega) (by omega) (by simp[h1,h2]) (by simp[h3,h4]) h5 (by rw[h6,h7,h8])
   have n1:=ne 17 18 _ _ (by decide) (by decide) (by decide) (by decide) (by decide) e17 e18;have n2:=ne 17 19 _ _ (by decide) (by decide) (by decide) (by decide) (by decide) e17 e19;have n3:=ne 17 20 _ _ (by decide) (by decide) (by decide) (by decide) (by decide) e17 e20;have n4:=ne 18 19 _ _ (by decide) (by decide) (by decide) (by decide) (by decide) e18 e19;have n5:=ne 18 20 _ _ (by decide) (by decide) (by decide) (by decide) (by decide) e18 e20;have n6:=ne 19 20 _ _ (by decide) (by decide) (by decide) (by decide) (by decide) e19 e20;replace hba:Below w1.heap.size w1 W1:=hba;simp only[List.drop,List.take,List.map,RA.aJ,Act.put,List.setIfInBounds_toArray,List.set_cons_succ,List.set_cons_zero,Nat.reduceAdd];rw [e0,e1,e2,e3,e4,e5,e6,e7,e8,e9,e10,e11,e12,e13,e14,e15,e16,e17,e18,e19,e20];have hzz:=qV;generalize Tryz.zeroCells207=zc at *;clear e0 e1 e2 e3 e4 e5 e6 e7 e8 e9 e10 e11 e12 e13 e14 e15 e16 e17 e18 e19 e20 ne hne;refine wpList_plain rfl fun _ hK=>BG rfl rfl rfl B17 hzz (hK _ _ ?_)
   have hbR:=hba.trans ((below_setRow W1 (bM (pt n)) b17).mono (Nat.le_refl _));have R17:=lW B17 (bM (pt n));have YG:Bx (W1.setRow g17 (bM (pt n))) g18 34 #[.slice none 0 0]:=(setRow_other _ (fun h=>n1 h.symm)).trans B18;have o19:Bx (W1.setRow g17 (bM (pt n))) g19 34 #[.slice none 0 0]:=(setRow_other _ (fun h=>n2 h.symm)).trans B19;have o20:Bx (W1.setRow g17 (bM (pt n))) g20 34 #[.slice none 0 0]:=(setRow_other _ (fun h=>n3 h.symm)).trans B20;have m5:Bx (W1.setRow g17 (bM (pt n))) x5 9 y5:=(setRow_other _ (nI X5 B17 (by decide))).trans X5;have m12:Bx (W1.setRow g17 (bM (pt n))) x12 9 y12:=(setRow_other _ (nI X12 B17 (by decide))).trans X12;have m16:Bx (W1.setRow g17 (bM (pt n))) x16 9 y16:=(setRow_other _ (nI X16 B17 (by decide))).trans X16;clear B17 B18 B19 B20 X5 X12 X16;generalize W1.setRow g17 (bM (pt n))=W2 at *;have dz0:=YG.cell 0 rfl;have fz0:=YG.frozen 0;have Yf:Bx (W2.setCell ⟨g18,0,none⟩ (.slice (some ⟨x5,0,none⟩) (n+1) k5)) g17 207 (bM (pt n)):=R17.far (p:=⟨g18,0,none⟩) (n1) (.slice (some ⟨x5,0,none⟩) (n+1) k5);have Xh:Bx (W2.setCell ⟨g18,0,none⟩ (.slice (some ⟨x5,0,none⟩) (n+1) k5)) g18 34 #[.slice (some ⟨x5,0,none⟩) (n+1) k5]:=by simpa using YG.set 0 (.slice (some ⟨x5,0,none⟩) (n+1) k5)
   have xQ:Bx (W2.setCell ⟨g18,0,none⟩ (.slice (some ⟨x5,0,none⟩) (n+1) k5)) g19 34 #[.slice none 0 0]:=o19.far (p:=⟨g18,0,none⟩) (fun h=>n4 h.symm) (.slice (some ⟨x5,0,none⟩) (n+1) k5);have Xc:Bx (W2.setCell ⟨g18,0,none⟩ (.slice (some ⟨x5,0,none⟩) (n+1) k5)) g20 34 #[.slice none 0 0]:=o20.far (p:=⟨g18,0,none⟩) (fun h=>n5 h.symm) (.slice (some ⟨x5,0,none⟩) (n+1) k5);have YP:Bx (W2.setCell ⟨g18,0,none⟩ (.slice (some ⟨x5,0,none⟩) (n+1) k5)) x5 9 y5:=m5.far (p:=⟨g18,0,none⟩) (nI m5 YG (by decide)) (.slice (some ⟨x5,0,none⟩) (n+1) k5);have Qc:Bx (W2.setCell ⟨g18,0,none⟩ (.slice (some ⟨x5,0,none⟩) (n+1) k5)) x12 9 y12:=m12.far (p:=⟨g18,0,none⟩) (nI m12 YG (by decide)) (.slice (some ⟨x5,0,none⟩) (n+1) k5);have Qa:Bx (W2.setCell ⟨g18,0,none⟩ (.slice (some ⟨x5,0,none⟩) (n+1) k5)) x16 9 y16:=m16.far (p:=⟨g18,0,none⟩) (nI m16 YG (by decide)) (.slice (some ⟨x5,0,none⟩) (n+1) k5);have hb_0:Below w1.heap.size w1 (W2.setCell ⟨g18,0,none⟩ (.slice (some ⟨x5,0,none⟩) (n+1) k5)):=hbR.setCell (p:=⟨g18,0,none⟩) b18 (.slice (some ⟨x5,0,none⟩) (n+1) k5);have dz1:=xQ.cell 0 rfl;have fz1:=xQ.frozen 0;have Ye:Bx ((W2.setCell ⟨g18,0,none⟩ (.slice (some ⟨x5,0,none⟩) (n+1) k5)).setCell ⟨g19,0,none⟩ (.slice (some ⟨x12,0,none⟩) (n+1) k12)) g17 207 (bM (pt n)):=Yf.far (p:=⟨g19,0,none⟩) (n2) (.slice (some ⟨x12,0,none⟩) (n+1) k12);have Xg:Bx ((W2.setCell ⟨g18,0,none⟩ (.slice (some ⟨x5,0,none⟩) (n+1) k5)).setCell ⟨g19,0,none⟩ (.slice (some ⟨x12,0,none⟩) (n+1) k12)) g18 34 #[.slice (some ⟨x5,0,none⟩) (n+1) k5]:=Xh.far (p:=⟨g19,0,none⟩) (n4) (.slice (some ⟨x12,0,none⟩) (n+1) k12);have Xe:Bx ((W2.setCell ⟨g18,0,none⟩ (.slice (some ⟨x5,0,none⟩) (n+1) k5)).setCell ⟨g19,0,none⟩ (.slice (some ⟨x12,0,none⟩) (n+1) k12)) g19 34 #[.slice (some ⟨x12,0,none⟩) (n+1) k12]:=by simpa using xQ.set 0 (.slice (some ⟨x12,0,none⟩) (n+1) k12)
   have xP:Bx ((W2.setCell ⟨g18,0,none⟩ (.slice (some ⟨x5,0,none⟩) (n+1) k5)).setCell ⟨g19,0,none⟩ (.slice (some ⟨x12,0,none⟩) (n+1) k12)) g20 34 #[.slice none 0 0]:=Xc.far (p:=⟨g19,0,none⟩) (fun h=>n6 h.symm) (.slice (some ⟨x12,0,none⟩) (n+1) k12);have YO:Bx ((W2.setCell ⟨g18,0,none⟩ (.slice (some ⟨x5,0,none⟩) (n+1) k5)).setCell ⟨g19,0,none⟩ (.slice (some ⟨x12,0,none⟩) (n+1) k12)) x5 9 y5:=YP.far (p:=⟨g19,0,none⟩) (nI YP xQ (by decide)) (.slice (some ⟨x12,0,none⟩) (n+1) k12);have Qb:Bx ((W2.setCell ⟨g18,0,none⟩ (.slice (some ⟨x5,0,none⟩) (n+1) k5)).setCell ⟨g19,0,none⟩ (.slice (some ⟨x12,0,none⟩) (n+1) k12)) x12 9 y12:=Qc.far (p:=⟨g19,0,none⟩) (nI Qc xQ (by decide)) (.slice (some ⟨x12,0,none⟩) (n+1) k12);have P_:Bx ((W2.setCell ⟨g18,0,none⟩ (.slice (some ⟨x5,0,none⟩) (n+1) k5)).setCell ⟨g19,0,none⟩ (.slice (some ⟨x12,0,none⟩) (n+1) k12)) x16 9 y16:=Qa.far (p:=⟨g19,0,none⟩) (nI Qa xQ (by decide)) (.slice (some ⟨x12,0,none⟩) (n+1) k12);have hb_1:Below w1.heap.size w1 ((W2.setCell ⟨g18,0,none⟩ (.slice (some ⟨x5,0,none⟩) (n+1) k5)).setCell ⟨g19,0,none⟩ (.slice (some ⟨x12,0,none⟩) (n+1) k12)):=hb_0.setCell (p:=⟨g19,0,none⟩) b19 (.slice (some ⟨x12,0,none⟩) (n+1) k12);have dz2:=xP.cell 0 rfl;have fz2:=xP.frozen 0;have Yd:Bx (((W2.setCell ⟨g18,0,none⟩ (.slice (some ⟨x5,0,none⟩) (n+1) k5)).setCell ⟨g19,0,none⟩ (.slice (some ⟨x12,0,none⟩) (n+1) k12)).setCell ⟨g20,0,none⟩ (.slice (some ⟨x16,0,none⟩) (n+1) k16)) g17 207 (bM (pt n)):=Ye.far (p:=⟨g20,0,none⟩) (n3) (.slice (some ⟨x16,0,none⟩) (n+1) k16);have Xf:Bx (((W2.setCell ⟨g18,0,none⟩ (.slice (some ⟨x5,0,none⟩) (n+1) k5)).setCell ⟨g19,0,none⟩ (.slice (some ⟨x12,0,none⟩) (n+1) k12)).setCell ⟨g20,0,none⟩ (.slice (some ⟨x16,0,none⟩) (n+1) k16)) g18 34 #[.slice (some ⟨x5,0,none⟩) (n+1) k5]:=Xg.far (p:=⟨g20,0,none⟩) (n5) (.slice (some ⟨x16,0,none⟩) (n+1) k16);have Xd:Bx (((W2.setCell ⟨g18,0,none⟩ (.slice (some ⟨x5,0,none⟩) (n+1) k5)).setCell ⟨g19,0,none⟩ (.slice (some ⟨x12,0,none⟩) (n+1) k12)).setCell ⟨g20,0,none⟩ (.slice (some ⟨x16,0,none⟩) (n+1) k16)) g19 34 #[.slice (some ⟨x12,0,none⟩) (n+1) k12]:=Xe.far (p:=⟨g20,0,none⟩) (n6) (.slice (some ⟨x16,0,none⟩) (n+1) k16);have Xb:Bx (((W2.setCell ⟨g18,0,none⟩ (.slice (some ⟨x5,0,none⟩) (n+1) k5)).setCell ⟨g19,0,none⟩ (.slice (some ⟨x12,0,none⟩) (n+1) k12)).setCell ⟨g20,0,none⟩ (.slice (some ⟨x16,0,none⟩) (n+1) k16)) g20 34 #[.slice (some ⟨x16,0,none⟩) (n+1) k16]:=by simpa using xP.set 0 (.slice (some ⟨x16,0,none⟩) (n+1) k16)
   have m5_2:Bx (((W2.setCell ⟨g18,0,none⟩ (.slice (some ⟨x5,0,none⟩) (n+1) k5)).setCell ⟨g19,0,none⟩ (.slice (some ⟨x12,0,none⟩) (n+1) k12)).setCell ⟨g20,0,none⟩ (.slice (some ⟨x16,0,none⟩) (n+1) k16)) x5 9 y5:=YO.far (p:=⟨g20,0,none⟩) (nI YO xP (by decide)) (.slice (some ⟨x16,0,none⟩) (n+1) k16);have Xl:Bx (((W2.setCell ⟨g18,0,none⟩ (.slice (some ⟨x5,0,none⟩) (n+1) k5)).setCell ⟨g19,0,none⟩ (.slice (some ⟨x12,0,none⟩) (n+1) k12)).setCell ⟨g20,0,none⟩ (.slice (some ⟨x16,0,none⟩) (n+1) k16)) x12 9 y12:=Qb.far (p:=⟨g20,0,none⟩) (nI Qb xP (by decide)) (.slice (some ⟨x16,0,none⟩) (n+1) k16);have Xk:Bx (((W2.setCell ⟨g18,0,none⟩ (.slice (some ⟨x5,0,none⟩) (n+1) k5)).setCell ⟨g19,0,none⟩ (.slice (some ⟨x12,0,none⟩) (n+1) k12)).setCell ⟨g20,0,none⟩ (.slice (some ⟨x16,0,none⟩) (n+1) k16)) x16 9 y16:=P_.far (p:=⟨g20,0,none⟩) (nI P_ xP (by decide)) (.slice (some ⟨x16,0,none⟩) (n+1) k16);have Zt:Below w1.heap.size w1 (((W2.setCell ⟨g18,0,none⟩ (.slice (some ⟨x5,0,none⟩) (n+1) k5)).setCell ⟨g19,0,none⟩ (.slice (some ⟨x12,0,none⟩) (n+1) k12)).setCell ⟨g20,0,none⟩ (.slice (some ⟨x16,0,none⟩) (n+1) k16)):=hb_1.setCell (p:=⟨g20,0,none⟩) b20 (.slice (some ⟨x16,0,none⟩) (n+1) k16);have hfin:Tl n c e w.heap.size g20 g17 g18 g19 (((W2.setCell ⟨g18,0,none⟩ (.slice (some ⟨x5,0,none⟩) (n+1) k5)).setCell ⟨g19,0,none⟩ (.slice (some ⟨x12,0,none⟩) (n+1) k12)).setCell ⟨g20,0,none⟩ (.slice (some ⟨x16,0,none⟩) (n+1) k16)):=⟨B0.call Zt,Yd,O5 Xf l5 m5_2 z5 f5,O5 Xd l12 Xl z12 f12,O5 Xb l16 Xk z16 f16⟩
   have hbF:=ah hb Zt;clear R17 YG o19 o20 m5 m12 m16 Yf Ye Yd Xh Xg Xf xQ Xe Xd Xc xP Xb YP YO m5_2 Qc Qb Xl Qa P_ Xk hb_0 hb_1 Zt hbR B0 B1 hba f5 f12 f16 z5 z12 z16;go_wp2;exact bodyPost_ret (results_tmp2 rfl _ _ _) rfl ⟨⟨_,_,_,_,_,rfl,hfin⟩,hbF⟩
theorem kZ (n k:Nat) (c e:Int) (qa qb:List UInt8) (w:World) (hn:n<=50) (hk:k<=n+1) (h0:0<=c) (h1:c<=e) (h2:e<=1000) (h3:1<=e) (lq:LQ (Tb.Pq n k c (e-c)) qa qb) (hE:Env w) :
 aT 20 #[.int .i64 n,.int .i64 k,.agg #[.int .i64 c,.int .i64 e]] w (.tuple #[.agg #[.string ⟨qa.toArray⟩,.string ⟨qb.toArray⟩],.int .i64 0]):=by
 have B0:=(Bx.mk w 39 #[.int .i64 c,.int .i64 e]).new (.cells #[.string ⟨#[]⟩,.string ⟨#[]⟩] 77);have B1:=Bx.mk (w.alloc (.cells #[.int .i64 c,.int .i64 e] 39)) 77 #[.string ⟨#[]⟩,.string ⟨#[]⟩];rw [aj]at B1;have hb:=bNew (aA w (.cells #[.int .i64 c,.int .i64 e] 39)) (.cells #[.string ⟨#[]⟩,.string ⟨#[]⟩] 77);have c0:=B0.cell 0 rfl;have c1:=B0.cell 1 rfl;have hC:=Gy n c e _ hn h0 h1 h2 h3 (hE.below hb);have hI:=fun w0=>ou k 0 ((n:Int)+1) w0
 rw[Tp.within_iff.2 ⟨by omega,by omega⟩]at hI;have hEE:=fun w1 (hb1:Below w.heap.size w w1)=>hE.below hb1
 clear hE
 go_enter Tryz.func20,Tryz.ntmps20
 go_wp2_with fail;refine hC.mono ?_;rintro _ w1 ⟨⟨gn,ga,gr,gy,go,rfl,hT⟩,hb1⟩;replace hb:=ah hb hb1;replace B1:=B1.call hb1;have hK:=Ol n k c e gn ga gr gy go qa qb w1 hT hn hk h0 h1 h2 h3 lq (hEE w1 hb);clear hC hb1 B0 c0 c1 hT hEE lq
 go_wp2_with (first|(go_at_call 70;refine (hI _).mono ?_;rintro e w2 ⟨rfl,rfl⟩;clear hI))
 refine hK.mono ?_;rintro _ w2 ⟨rfl,hb2⟩;clear hK;have c0:=(B1.call hb2).cell 0 rfl;have c1:=(B1.call hb2).cell 1 rfl;have f0:=(B1.call hb2).frozen 0;have f1:=(B1.call hb2).frozen 1;have B4:=((B1.call hb2).set 0 (.string ⟨qa.toArray⟩)).set 1 (.string ⟨qb.toArray⟩);have hb4:=aK (aK (ah hb hb2) (p:=⟨w.heap.size+1,0,none⟩) (Nat.le_succ _) (.string ⟨qa.toArray⟩)) (p:=⟨w.heap.size+1,1,none⟩) (Nat.le_succ _) (.string ⟨qb.toArray⟩);go_wp2;exact bodyPost_ret (bG rfl _ _ rfl rfl B4) rfl ⟨rfl,hb4⟩
theorem Lm (f:Nat->List UInt8) {d:Nat} (h:d<101) (W:World):(Instr.index 207 (.agg (bM f)) (.int .i64 d)).run Tryz.prog W=.ok (.string ⟨(f d).toArray⟩) W:=by
 obtain⟨i,z,hi,hz,hs,-,-⟩:=strI;have hu:Tryz.prog.underlying 9=some .string:=by kernel_rfl
 have hagg:(isAgg 9).run Tryz.prog W=.ok false W:=by
  unfold isAgg
  rw[Sem.run_bind,run_underlying hu W];rfl
 have hsz:(sizeOf 9).run Tryz.prog W=.ok 1 W:=by
  simp[sizeOf,typeInfo,hi,hs,Sem.run_bind]
 have hd:(0:Int)<=(d:Int)/\(d:Int)<((101:Nat):Int):=by omega
 have hg:=iJ f h;simp only[Instr.index,asIntOf,Sem.run_bind,Sem.run_pure,Result.andThen_ok,run_underlying uD W];rw [if_pos hd];simp only[Sem.run_bind,hsz,Result.andThen_ok,part,hagg,Int.toNat_natCast,Nat.mul_one,hg];rfl
theorem vk {W:World} {g:Nat} {t:TypeId} {old:Array Value} (f:Nat->List UInt8) (hB:Bx W g t old) (ho:old.size=101):(storeCells ⟨g,0,none⟩ (bM f).toList).run Tryz.prog W=.ok () (W.setRow g (bM f)):=by
 have h:=run_storeVar_row (P:=Tryz.prog) W g t 207 old (bM f) hB (by rw[fO];exact jG) (by rw[fO];exact ho) (xC f)
 cases hq:Tryz.prog.info? 207 with
 | none=>have:=jG;rw[hq]at this;cases this
 | some i =>
  have hs:i.size=101:=by have:=jG;rw[hq]at this;simpa using this
  have hc:(Value.agg (bM f)).cells=bM f:=rfl;have hz:(sizeOf 207).run Tryz.prog W=.ok 101 W:=by simp[sizeOf,typeInfo,hq,hs,Sem.run_bind]
  simp only[storeVar,hc,Sem.run_bind,hz,Result.andThen_ok,fO,ne_eq,not_true_eq_false,if_false]at h;exact h
structure Hl (t m d:Nat) (g1 g2 g3:Nat) (W:World):Prop where
 h1:Bx W g1 207 (bM (pt m))
 h2:Bx W g2 207 (bM (pt (t-m)))
 h3:Bx W g3 3 #[.int .i64 d]
theorem Hl.call {t m d g1 g2 g3:Nat} {W W':World} (h:Hl t m d g1 g2 g3 W) (hb:Below W.heap.size W W'):Hl t m d g1 g2 g3 W':=⟨h.h1.call hb,h.h2.call hb,h.h3.call hb⟩
theorem Me (t m d i:Nat) (g1 g2 g3:Nat) (s:List UInt8) (w:World) (hT:Hl t m d g1 g2 g3 w) (ht:t<=100) (hm:m<=t) (hd:d<=t) (hi:i<=d) (hs:Ix (Tb.vt m (t-m) d i) s) (hE:Env w) :
 aT 148 #[.int .i64 i,.pointer (some ⟨g1,0,none⟩),.pointer (some ⟨g2,0,none⟩),.pointer (some ⟨g3,0,none⟩)] w (.string ⟨s.toArray⟩):=by
 have e1:=qH m i;have e2:=qH (t-m) (d-i);have gN:=fun d' os=>(hT.h3.again d' os).cell 0 rfl
 have gR:=fun d' os=>(hT.h1.again d' os).cell i (iJ (pt m) (by omega))
 have gS:=fun d' os=>(hT.h2.again d' os).cell (d-i) (iJ (pt (t-m)) (by omega))
 have k1:=fun d' os=>wu (Sort.grow (redrawn w d') os) e1 e2 hs ⟨rfl⟩ (Tb.qp (by omega) i) (Tb.qp (by omega) (d-i)) (Tb.WS (by omega) (by omega) i) (by decide) (by decide) (by decide) (hE.below (below_regrown w d' os))
 obtain⟨j,hj⟩:∃j,d-i=j:=⟨_,rfl⟩
 have hdi:(d:Int)-(i:Int)=(j:Int):=by omega
 rw[hj]at gS k1;have hj2:j<=100:=by omega
 generalize pt m i=sp at *;generalize pt (t-m) j=sq at *;clear hT e1 e2 hs hE hj
 go_enter Tryz.func148,Tryz.ntmps148
 go_wp2;refine wp_region_quiet_below (by kernel_rfl) (by kernel_rfl) ?_
 repeat (go_big_quiet_step (first
  | (go_at_call 117;with_reducible exact Calls.regrown_of (k1 _ _))))
 refine wpQuiet_nil ?_;rintro _ ⟨z,rfl⟩;have hbz:=below_regrown w z.d z.os;clear k1 gN gR gS;generalize Sort.grow (redrawn w z.d) z.os=W2 at *;go_wp2;go_ret;exact ⟨rfl,hbz⟩
theorem Ji (t m d k:Nat) (qa qb:List UInt8) (w:World) (ht:t<=100) (hm:m<=t) (hd:d<=t) (hk:k<=d+1) (lq:LQ (Tb.Hq t m d k) qa qb) (hE:Env w) :
 aT 96 #[.int .i64 t,.int .i64 m,.int .i64 d,.int .i64 k] w (.tuple #[.agg #[.string ⟨qa.toArray⟩,.string ⟨qb.toArray⟩],.int .i64 0]):=by
 have B0:=(Bx.mk w 3 #[.int .i64 d]).new (.cells #[.string ⟨#[]⟩,.string ⟨#[]⟩] 77);have B1:=Bx.mk (w.alloc (.cells #[.int .i64 d] 3)) 77 #[.string ⟨#[]⟩,.string ⟨#[]⟩];rw [aj]at B1;have hb:=bNew (aA w (.cells #[.int .i64 d] 3)) (.cells #[.string ⟨#[]⟩,.string ⟨#[]⟩] 77);have hEA:=hE.below hb;have c0:=B0.cell 0 rfl;have hI:=fun (x y z:Int) w0=>ou x y z w0
 have i1:=fun w0=>hI t 0 100 w0
 rw[Tp.within_iff.2 ⟨by omega,by omega⟩]at i1;have i2:=fun w0=>hI m 0 t w0
 rw[Tp.within_iff.2 ⟨by omega,by omega⟩]at i2;have i3:=fun w0=>hI d 0 t w0
 rw[Tp.within_iff.2 ⟨by omega,by omega⟩]at i3;have i4:=fun w0=>hI k 0 ((d:Int)+1) w0
 rw[Tp.within_iff.2 ⟨by omega,by omega⟩]at i4;obtain ⟨Ua,htm⟩:∃x,t-m=x:=⟨_,rfl⟩
 have htm2:(t:Int)-(m:Int)=(Ua:Int):=by omega
 have P1:=fun w1 (hb1:Below w.heap.size w w1)=>mM m w1 (by omega) (hE.below hb1)
 have P2:=fun w1 (hb1:Below w.heap.size w w1)=>mM Ua w1 (by omega) (hE.below hb1)
 have P3:=fun w1 (hb1:Below w.heap.size w w1)=>mM t w1 (by omega) (hE.below hb1)
 have hix:=fun W=>Lm (pt t) (d:=d) (by omega) W
 clear hI;generalize hW0:(w.alloc (.cells #[.int .i64 d] 3)).alloc (.cells #[.string ⟨#[]⟩,.string ⟨#[]⟩] 77)=W0 at *;have Q1:=P1 W0 hb
 go_enter Tryz.func96,Tryz.ntmps96
 go_upto_region 3 with (go_at_call 70;first|(with_reducible refine (i1 _).mono ?_;rintro e w1 ⟨rfl,rfl⟩;clear i1)|(with_reducible refine (i2 _).mono ?_;rintro e w1 ⟨rfl,rfl⟩;clear i2)|(with_reducible refine (i3 _).mono ?_;rintro e w1 ⟨rfl,rfl⟩;clear i3)|(with_reducible refine (i4 _).mono ?_;rintro e w1 ⟨rfl,rfl⟩;clear i4))
 clear hW0;go_wp2_with fail;refine Q1.mono ?_;rintro _ w1 ⟨rfl,hb1⟩;clear Q1 P1;have Q2:=P2 w1 (ah hb hb1);go_wp2_with fail;refine Q2.mono ?_;rintro _ w2 ⟨rfl,hb2⟩;clear Q2 P2;have hz:=qV;replace hb:=ah (ah hb hb1) hb2;replace B0:=(B0.call hb1).call hb2;replace B1:=(B1.call hb1).call hb2;have K10:=(Bx.mk w2 207 Tryz.zeroCells207).new (.cells Tryz.zeroCells207 207);have K11:=Bx.mk (w2.alloc (.cells Tryz.zeroCells207 207)) 207 Tryz.zeroCells207;rw [aj]at K11;have Ub:=bNew (aA w2 (.cells Tryz.zeroCells207 207)) (.cells Tryz.zeroCells207 207);have A0:=(B0.new (.cells Tryz.zeroCells207 207)).new (.cells Tryz.zeroCells207 207);have A1:=(B1.new (.cells Tryz.zeroCells207 207)).new (.cells Tryz.zeroCells207 207);have l0:=B0.lt;have l1:=B1.lt;generalize hWa:(w2.alloc (.cells Tryz.zeroCells207 207)).alloc (.cells Tryz.zeroCells207 207)=Wa at *;have s1:=vk (pt m) K10 hz;have L11:Bx (Wa.setRow w2.heap.size (bM (pt m))) (w2.heap.size+1) 207 Tryz.zeroCells207:=(setRow_other _ (by omega)).trans K11;have s2:=vk (pt Ua) L11 hz;have M10:Bx ((Wa.setRow w2.heap.size (bM (pt m))).setRow (w2.heap.size+1) (bM (pt Ua))) w2.heap.size 207 (bM (pt m)):=(setRow_other _ (by omega)).trans (lW K10 _);have M11:Bx ((Wa.setRow w2.heap.size (bM (pt m))).setRow (w2.heap.size+1) (bM (pt Ua))) (w2.heap.size+1) 207 (bM (pt Ua)):=lW L11 _;have M0:Bx ((Wa.setRow w2.heap.size (bM (pt m))).setRow (w2.heap.size+1) (bM (pt Ua))) w.heap.size 3 #[.int .i64 d]:=(setRow_other _ (by omega)).trans ((setRow_other _ (by omega)).trans A0);have M1:Bx ((Wa.setRow w2.heap.size (bM (pt m))).setRow (w2.heap.size+1) (bM (pt Ua))) (w.heap.size+1) 77 #[.string ⟨#[]⟩,.string ⟨#[]⟩]:=(setRow_other _ (by omega)).trans ((setRow_other _ (by omega)).trans A1);have hbM:=(hb.trans (Ub.mono hb.size)).trans (((below_setRow Wa (bM (pt m)) (Nat.le_refl _)).trans (below_setRow _ (bM (pt Ua)) (Nat.le_succ _))).mono hb.size);clear K10 K11 L11 A0 A1 B0 B1 hz Ub hb1 hb2;go_wp2_with fail;clear s1 s2 hWa;generalize (Wa.setRow w2.heap.size (bM (pt m))).setRow (w2.heap.size+1) (bM (pt Ua))=V at *;have hEV:=hE.below hbM;have hq:Kp (Rat.divInt (Tb.sm (Tb.vt m (t-m) d) k (d+1-k)) (Tb.ch t d:Int)=Tb.Hq t m d k):=⟨rfl⟩
 have hH:Hl t m d w2.heap.size (w2.heap.size+1) w.heap.size V:=⟨M10,by rw[htm];exact M11,M0⟩
 have hR:=fun X (hX:Below V.heap.size V X)=>U7 (Tb.vt m (t-m) d) w2.heap.size (w2.heap.size+1) w.heap.size k d (Tb.ch t d) _ (pt t d) qa qb X (fun i=>(Tb.WS (by omega) (by omega) i).mono (by decide)) (by omega) hk (by have:=Tb.SI hd;omega) ((Tb.qp (by omega) d).mono (by decide)) (qH t d) (hEV.below hX) hq lq
  (fun i s Y hki hid hs hY=>Me t m d i _ _ _ s Y ((hH.call hX).call hY) ht hm hd hid hs ((hEV.below hX).below hY))
 have kr:=fun x os=>hR (Sort.grow (redrawn V x) os) (below_regrown V x os)
 have kp:=fun x os=>P3 (Sort.grow (redrawn V x) os) (ah hbM (below_regrown V x os))
 have gN:=fun x os=>(M0.again x os).cell 0 rfl
 clear hR hH hq hEV P3 lq M10 M11 M0 hE hEA hb;generalize pt t d=sp at *;refine bF 8 (by kernel_rfl) (by kernel_rfl) ?_;simp only[List.take,List.drop]
 repeat (go_big_quiet_step (first
  | (go_at_call 112;with_reducible exact Calls.regrown_of (kp _ _))
  | (go_at_call 115;with_reducible exact Calls.regrown_of (kr _ _))))
 refine wpQuiet_nil ?_;rintro _ ⟨z,rfl⟩;have hbz:=dY hbM z.d z.os;replace M1:=M1.again z.d z.os;clear kr kp gN hbM;generalize Sort.grow (redrawn V z.d) z.os=W2 at *;have c0:=M1.cell 0 rfl;have c1:=M1.cell 1 rfl;have f0:=M1.frozen 0;have f1:=M1.frozen 1;have B4:=(M1.set 0 (.string ⟨qa.toArray⟩)).set 1 (.string ⟨qb.toArray⟩);have hb4:=aK (aK hbz (p:=⟨w.heap.size+1,0,none⟩) (Nat.le_succ _) (.string ⟨qa.toArray⟩)) (p:=⟨w.heap.size+1,1,none⟩) (Nat.le_succ _) (.string ⟨qb.toArray⟩);go_wp2;exact bodyPost_ret (bG rfl _ _ rfl rfl B4) rfl ⟨rfl,hb4⟩
def Wq (z:Int):Rat:=Rat.divInt z 1
theorem Wq_is (z:Int):Wq z=(z:Rat):=by
 have h:=Rat.num_divInt_den (z:Rat)
 unfold Wq
 simpa using h
theorem TL:Wq 0=0:=by unfold Wq;exact Rat.zero_divInt 1
theorem Nw:Wq 1=1:=by unfold Wq;exact Rat.divInt_self' (by decide)
theorem tZ {z:Int} (h:I64 z):Rq.Fq (Wq z):=by
 rw[Wq_is];exact ⟨by rw[Rat.num_intCast];exact lJ h,by rw[Rat.den_intCast];exact Rx⟩
theorem jZ {x y:Rat} {xa xb ya yb:List UInt8} (w:World) (lx:LQ x xa xb) (ly:LQ y ya yb) (hx:Rq.Fq x) (hy:Rq.Fq y) (hE:Env w) {c:Int} (hc:Kp (Rq.kV x y=c)) :
 aT 103 #[.agg #[.string ⟨xa.toArray⟩,.string ⟨xb.toArray⟩],.agg #[.string ⟨ya.toArray⟩,.string ⟨yb.toArray⟩]] w (.int .i64 c):=by
 have h:=DF x y w hE hx hy;rw [lx.eq,ly.eq]at h;rw [←hc.out];exact h
theorem oP {z:Int} {za zb:List UInt8} (w:World) (hz:I64 z) (lz:LQ (Wq z) za zb) (hE:Env w) :
 aT 146 #[.int .i64 z] w (.agg #[.string ⟨za.toArray⟩,.string ⟨zb.toArray⟩]):=by
 have hb:=aA w (.cells #[.string ⟨#[]⟩,.string ⟨#[]⟩] 77);have BR:=Bx.mk w 77 #[.string ⟨#[]⟩,.string ⟨#[]⟩];have hM:=Yg z 1 _ hz ⟨by decide,by decide⟩ (by decide) (hE.below hb);rw [show QV (Rat.divInt z 1)=_ from lz.eq]at hM;clear hE lz
 go_enter Tryz.func146,Tryz.ntmps146
 go_wp2_with fail;refine hM.mono ?_;rintro _ w1 ⟨rfl,hb1⟩;clear hM;have B2:=(BR.call hb1).new (.cells #[.string ⟨za.toArray⟩,.string ⟨zb.toArray⟩] 77);have B3:=Bx.mk w1 77 #[.string ⟨za.toArray⟩,.string ⟨zb.toArray⟩];have hb2:=bNew (ah hb hb1) (.cells #[.string ⟨za.toArray⟩,.string ⟨zb.toArray⟩] 77);have c0:=B2.cell 0 rfl;have c1:=B2.cell 1 rfl;have f0:=B2.frozen 0;have f1:=B2.frozen 1;have d0:=B3.cell 0 rfl;have d1:=B3.cell 1 rfl;have B4:=(B2.set 0 (.string ⟨za.toArray⟩)).set 1 (.string ⟨zb.toArray⟩);have hb4:=aK (aK hb2 (p:=⟨w.heap.size,0,none⟩) (Nat.le_refl _) (.string ⟨za.toArray⟩)) (p:=⟨w.heap.size,1,none⟩) (Nat.le_refl _) (.string ⟨zb.toArray⟩);clear BR hb hb1;go_wp2;exact bodyPost_ret (dW rfl _ _ rfl B4) rfl ⟨rfl,hb4⟩
def Ar (q:Rat):Rat:=if 1<q then 1 else q
theorem Vs {q:Rat} {qa qb ra rb:List UInt8} (w:World) (hq:Rq.Fq q) (lq:LQ q qa qb) (lr:LQ (Ar q) ra rb) (hE:Env w) :
 aT 147 #[.agg #[.string ⟨qa.toArray⟩,.string ⟨qb.toArray⟩]] w (.agg #[.string ⟨ra.toArray⟩,.string ⟨rb.toArray⟩]):=by
 obtain⟨oa,ob,lo⟩:=LQ.ex (Wq 1);have hI:I64 1:=⟨by decide,by decide⟩
 have B0:=(Bx.mk w 77 #[.string ⟨qa.toArray⟩,.string ⟨qb.toArray⟩]).new (.cells #[.string ⟨#[]⟩,.string ⟨#[]⟩] 77);have B1:=Bx.mk (w.alloc (.cells #[.string ⟨qa.toArray⟩,.string ⟨qb.toArray⟩] 77)) 77 #[.string ⟨#[]⟩,.string ⟨#[]⟩];rw [aj]at B1;have hb:=bNew (aA w (.cells #[.string ⟨qa.toArray⟩,.string ⟨qb.toArray⟩] 77)) (.cells #[.string ⟨#[]⟩,.string ⟨#[]⟩] 77);generalize hW:(w.alloc (.cells #[.string ⟨qa.toArray⟩,.string ⟨qb.toArray⟩] 77)).alloc (.cells #[.string ⟨#[]⟩,.string ⟨#[]⟩] 77)=W0 at *;have hE0:=hE.below hb;have g0:=fun x os=>(B0.again x os).cell 0 rfl
 have g1:=fun x os=>(B0.again x os).cell 1 rfl
 have kw:=fun x os=>oP (Sort.grow (redrawn W0 x) os) hI lo (hE0.below (below_regrown W0 x os))
 obtain⟨c,hc⟩:=AZ (Rq.kV q (Wq 1));have kc:=fun x os=>jZ (Sort.grow (redrawn W0 x) os) lq lo hq (tZ hI) (hE0.below (below_regrown W0 x os)) hc
 by_cases hlt:1<q
 · have hc1:c=1:=by rw[←hc.out,Nw];exact Rq.Sj.2 hlt
   subst hc1;have e1:Kp (Ar q=Wq 1):=⟨by unfold Ar;rw[if_pos hlt,Nw]⟩
   rw[e1.out]at lr;have hwh:=fun W (hb1:Below W0.heap.size W0 W)=>oP W hI lr (hE0.below hb1)
   clear hlt hc hE hE0 lr lo lq hq
   go_enter Tryz.func147,Tryz.ntmps147
   go_wp2
   try rw[hW]
   clear hW;refine wp_region_quiet_below (by kernel_rfl) (by kernel_rfl) ?_
   repeat (go_big_quiet_step (first
    | (go_at_call 146;with_reducible exact Calls.regrown_of (kw _ _))
    | (go_at_call 103;with_reducible exact Calls.regrown_of (kc _ _))))
   refine wpQuiet_nil ?_;rintro _ ⟨z,rfl⟩;have hbz:=below_regrown W0 z.d z.os;clear kw kc g0 g1;generalize Sort.grow (redrawn W0 z.d) z.os=W2 at *;have hw2:=hwh W2 hbz;clear hwh;go_wp2_with fail;refine hw2.mono ?_;rintro _ w1 ⟨rfl,hb1⟩;clear hw2;replace B1:=(B1.call hbz).call hb1;replace hb:=ah (ah hb hbz) hb1;have c0:=B1.cell 0 rfl;have c1:=B1.cell 1 rfl;have f0:=B1.frozen 0;have f1:=B1.frozen 1;have B4:=(B1.set 0 (.string ⟨ra.toArray⟩)).set 1 (.string ⟨rb.toArray⟩);have hb4:=aK (aK hb (p:=⟨w.heap.size+1,0,none⟩) (Nat.le_succ _) (.string ⟨ra.toArray⟩)) (p:=⟨w.heap.size+1,1,none⟩) (Nat.le_succ _) (.string ⟨rb.toArray⟩);go_wp2;exact bodyPost_ret (dW rfl _ _ rfl B4) rfl ⟨rfl,hb4⟩
 · have hc1:c<=0:=by
    rw[←hc.out,Nw]
    rcases Rq.jC q 1 with ⟨e,_⟩|⟨e,_⟩|⟨e,h⟩
    · omega
    · omega
    · exact absurd h hlt
   have t0:decide (c > 0)=false:=by simp;omega
   have e1:Kp (Ar q=q):=⟨by unfold Ar;rw[if_neg hlt]⟩
   rw[e1.out]at lr;have e2:qa=ra:=lq.out.1.symm.trans lr.out.1;have e3:qb=rb:=lq.out.2.symm.trans lr.out.2;subst e2 e3;clear hlt hc hE hE0 lr lo lq hq hc1
   go_enter Tryz.func147,Tryz.ntmps147
   go_wp2
   try rw[hW]
   clear hW;refine wp_region_quiet_below (by kernel_rfl) (by kernel_rfl) ?_
   repeat (go_big_quiet_step (first
    | (go_at_call 146;with_reducible exact Calls.regrown_of (kw _ _))
    | (go_at_call 103;with_reducible exact Calls.regrown_of (kc _ _))))
   refine wpQuiet_nil ?_;rintro _ ⟨z,rfl⟩;have hbz:=below_regrown W0 z.d z.os;clear kw kc g0 g1;generalize Sort.grow (redrawn W0 z.d) z.os=W2 at *;replace B0:=B0.call hbz;replace B1:=B1.call hbz;replace hb:=ah hb hbz;have d0:=B0.cell 0 rfl;have d1:=B0.cell 1 rfl;have c0:=B1.cell 0 rfl;have c1:=B1.cell 1 rfl;have f0:=B1.frozen 0;have f1:=B1.frozen 1;have B4:=(B1.set 0 (.string ⟨qa.toArray⟩)).set 1 (.string ⟨qb.toArray⟩);have hb4:=aK (aK hb (p:=⟨w.heap.size+1,0,none⟩) (Nat.le_succ _) (.string ⟨qa.toArray⟩)) (p:=⟨w.heap.size+1,1,none⟩) (Nat.le_succ _) (.string ⟨qb.toArray⟩);go_wp2;exact bodyPost_ret (dW rfl _ _ rfl B4) rfl ⟨rfl,hb4⟩
end Go.Proofs.YtohgjenaclfegaaGreatDoor

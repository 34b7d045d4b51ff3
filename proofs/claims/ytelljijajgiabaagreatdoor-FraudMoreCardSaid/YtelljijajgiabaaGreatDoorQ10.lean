import Derived.Test.YtelljijajgiabaaGreatDoorQ09
set_option linter.unusedVariables false
set_option linter.unusedSimpArgs false
set_option maxRecDepth 100000
set_option maxHeartbeats 8000000
namespace Go.Proofs.YtelljijajgiabaaGreatDoor
open Go.RowKit Go.Shelf
theorem MS (f:Nat->List UInt8) {d:Nat} (h:d<101) (W:World):(Instr.index 180 (.agg (b_ f)) (.int .i64 d)).run Tryz.prog W=.ok (.string ⟨(f d).toArray⟩) W:=by
 obtain⟨i,z,hi,hz,hs,-,-⟩:=ZF;have hu:Tryz.prog.underlying 9=some .string:=by kernel_rfl
 have hagg:(isAgg 9).run Tryz.prog W=.ok false W:=by
  unfold isAgg
  rw[Sem.run_bind,run_underlying hu W];rfl
 have hsz:(sizeOf 9).run Tryz.prog W=.ok 1 W:=by
  simp[sizeOf,typeInfo,hi,hs,Sem.run_bind]
 have hd:(0:Int)<=(d:Int)/\(d:Int)<((101:Nat):Int):=by omega
 have hg:=jr f h;simp only[Instr.index,asIntOf,Sem.run_bind,Sem.run_pure,Result.andThen_ok,run_underlying wE W];rw [if_pos hd];simp only[Sem.run_bind,hsz,Result.andThen_ok,part,hagg,Int.toNat_natCast,Nat.mul_one,hg];rfl
theorem xM {W:World} {g:Nat} {t:TypeId} {old:Array Value} (f:Nat->List UInt8) (hB:Bx W g t old) (ho:old.size=101):(storeCells ⟨g,0,none⟩ (b_ f).toList).run Tryz.prog W=.ok () (W.setRow g (b_ f)):=by
 have h:=run_storeVar_row (P:=Tryz.prog) W g t 180 old (b_ f) hB (by rw[gK];exact l9) (by rw[gK];exact ho) (y9 f)
 cases hq:Tryz.prog.info? 180 with
 | none=>have:=l9;rw[hq]at this;cases this
 | some i =>
  have hs:i.size=101:=by have:=l9;rw[hq]at this;simpa using this
  have hc:(Value.agg (b_ f)).cells=b_ f:=rfl;have hz:(sizeOf 180).run Tryz.prog W=.ok 101 W:=by simp[sizeOf,typeInfo,hq,hs,Sem.run_bind]
  simp only[storeVar,hc,Sem.run_bind,hz,Result.andThen_ok,gK,ne_eq,not_true_eq_false,if_false]at h;exact h
structure Hl (t m d:Nat) (g1 g2 g3:Nat) (W:World):Prop where
 h1:Bx W g1 180 (b_ (pt m))
 h2:Bx W g2 180 (b_ (pt (t-m)))
 h3:Bx W g3 3 #[.int .i64 d]
theorem Hl.call {t m d g1 g2 g3:Nat} {W W':World} (h:Hl t m d g1 g2 g3 W) (hb:Below W.heap.size W W'):Hl t m d g1 g2 g3 W':=⟨h.h1.call hb,h.h2.call hb,h.h3.call hb⟩
theorem ND (t m d i:Nat) (g1 g2 g3:Nat) (s:List UInt8) (w:World) (hT:Hl t m d g1 g2 g3 w) (ht:t<=100) (hm:m<=t) (hd:d<=t) (hi:i<=d) (hs:Ix (Tb.vt m (t-m) d i) s) (hE:Env w) :
 aW 155 #[.int .i64 i,.pointer (some ⟨g1,0,none⟩),.pointer (some ⟨g2,0,none⟩),.pointer (some ⟨g3,0,none⟩)] w (.string ⟨s.toArray⟩):=by
 have e1:=tK m i;have e2:=tK (t-m) (d-i);have gN:=fun d' os=>(hT.h3.again d' os).cell 0 rfl
 have gR:=fun d' os=>(hT.h1.again d' os).cell i (jr (pt m) (by omega))
 have gS:=fun d' os=>(hT.h2.again d' os).cell (d-i) (jr (pt (t-m)) (by omega))
 have k1:=fun d' os=>yH (Sort.grow (redrawn w d') os) e1 e2 hs ⟨rfl⟩ (Tb.qZ (by omega) i) (Tb.qZ (by omega) (d-i)) (Tb.V3 (by omega) (by omega) i) (by decide) (by decide) (by decide) (hE.below (below_regrown w d' os))
 obtain⟨j,hj⟩:∃j,d-i=j:=⟨_,rfl⟩
 have hdi:(d:Int)-(i:Int)=(j:Int):=by omega
 rw[hj]at gS k1;have hj2:j<=100:=by omega
 generalize pt m i=sp at *;generalize pt (t-m) j=sq at *;clear hT e1 e2 hs hE hj
 go_enter Tryz.func155,Tryz.ntmps155
 go_wp2;refine wp_region_quiet_below (by kernel_rfl) (by kernel_rfl) ?_
 repeat (go_big_quiet_step (first
  | (go_at_call 156;with_reducible exact Calls.regrown_of (k1 _ _))))
 refine wpQuiet_nil ?_;rintro _ ⟨z,rfl⟩;have hbz:=below_regrown w z.d z.os;clear k1 gN gR gS;generalize Sort.grow (redrawn w z.d) z.os=W2 at *;go_wp2;go_ret;exact ⟨rfl,hbz⟩
theorem AA (t m d k:Nat) (qa qb:List UInt8) (w:World) (ht:t<=100) (hm:m<=t) (hd:d<=t) (hk:k<=d+1) (lq:LQ (Tb.Hq t m d k) qa qb) (hE:Env w) :
 aW 109 #[.int .i64 t,.int .i64 m,.int .i64 d,.int .i64 k] w (.tuple #[.agg #[.string ⟨qa.toArray⟩,.string ⟨qb.toArray⟩],.int .i64 0]):=by
 have B0:=(Bx.mk w 3 #[.int .i64 d]).new (.cells #[.string ⟨#[]⟩,.string ⟨#[]⟩] 51);have B1:=Bx.mk (w.alloc (.cells #[.int .i64 d] 3)) 51 #[.string ⟨#[]⟩,.string ⟨#[]⟩];rw [ah]at B1;have hb:=bNew (au w (.cells #[.int .i64 d] 3)) (.cells #[.string ⟨#[]⟩,.string ⟨#[]⟩] 51);have hEA:=hE.below hb;have c0:=B0.cell 0 rfl;have hI:=fun (x y z:Int) w0=>mV x y z w0
 have i1:=fun w0=>hI t 0 100 w0
 rw[Tp.within_iff.2 ⟨by omega,by omega⟩]at i1;have i2:=fun w0=>hI m 0 t w0
 rw[Tp.within_iff.2 ⟨by omega,by omega⟩]at i2;have i3:=fun w0=>hI d 0 t w0
 rw[Tp.within_iff.2 ⟨by omega,by omega⟩]at i3;have i4:=fun w0=>hI k 0 ((d:Int)+1) w0
 rw[Tp.within_iff.2 ⟨by omega,by omega⟩]at i4;obtain ⟨TV,htm⟩:∃x,t-m=x:=⟨_,rfl⟩
 have htm2:(t:Int)-(m:Int)=(TV:Int):=by omega
 have P1:=fun w1 (hb1:Below w.heap.size w w1)=>o9 m w1 (by omega) (hE.below hb1)
 have P2:=fun w1 (hb1:Below w.heap.size w w1)=>o9 TV w1 (by omega) (hE.below hb1)
 have P3:=fun w1 (hb1:Below w.heap.size w w1)=>o9 t w1 (by omega) (hE.below hb1)
 have hix:=fun W=>MS (pt t) (d:=d) (by omega) W
 clear hI;generalize hW0:(w.alloc (.cells #[.int .i64 d] 3)).alloc (.cells #[.string ⟨#[]⟩,.string ⟨#[]⟩] 51)=W0 at *;have Q1:=P1 W0 hb
 go_enter Tryz.func109,Tryz.ntmps109
 go_upto_region 3 with (go_at_call 152;first|(with_reducible refine (i1 _).mono ?_;rintro e w1 ⟨rfl,rfl⟩;clear i1)|(with_reducible refine (i2 _).mono ?_;rintro e w1 ⟨rfl,rfl⟩;clear i2)|(with_reducible refine (i3 _).mono ?_;rintro e w1 ⟨rfl,rfl⟩;clear i3)|(with_reducible refine (i4 _).mono ?_;rintro e w1 ⟨rfl,rfl⟩;clear i4))
 clear hW0;go_wp2_with fail;refine Q1.mono ?_;rintro _ w1 ⟨rfl,hb1⟩;clear Q1 P1;have Q2:=P2 w1 (aj hb hb1);go_wp2_with fail;refine Q2.mono ?_;rintro _ w2 ⟨rfl,hb2⟩;clear Q2 P2;have hz:=uw;replace hb:=aj (aj hb hb1) hb2;replace B0:=(B0.call hb1).call hb2;replace B1:=(B1.call hb1).call hb2;have K10:=(Bx.mk w2 180 Tryz.zeroCells180).new (.cells Tryz.zeroCells180 180);have K11:=Bx.mk (w2.alloc (.cells Tryz.zeroCells180 180)) 180 Tryz.zeroCells180;rw [ah]at K11;have TY:=bNew (au w2 (.cells Tryz.zeroCells180 180)) (.cells Tryz.zeroCells180 180);have A0:=(B0.new (.cells Tryz.zeroCells180 180)).new (.cells Tryz.zeroCells180 180);have A1:=(B1.new (.cells Tryz.zeroCells180 180)).new (.cells Tryz.zeroCells180 180);have l0:=B0.lt;have l1:=B1.lt;generalize hWa:(w2.alloc (.cells Tryz.zeroCells180 180)).alloc (.cells Tryz.zeroCells180 180)=Wa at *;have s1:=xM (pt m) K10 hz;have L11:Bx (Wa.setRow w2.heap.size (b_ (pt m))) (w2.heap.size+1) 180 Tryz.zeroCells180:=(setRow_other _ (by omega)).trans K11;have s2:=xM (pt TV) L11 hz;have M10:Bx ((Wa.setRow w2.heap.size (b_ (pt m))).setRow (w2.heap.size+1) (b_ (pt TV))) w2.heap.size 180 (b_ (pt m)):=(setRow_other _ (by omega)).trans (oJ K10 _);have M11:Bx ((Wa.setRow w2.heap.size (b_ (pt m))).setRow (w2.heap.size+1) (b_ (pt TV))) (w2.heap.size+1) 180 (b_ (pt TV)):=oJ L11 _;have M0:Bx ((Wa.setRow w2.heap.size (b_ (pt m))).setRow (w2.heap.size+1) (b_ (pt TV))) w.heap.size 3 #[.int .i64 d]:=(setRow_other _ (by omega)).trans ((setRow_other _ (by omega)).trans A0);have M1:Bx ((Wa.setRow w2.heap.size (b_ (pt m))).setRow (w2.heap.size+1) (b_ (pt TV))) (w.heap.size+1) 51 #[.string ⟨#[]⟩,.string ⟨#[]⟩]:=(setRow_other _ (by omega)).trans ((setRow_other _ (by omega)).trans A1);have hbM:=(hb.trans (TY.mono hb.size)).trans (((below_setRow Wa (b_ (pt m)) (Nat.le_refl _)).trans (below_setRow _ (b_ (pt TV)) (Nat.le_succ _))).mono hb.size);clear K10 K11 L11 A0 A1 B0 B1 hz TY hb1 hb2;go_wp2_with fail;clear s1 s2 hWa;generalize (Wa.setRow w2.heap.size (b_ (pt m))).setRow (w2.heap.size+1) (b_ (pt TV))=V at *;have hEV:=hE.below hbM;have hq:Kp (Rat.divInt (Tb.sm (Tb.vt m (t-m) d) k (d+1-k)) (Tb.ch t d:Int)=Tb.Hq t m d k):=⟨rfl⟩
 have hH:Hl t m d w2.heap.size (w2.heap.size+1) w.heap.size V:=⟨M10,by rw[htm];exact M11,M0⟩
 have hR:=fun X (hX:Below V.heap.size V X)=>UM (Tb.vt m (t-m) d) w2.heap.size (w2.heap.size+1) w.heap.size k d (Tb.ch t d) _ (pt t d) qa qb X (fun i=>(Tb.V3 (by omega) (by omega) i).mono (by decide)) (by omega) hk (by have:=Tb.Ah hd;omega) ((Tb.qZ (by omega) d).mono (by decide)) (tK t d) (hEV.below hX) hq lq
  (fun i s Y hki hid hs hY=>ND t m d i _ _ _ s Y ((hH.call hX).call hY) ht hm hd hid hs ((hEV.below hX).below hY))
 have kr:=fun x os=>hR (Sort.grow (redrawn V x) os) (below_regrown V x os)
 have kp:=fun x os=>P3 (Sort.grow (redrawn V x) os) (aj hbM (below_regrown V x os))
 have gN:=fun x os=>(M0.again x os).cell 0 rfl
 clear hR hH hq hEV P3 lq M10 M11 M0 hE hEA hb;generalize pt t d=sp at *;refine fD 8 (by kernel_rfl) (by kernel_rfl) ?_;simp only[List.take,List.drop]
 repeat (go_big_quiet_step (first
  | (go_at_call 153;with_reducible exact Calls.regrown_of (kp _ _))
  | (go_at_call 154;with_reducible exact Calls.regrown_of (kr _ _))))
 refine wpQuiet_nil ?_;rintro _ ⟨z,rfl⟩;have hbz:=gu hbM z.d z.os;replace M1:=M1.again z.d z.os;clear kr kp gN hbM;generalize Sort.grow (redrawn V z.d) z.os=W2 at *;have c0:=M1.cell 0 rfl;have c1:=M1.cell 1 rfl;have f0:=M1.frozen 0;have f1:=M1.frozen 1;have B4:=(M1.set 0 (.string ⟨qa.toArray⟩)).set 1 (.string ⟨qb.toArray⟩);have hb4:=aJ (aJ hbz (p:=⟨w.heap.size+1,0,none⟩) (Nat.le_succ _) (.string ⟨qa.toArray⟩)) (p:=⟨w.heap.size+1,1,none⟩) (Nat.le_succ _) (.string ⟨qb.toArray⟩);go_wp2;exact bodyPost_ret (aU rfl _ _ rfl rfl B4) rfl ⟨rfl,hb4⟩
theorem jV {z:Int} (h:I64 z):Ig.fits z:=by
 have h1:z.natAbs<10 ^ 20:=by have:=h.1;have:=h.2;omega
 exact Nat.lt_of_lt_of_le h1 (Nat.pow_le_pow_right (by decide) (by decide))
theorem Xk (n d:Int) (w:World) (hn:I64 n) (hf:I64 d) (hd:d≠0) (hE:Env w) :
 aW 34 #[.int .i64 n,.int .i64 d] w (.tuple #[QV (Rat.divInt n d),.int .i64 0]):=by
 have hF1:=fun w0 hE0=>rG n w0 hn.1 hn.2 hE0
 have hF2:=fun w0 hE0=>rG d w0 hf.1 hf.2 hE0
 have hM:=fun w0 hE0=>Fe n d w0 (jV hn) (jV hf) hd hE0
 unfold QV at *
 generalize Lib.itoa (Rat.divInt n d).num=sa at *;generalize Lib.itoa ((Rat.divInt n d).den:Int)=sb at *;generalize Lib.itoa n=sn at *;generalize Lib.itoa d=sd at *;have B:=Bx.mk w 51 #[.string ⟨#[]⟩,.string ⟨#[]⟩];have hb:=au w (.cells #[.string ⟨#[]⟩,.string ⟨#[]⟩] 51);clear hd
 go_enter Tryz.func34,Tryz.ntmps34
 go_wp2_with fail;refine (hF1 _ (hE.below hb)).mono ?_;rintro _ w1 ⟨rfl,hb1⟩;replace hb:=aj hb hb1;replace B:=B.call hb1;clear hF1 hb1;go_wp2_with fail;refine (hF2 _ (hE.below hb)).mono ?_;rintro _ w2 ⟨rfl,hb1⟩;replace hb:=aj hb hb1;replace B:=B.call hb1;clear hF2 hb1;go_wp2_with fail;refine (hM _ (hE.below hb)).mono ?_;rintro _ w3 ⟨rfl,hb1⟩;replace hb:=aj hb hb1;replace B:=B.call hb1;clear hM hb1;have r0:=B.cell 0 rfl;have r1:=B.cell 1 rfl;have f0:=B.frozen 0;have f1:=B.frozen 1;have B2:=(B.set 0 (.string ⟨sa.toArray⟩)).set 1 (.string ⟨sb.toArray⟩);have hb2:=aJ (aJ hb (p:=⟨w.heap.size,0,none⟩) (Nat.le_refl _) (.string ⟨sa.toArray⟩)) (p:=⟨w.heap.size,1,none⟩) (Nat.le_refl _) (.string ⟨sb.toArray⟩);go_wp2;exact bodyPost_ret (aU rfl _ _ rfl rfl B2) rfl ⟨rfl,hb2⟩
theorem m_ {x y:Int} (h:x<y):dA x y= -1:=by unfold dA;rw[if_pos h]
theorem ng {x y:Int} (h:y<x):dA x y=1:=by unfold dA;rw[if_neg (by omega),if_pos h]
theorem oI (x:Int):dA x x=0:=by unfold dA;rw[if_neg (by omega),if_neg (by omega)]
theorem N8 (x y:Int):dA y x= -dA x y:=by unfold dA;split <;> split <;> (try split) <;> (try split) <;> omega
theorem SC {x y u v:Int} (h:x-y=u-v):dA x y=dA u v:=by
 unfold dA
 have e1:x<y↔u<v:=by omega
 have e2:x > y↔u > v:=by omega
 simp only[e1,e2]
theorem yQ {n d m c:Int} (hq:n / d=m / c):dA (n*c) (m*d)=dA (n % d*c) (m % c*d):=by
 apply SC
 have h1:=Int.mul_ediv_add_emod n d;have h2:=Int.mul_ediv_add_emod m c;rw [hq]at h1;generalize m / c=q at *;generalize n % d=r at *;generalize m % c=s at *;subst h1;subst h2;rw [Int.add_mul,Int.add_mul];have:d*q*c=c*q*d:=by rw[Int.mul_assoc,Int.mul_comm d,Int.mul_comm q c]
 omega
theorem LY {n d m c:Int} (hd:0<d) (hc:0<c) (hq:n / d<m / c):n*c<m*d:=by
 have h1:=Int.lt_mul_ediv_self_add (x:=n) hd;have h2:=Int.mul_ediv_self_le (x:=m) (show c≠0 by omega)
 have h3:d*(n / d)+d<=d*(m / c):=by
  have:d*(n / d+1)<=d*(m / c):=Int.mul_le_mul_of_nonneg_left (by omega) (by omega);rw [Int.mul_add,Int.mul_one]at this;exact this
 have h4:n<d*(m / c):=by omega
 have h5:n*c<d*(m / c)*c:=Int.mul_lt_mul_of_pos_right h4 hc;have h6:c*(m / c)*d<=m*d:=Int.mul_le_mul_of_nonneg_right h2 (by omega);have h7:d*(m / c)*c=c*(m / c)*d:=by rw[Int.mul_assoc,Int.mul_comm d,Int.mul_comm (m / c) c]
 omega
theorem SX {n d m c:Int} (hd:0<d) (hc:0<c) (hq:n / d<m / c):dA (n*c) (m*d)= -1:=m_ (LY hd hc hq)
theorem SY {n d m c:Int} (hd:0<d) (hc:0<c) (hq:m / c<n / d):dA (n*c) (m*d)=1:=ng (LY hc hd hq)
theorem S_ {n d m c:Int} (hq:n / d=m / c) (hr:n % d=0) (hs:m % c=0):dA (n*c) (m*d)=0:=by
 rw[yQ hq,hr,hs,Int.zero_mul,Int.zero_mul];exact oI 0
theorem S9 {n d m c:Int} (hd:0<d) (hc:0<c) (hq:n / d=m / c) (hr:n % d=0) (hs:m % c≠0):dA (n*c) (m*d)= -1:=by
 have h:=Int.emod_nonneg m (show c≠0 by omega);have h2:0<m % c*d:=Int.mul_pos (by omega) hd;rw [yQ hq,hr,Int.zero_mul,m_ h2]
theorem SV {n d m c:Int} (hd:0<d) (hc:0<c) (hq:n / d=m / c) (hr:n % d≠0) (hs:m % c=0):dA (n*c) (m*d)=1:=by
 have h:=Int.emod_nonneg n (show d≠0 by omega);have h2:0<n % d*c:=Int.mul_pos (by omega) hc;rw [yQ hq,hs,Int.zero_mul,ng h2]
theorem ET {n d m c:Int} (hq:n / d=m / c):dA (n*c) (m*d)= -dA (d*(m % c)) (c*(n % d)):=by
 rw[yQ hq,N8,Int.mul_comm (m % c) d,Int.mul_comm (n % d) c]
theorem jZ {n d:Int} (hd:0<d) (hr:n % d≠0):0<n % d/\(n % d).toNat<d.toNat:=by
 have h1:=Int.emod_nonneg n (show d≠0 by omega);have h2:=Int.emod_lt_of_pos n hd;omega
end Go.Proofs.YtelljijajgiabaaGreatDoor
namespace Go.Proofs.YtelljijajgiabaaGreatDoor.RN
open Go.RowKit
structure Cls (K:World->World->Prop):Prop where
 refl:∀w,K w w
 trans:∀ {a b c},K a b->K b c->K a c
 drawn:∀(w:World) n,K w { w with drawn:=n }
def KN (K:World->World->Prop) (N:Nat->World->Prop) (i:Nat) (w w':World):Prop:=K w w'/\∀j,j≠i->N j w->N j w'
def DT (ops:Array Oper) (i j:Nat):Bool:=match ops[j]? with|some oj=>oj.after.any fun e=>Region.binds .any e&&e.on==i|none=>false
def Ar (K:World->World->Prop) (N:Nat->World->Prop) (P:Program) (ops:Array Oper) (n:Nat) (R:Nat->Value->World->Prop) (w0:World) (a0:Act) (Q:Exit->Act->World->Prop) (i:Nat) (o:Oper):Prop :=
 ∀(a:Act) (w:World),K w0 w->vU ops n a0 a->(∀e∈o.after,Region.binds .any e=true->R e.on (bC ops a e.on) w)->(∀j,j<n->(i==j||DT ops i j)=true->N j w) ->
  if Region.wanted o (yielded ops a.tmps)=true then o.wp P a w (fun a' w'=>∃v,a'=a.put o.dst v/\KN K N i w w'/\R i (if o.dst.isSome then v else undef) w') Q else R i undef w
section
variable {P:Program} {ops:Array Oper} {R:Nat->Value->World->Prop} {w0:World} {a0:Act} {Q:Exit->Act->World->Prop}
theorem J_ {K:World->World->Prop} {N:Nat->World->Prop} (hK:Cls K) {n g:Nat} (hok:nH ops a0.tmps.size=true) (hsc:ops.size<=n∨(Region.sinkB .any ops n=true/\Region.chainB .any ops n=true)) (hn:n<=ops.size)
 (hst:∀i v w w',R i v w->K w w'->R i v w') (hsteps:∀i o,i<n->ops[i]? = some o->Ar K N P ops n R w0 a0 Q i o)
 (hfin:∀listed a w,HeadInv .any ops n listed->(∀i,i<n->listed.getD i true=true)->K w0 w->vU ops n a0 a->(∀i,i<n->R i (bC ops a i) w)->wpAny P .any ops Q g listed a w) :
 ∀(fuel:Nat) (listed:Array Bool) (a:Act) (w:World),HeadInv .any ops n listed->((List.range n).countP (fun i=> !listed.getD i true))=fuel->K w0 w->vU ops n a0 a->(∀j,j<n->listed.getD j true=false->N j w) ->
  (∀i,i<n->listed.getD i false=true->R i (bC ops a i) w)->wpAny P .any ops Q (fuel+g) listed a w:=by
 intro fuel
 induction fuel with
 | zero =>
  intro listed a w inv hcnt hb hsame hNj hR
  have hall:∀i,i<n->listed.getD i true=true:=by
   intro i hi;have:=List.countP_eq_zero.1 hcnt i (List.mem_range.2 hi);simpa using this
  rw[Nat.zero_add];exact hfin listed a w inv hall hb hsame fun i hi=>hR i hi (by have:=hall i hi;simpa [Array.getD_eq_getD_getElem?,inv.size,show i<ops.size by omega] using this)
 | succ fuel ih =>
  intro listed a w inv hcnt hb hsame hNj hR
  have hex:∃i,i<n/\listed.getD i true=false:=by
   have h0:0<(List.range n).countP (fun i=> !listed.getD i true):=by omega
   obtain⟨i,hi,hp⟩:=List.countP_pos_iff.1 h0;exact ⟨i,List.mem_range.1 hi,by simpa using hp⟩
  rw[show fuel+1+g=(fuel+g)+1 by omega];refine ⟨fun he=>?_,fun i hi=>?_⟩
  · exfalso
    have hempty:∀i,i<n->listed.getD i true=true:=by
     intro i
     induction i using Nat.strongRecOn with
     | _ i ih =>
      intro hi
      cases hl:listed.getD i true with
      | true=>rfl
      | false =>
       have hoi:ops[i]? = some (ops[i]'(by omega)):=Array.getElem?_eq_getElem (by omega)
       have:i∈Region.ready .any ops listed:=mem_ready.2 ⟨hl,_,hoi,fun e hem hbd=>by
        have hlt:=(iR hok hoi).1 e hem hbd;have:=ih e.on hlt (by omega)
        simpa [Array.getD_eq_getD_getElem?,inv.size,show e.on<ops.size by omega] using this⟩
       rw[he]at this;cases this
    obtain⟨i,hi,hu⟩:=hex;rw [hempty i hi]at hu;cases hu
  obtain⟨hun,o,ho,zN⟩:=mem_ready.1 hi;have hin:i<ops.size:=(Array.getElem?_eq_some_iff.1 ho).1
  have hhead:i<n:=by
   obtain⟨k,hk,hu⟩:=hex
   rcases Nat.lt_or_ge i n with h|h
   · exact h
   · rcases hsc with hsc|⟨hs,hc⟩
     · omega
     · exact absurd hi (tail_waits hs hc (by omega) inv _ k rfl hk hu i h)
  obtain⟨hback,hbound,hdist⟩:=iR hok ho
  have hc':(List.range n).countP (fun j=> !(listed.setIfInBounds i true).getD j true)=fuel:=by
   have:=count_one (n:=n) (by rw[inv.size];exact hin) hun (List.range n) List.nodup_range (List.mem_range.2 hhead);omega
  have hstep:=hsteps i o hhead ho a w hb hsame (fun e he hbd=>hR e.on (by have:=hback e he hbd;omega) (zN e he hbd)) (fun j hjn hwt=>hNj j hjn (by
   rw[Bool.or_eq_true,beq_iff_eq]at hwt
   rcases hwt with hwt|hwt
   · rw[←hwt];exact hun
   unfold DT at hwt
   cases hoj:ops[j]? with
   | none=>rw[hoj]at hwt;cases hwt
   | some oj =>
    rw[hoj]at hwt;obtain ⟨e,he,hbe⟩:=Array.any_eq_true'.1 hwt;simp only[Bool.and_eq_true,beq_iff_eq]at hbe
    cases hlj:listed.getD j true with
    | false=>rfl
    | true =>
     have hjs:j<listed.size:=by rw[inv.size];exact (Array.getElem?_eq_some_iff.1 hoj).1
     have h1:listed.getD j false=true:=by simpa [Array.getD_eq_getD_getElem?,hjs] using hlj
     have h2:=inv.closed j oj hoj h1 e he hbe.1;rw [hbe.2,getD_both hun]at h2
     cases h2))
  have hput:∀v,vU ops n a0 (a.put o.dst v):=by
   intro v;obtain ⟨e1,e2,e3⟩:=hsame
   cases hd:o.dst with
   | none=>exact⟨e1,e2,e3⟩
   | some d =>
    refine⟨e1,by simpa [Act.put] using e2,fun t ht=>?_⟩;rw [jd,if_neg (fun hh=>ht i o hhead ho (by rw[hd,hh.1])),e3 t ht]
  have vC:∀v j,j≠i->bC ops (a.put o.dst v) j=bC ops a j:=by
   intro v j hj
   unfold bC
   cases hd:o.dst with
   | none=>rfl
   | some d =>
    cases hoj:ops[j]? with
    | none=>rfl
    | some oj =>
     cases hdj:oj.dst with
     | none=>simp[hdj]
     | some dj =>
      simp only[Option.bind_some,hdj];rw [jd,if_neg (fun hh=>hdist j oj dj d hj hoj hdj hd hh.1)]
  have hself:∀v,bC ops (a.put o.dst v) i=if o.dst.isSome then v else undef:=by
   intro v
   unfold bC
   rw[ho]
   cases hd:o.dst with
   | none=>simp[hd]
   | some d =>
    simp only[Option.bind_some,hd,Option.isSome_some,if_true];rw [jd,if_pos ⟨rfl,by rw[hsame.2.1];exact hbound d hd⟩]
  have hnext:∀v w',KN K N i w w'->R i (if o.dst.isSome then v else undef) w'->wpAny P .any ops Q (fuel+g) (listed.setIfInBounds i true) (a.put o.dst v) w':=by
   intro v w' hbw hr
   refine ih _ _ _ (inv.set hi hhead) hc' (hK.trans hb hbw.1) (hput v) (fun j hjn hj=>by
    by_cases hji:j=i
    · subst hji;exact absurd hj (by simp[Array.getD_eq_getD_getElem?,inv.size,hin])
    · exact hbw.2 j hji (hNj j hjn (by rw[←getD_set_ne true (fun h=>hji h.symm)];exact hj))) fun j hjn hj=>?_
   by_cases hji:j=i
   · subst hji;rw[hself];exact hr
   · rw[vC v j hji];exact hst _ _ _ _ (hR j hjn (by rw[←getD_set_ne false (fun h=>hji h.symm)];exact hj)) hbw.1
  unfold wpOp
  simp only[ho];by_cases hw:Region.wanted o (yielded ops a.tmps)=true
  · rw[if_pos hw]at hstep ⊢;refine .inl ?_;exact Oper.wp_mono (fun a' w' hh=>by obtain⟨v,e,hb',hr⟩:=hh;subst e;exact hnext v w' hb' hr) hstep
  · rw[if_neg hw]at hstep ⊢;refine hnext undef w ⟨hK.refl _,fun _ _ h=>h⟩ ?_
    split <;> exact hstep
def xH (R:Nat->Value->World->Prop) (vs:Nat->Value) (w:World):List Edge->Prop
 | []=>True
 | e :: l=>(Region.binds .any e=true->R e.on (vs e.on) w)/\xH R vs w l
theorem wu {R:Nat->Value->World->Prop} {vs:Nat->Value} {w:World}:∀(l:List Edge),(∀e∈l,Region.binds .any e=true->R e.on (vs e.on) w)->xH R vs w l
 | [],_=>trivial
 | e :: l,h=>⟨h e (by simp),wu l fun e he=>h e (by simp[he])⟩
def pY (K:World->World->Prop) (N:Nat->World->Prop) (P:Program) (ops:Array Oper) (n:Nat) (R:Nat->Value->World->Prop) (w0:World) (a0:Act) (i:Nat) (o:Oper):Prop :=
 ∀(vs:Nat->Value) (w:World),K w0 w->xH R vs w o.after.toList->(∀j,j<n->(i==j||DT ops i j)=true->N j w) ->
  wpList P ops (fun e a' w'=>e=.normal/\a'.defers=a0.defers/\KN K N i w w'/\R i (qV o a') w') [o] (seen ops vs i a0) w
def dw (K:World->World->Prop) (N:Nat->World->Prop) (P:Program) (ops:Array Oper) (n:Nat) (R:Nat->Value->World->Prop) (w0:World) (a0:Act):Nat->List Oper->Prop
 | _,[]=>True
 | k,o :: l=>pY K N P ops n R w0 a0 k o/\dw K N P ops n R w0 a0 (k+1) l
theorem dw.get {K:World->World->Prop} {N:Nat->World->Prop} {n:Nat} {P:Program} {ops:Array Oper} {R:Nat->Value->World->Prop} {w0:World} {a0:Act}:∀(l:List Oper) (k j:Nat) (o:Oper),dw K N P ops n R w0 a0 k l->l[j]? = some o->pY K N P ops n R w0 a0 (k+j) o
 | [],_,_,_,_,h=>by simp at h
 | x :: l,k,0,o,hh,h=>by
  obtain rfl:x=o:=by simpa using h
  exact hh.1
 | x :: l,k,j+1,o,hh,h=>by
  have:=dw.get l (k+1) j o hh.2 (by simpa using h)
  rwa [show k+1+j=k+(j+1) by omega]at this
theorem kS {K:World->World->Prop} {a0:Act} {R:Value->World->Prop} {w:World} {o:Oper} (h:LetsOut (fun e a' w'=>e=.normal/\a'.defers=a0.defers/\K w w'/\R (qV o a') w')):False:=by
 obtain⟨_,_,h,_⟩:=h;cases h
theorem DZ {K:World->World->Prop} {N:Nat->World->Prop} {n i:Nat} {o:Oper} (hok:nH ops a0.tmps.size=true) (hlk:iD ops n=true) (hi:i<n) (hin:n<=ops.size) (ho:ops[i]? = some o) (h:pY K N P ops n R w0 a0 i o):Ar K N P ops n R w0 a0 Q i o:=by
 intro a w hb hsame zN hN;have h1:=List.all_eq_true.1 hlk i (List.mem_range.2 hi);simp only[ho,Bool.and_eq_true]at h1;obtain ⟨⟨hg,hsel⟩,hl⟩:=h1;have hg':o.guard=none:=by simpa using hg
 have hw:∀y,Region.wanted o y=true:=fun y=>by simp[Region.wanted,hg']
 rw[if_pos (hw _)];have hu:=h (bC ops a) w hb (wu _ fun e he hbd=>zN e (by simpa using he) hbd) hN;simp only[wpList,hw,if_true]at hu
 have QU:execOp a.eval o=execOp (seen ops (bC ops a) i a0).eval o:=by
  refine execOp_congr o (fun cs b e=>by rw[e]at hsel;simp at hsel) fun x hx=>?_
  cases x with
  | tmp t =>
   have ht:t∈o.looksAt ops:=List.mem_append_left _ (List.mem_filterMap.2 ⟨.tmp t,by simpa using hx,rfl⟩);have h2:=List.all_eq_true.1 hl t ht;refine (CJ (Nat.le_of_lt hi) hok hsame fun j oj hj hd=>?_).symm;have h3:=List.all_eq_true.1 h2 j (List.mem_range.2 (Array.getElem?_eq_some_iff.1 hj).1);simpa [hj,hd] using h3
  | _=>rfl
 have hsz:=kR (bC ops a) (ops.toList.take i) 0 a0
 have hput:∀v,qV o ((seen ops (bC ops a) i a0).put o.dst v)=if o.dst.isSome then v else undef:=by
  intro v
  unfold qV
  cases hd:o.dst with
  | none=>rfl
  | some d =>
   simp only[Option.isSome_some,if_true];rw [jd,if_pos ⟨rfl,by rw[seen,hsz.1];exact (iR hok ho).2.1 d hd⟩]
 rcases hu with hu|hu
 · unfold Oper.wp at hu ⊢
   rw[QU];generalize (execOp (seen ops (bC ops a) i a0).eval o).run P w=r at hu
   cases r with
   | halt x w'=>cases x <;> simp only[Oper.upon]at hu ⊢ <;> first|exact absurd hu.1 (by simp)|exact hu
   | ok nx w' =>
    cases nx <;> simp only[Oper.upon]at hu ⊢
    case value v=>exact⟨v,rfl,hu.2.2.1,by rw[←hput];exact hu.2.2.2⟩
    case skip=>exact⟨undef,rfl,hu.2.2.1,by rw[←hput];exact hu.2.2.2⟩
    case defer d =>
     exfalso
     have:=hu.2.1;have h9:=congrArg List.length this;cases hd:o.dst <;> simp[hd,Act.put,seen,hsz.2]at h9
    case enter f args =>
     refine Calls.mono hu fun e w'' he=>?_
     cases e with
     | returned v=>exact⟨v,rfl,he.2.2.1,by rw[←hput];exact he.2.2.2⟩
     | panicked c=>exact absurd he.1 (by simp)
     | outgrown=>exact (kS (R:=R i) he).elim
    case row s args=>exact Rows.mono hu fun v w'' he=>⟨v,rfl,he.2.2.1,by rw[←hput];exact he.2.2.2⟩
    all_goals exact hu.elim
 · exact (kS (R:=R i) hu.2).elim
theorem eu {K:World->World->Prop} {N:Nat->World->Prop} (hK:Cls K) {l:List Oper} {Q:Exit->Act->World->Prop} {a0:Act} {w0:World} (n:Nat) (R:Nat->Value->World->Prop)
 (hB:(nH l.toArray a0.tmps.size&&iD l.toArray n&&(decide (l.length<=n)||(Region.sinkB .any l.toArray n&&Region.chainB .any l.toArray n))&&decide (n<=l.length)&&Region.seqB .any l.toArray (l.length-n) n ((List.range l.length).map fun i=>decide (i<n)).toArray)=true)
 (hst:∀i v w w',R i v w->K w w'->R i v w') (hN0:∀j,N j { w0 with drawn:=w0.drawn+1 }) (hsteps:dw K N P l.toArray n R w0 a0 0 (l.take n))
 (hfin:∀vs w',K w0 w'->(∀i,i<n->R i (vs i) w')->wpList P l.toArray Q (l.drop n) (dR vs 0 (l.take n) a0) w'):wpAny P .any l.toArray Q l.toArray.size (Array.replicate l.toArray.size false) a0 { w0 with drawn:=w0.drawn+1 }:=by
 simp only[Bool.and_eq_true,decide_eq_true_eq]at hB;obtain ⟨⟨⟨⟨hok,hlk⟩,hsc⟩,hn⟩,hseq⟩:=hB
 have X9:l.toArray.size<=n∨(Region.sinkB .any l.toArray n=true/\Region.chainB .any l.toArray n=true):=by
  rw[Bool.or_eq_true,Bool.and_eq_true,decide_eq_true_eq]at hsc;simpa using hsc
 have hn':n<=l.toArray.size:=by simpa using hn
 have hb0:K w0 { w0 with drawn:=w0.drawn+1 }:=hK.drawn w0 _
 have inv0:HeadInv .any l.toArray n (Array.replicate l.toArray.size false) :=
  ⟨by simp,fun j oj _ hl=>(by rw[getD_replicate_false]at hl;cases hl),fun t _ ht=>getD_in (by simpa using ht) (getD_replicate_false _ _)⟩
 have H:=J_ hK (P:=P) (ops:=l.toArray) (R:=R) (w0:=w0) (a0:=a0) (Q:=Q) (n:=n) (g:=l.length-n) hok X9 hn' hst (fun i o hi ho=>DZ hok hlk hi hn' ho (by
  have:=dw.get (l.take n) 0 i o hsteps (by rw[List.getElem?_take,if_pos hi];simpa using ho)
  rwa [Nat.zero_add]at this)) (fun listed a w inv hall hb hsame hR=>by
  have Yk:listed=((List.range l.length).map fun i=>decide (i<n)).toArray:=by
   apply Array.ext
   · simp[inv.size]
   · intro i h1 h2;have hi:i<l.length:=by simpa using h2
     simp only[List.getElem_toArray,List.getElem_map,List.getElem_range]
     rcases Nat.lt_or_ge i n with h|h
     · have:=hall i h;simp [Array.getD_eq_getD_getElem?,h1]at this
       simp[h,this]
     · have:=inv.tail i h (by simpa using hi);simp [Array.getD_eq_getD_getElem?,h1]at this
       simp[this];omega
  have hfr:a=dR (bC l.toArray a) 0 (l.take n) a0:=by
   have hsz:=kR (bC l.toArray a) (l.take n) 0 a0
   have key:a.tmps=(dR (bC l.toArray a) 0 (l.take n) a0).tmps:=by
    apply Array.ext
    · rw[hsz.1,hsame.2.1]
    · intro t h1 h2;have e1:a.tmps[t]=a.tmps.getD t undef:=by simp[Array.getD_eq_getD_getElem?,h1]
      have e2:(dR (bC l.toArray a) 0 (l.take n) a0).tmps[t]=(dR (bC l.toArray a) 0 (l.take n) a0).tmps.getD t undef:=by simp[Array.getD_eq_getD_getElem?,h2]
      rw[e1,e2];by_cases hw:∃(j:Nat) (oj:Oper),j<n/\l.toArray[j]? = some oj/\oj.dst=some t
      · obtain⟨j,oj,hjn,hj,hd⟩:=hw;have hsp:=iR hok hj;rw [rU (bC l.toArray a) t (l.take n) 0 j oj a0 (by rw[List.getElem?_take,if_pos hjn];simpa using hj) hd (fun k o' hjk hk hd'=>hsp.2.2 k o' t t (by omega) (by simpa using (fC hk).2) hd' hd rfl) (hsp.2.1 t hd)];have hj':l[j]? = some oj:=by simpa using hj
        simp[bC,hj',hd]
      · have hno:∀(j:Nat) (oj:Oper),j<n->l.toArray[j]? = some oj->oj.dst≠some t:=fun j oj hjn hj hd=>hw ⟨j,oj,hjn,hj,hd⟩
        rw[hsame.2.2 t hno];refine (oh _ _ _ _ _ fun o ho=>?_).symm;obtain ⟨j,hj⟩:=List.mem_iff_getElem?.1 ho;exact hno j o (fC hj).1 (by simpa using (fC hj).2)
   have kd:a.defers=(dR (bC l.toArray a) 0 (l.take n) a0).defers:=by rw[hsz.2,hsame.1]
   exact L8 key kd
  have h2:=hfin (bC l.toArray a) w hb hR;rw [←hfr]at h2;have h3:=wpAny_of_seq (P:=P) (ops:=l.toArray) (md:=.any) (Q':=Q) (l.drop n) n listed a w (fun j=>by simp[List.getElem?_drop]) (by rw[Yk];simpa using hseq) h2
  simpa using h3) n (Array.replicate l.toArray.size false) a0 { w0 with drawn:=w0.drawn+1 } inv0 (by
   have:(List.range n).countP (fun i=> !(Array.replicate l.toArray.size false).getD i true)=(List.range n).length:=List.countP_eq_length.2 fun i hi=>by
    have:=List.mem_range.1 hi;simp [Array.getD_eq_getD_getElem?,show i<l.length by omega]
   simpa using this) hb0 ⟨rfl,rfl,fun _ _=>rfl⟩ (fun j _ _=>hN0 j) (fun i _ h=>by rw[getD_replicate_false]at h;cases h)
 rw[show n+(l.length-n)=l.toArray.size by simp;omega]at H;exact H
end
def eP (K:World->World->Prop) (p:Value->World->Prop):Prop:=∀v w w',p v w->K w w'->p v w'
def ak (u:Value):Value->World->Prop:=fun v _=>v=u
def jJ:Value->World->Prop:=fun _ _=>True
theorem aF {K:World->World->Prop} (u:Value):eP K (ak u):=fun _ _ _ h _=>h
theorem jo {K:World->World->Prop}:eP K jJ:=fun _ _ _ _ _=>trivial
def rel (ps:List (Value->World->Prop)) (i:Nat) (v:Value) (w:World):Prop:=(ps.getD i jJ) v w
def bV (K:World->World->Prop):List (Value->World->Prop)->Prop
 | []=>True
 | p :: l=>eP K p/\bV K l
def cZ (vs:Nat->Value) (w:World):Nat->List (Value->World->Prop)->Prop
 | _,[]=>True
 | k,p :: l=>p (vs k) w/\cZ vs w (k+1) l
theorem bV.get {K:World->World->Prop}:∀(ps:List (Value->World->Prop)) (i:Nat),bV K ps->eP K (ps.getD i jJ)
 | [],i,_=>by simpa using jo
 | p :: l,0,h=>by simpa using h.1
 | p :: l,i+1,h=>by simpa using bV.get l i h.2
theorem ig {vs:Nat->Value} {w:World}:∀(ps:List (Value->World->Prop)) (k:Nat),(∀i,i<ps.length->(ps.getD i jJ) (vs (k+i)) w)->cZ vs w k ps
 | [],_,_=>trivial
 | p :: l,k,h=>⟨by simpa using h 0 (by simp),ig l (k+1) fun i hi=>by
  have:=h (i+1) (by simp;omega)
  rw[show k+1+i=k+(i+1) by omega];simpa using this⟩
def aQ (vs:Nat->Value):Nat->List (Option Tmp)->Act->Act
 | _,[],a=>a
 | k,d :: rest,a=>aQ vs (k+1) rest (a.put d (vs k))
theorem dK (vs:Nat->Value):∀(l:List Oper) (k:Nat) (a:Act),dR vs k l a=aQ vs k (l.map (·.dst)) a
 | [],_,_=>rfl
 | o :: l,k,a=>dK vs l (k+1) _
def Users (K:World->World->Prop) (N:Nat->World->Prop) (P:Program) (L:Array Oper) (n:Nat) (ps:List (Value->World->Prop)) (w0:World) (a0:Act):Nat->List (Option Tmp)->List Oper->List (Value->World->Prop)->Prop
 | k,pre,o :: l,q :: qs=>(∀(vs:Nat->Value) (w:World),K w0 w->(∀j,zZ o j=true->rel ps j (vs j) w)->(∀j,j<n->(k==j||DT L k j)=true->N j w) ->
  wpList P #[] (fun e a' w'=>e=.normal/\a'.defers=a0.defers/\KN K N k w w'/\q (qV o a') w') [o] (aQ vs 0 pre a0) w)/\Users K N P L n ps w0 a0 (k+1) (pre++[o.dst]) l qs
 | _,_,_,_=>True
theorem iH {R:Nat->Value->World->Prop} {vs:Nat->Value} {w:World}:∀(l:List Edge),xH R vs w l->∀e∈l,Region.binds .any e=true->R e.on (vs e.on) w
 | [],_,e,he,_=>by cases he
 | x :: l,h,e,he,hb=>by
  rcases List.mem_cons.1 he with rfl|he
  · exact h.1 hb
  · exact iH l h.2 e he hb
theorem Users.rg {K:World->World->Prop} {N:Nat->World->Prop} {P:Program} {ps:List (Value->World->Prop)} {w0:World} {a0:Act} {L:List Oper} {n:Nat} (hlk:iD L.toArray n=true) (hnp:n<=ps.length):∀(l:List Oper) (k:Nat),(∀j,l[j]? = (L.take n)[k+j]?)->Users K N P L.toArray n ps w0 a0 k ((L.take k).map (·.dst)) l (ps.drop k)->dw K N P L.toArray n (rel ps) w0 a0 k l
 | [],_,_,_=>trivial
 | o :: l,k,hl,h=>by
  have h0:(L.take n)[k]? = some o:=by simpa using (hl 0).symm
  obtain⟨hkn,hLo⟩:=fC h0;have hkp:k<ps.length:=by omega
  rw[List.drop_eq_getElem_cons hkp]at h;refine ⟨fun vs w hb hE hNw=>?_,Users.rg hlk hnp l (k+1) (fun j=>by have:=hl (j+1);simpa [Nat.add_assoc,Nat.add_comm 1 j] using this) ?_⟩
  · have h1:=List.all_eq_true.1 hlk k (List.mem_range.2 hkn);have Rt:L.toArray[k]? = some o:=by simpa using hLo
    simp only[Rt,Bool.and_eq_true]at h1
    have hu:=h.1 vs w hb (fun j hj=>by
     obtain⟨e,he,t_⟩:=List.any_eq_true.1 hj;simp only[Bool.and_eq_true,beq_iff_eq]at t_;have:=iH _ hE e he t_.1
     rwa [t_.2]at this) hNw
    have hfr:seen L.toArray vs k a0=aQ vs 0 ((L.take k).map (·.dst)) a0:=dK vs _ 0 a0;rw [hfr];refine sW (ops:=#[]) (by simpa using h1.1.1) ?_;have hq:ps[k]=ps.getD k jJ:=by simp[List.getD_eq_getElem?_getD,hkp]
    rw[hq]at hu;exact hu
  · have h2:=h.2
    have e1:(L.take k).map (·.dst)++[o.dst]=(L.take (k+1)).map (·.dst):=by
     rw[List.take_add_one,hLo];simp
    rw[e1]at h2;exact h2
theorem dJ {K:World->World->Prop} {N:Nat->World->Prop} (hK:Cls K) {P:Program} {l:List Oper} {Q:Exit->Act->World->Prop} {a0:Act} {w0:World} (ps:List (Value->World->Prop)) (n sz:Nat) (hnp:ps.length=n) (hsz:a0.tmps.size=sz)
 (hB:(nH l.toArray sz&&iD l.toArray n&&(decide (l.length<=n)||(Region.sinkB .any l.toArray n&&Region.chainB .any l.toArray n))&&decide (n<=l.length)&&Region.seqB .any l.toArray (l.length-n) n ((List.range l.length).map fun i=>decide (i<n)).toArray)=true)
 (hst:bV K ps) (hN0:∀j,N j { w0 with drawn:=w0.drawn+1 }) (hsteps:Users K N P l.toArray n ps w0 a0 0 [] (l.take n) ps)
 (hfin:∀vs w',K w0 w'->cZ vs w' 0 ps->wpList P l.toArray Q (l.drop n) (aQ vs 0 ((l.take n).map (·.dst)) a0) w'):wpAny P .any l.toArray Q l.toArray.size (Array.replicate l.toArray.size false) a0 { w0 with drawn:=w0.drawn+1 }:=by
 subst hnp hsz;have hlk:iD l.toArray ps.length=true:=by simp only[Bool.and_eq_true]at hB;exact hB.1.1.1.2
 refine eu hK ps.length (rel ps) hB (fun i v w w' h hb=>bV.get ps i hst v w w' h hb) hN0 (Users.rg hlk (Nat.le_refl _) (l.take ps.length) 0 (fun j=>by simp) hsteps) fun vs w' hb hR=>by rw[dK];exact hfin vs w' hb (ig ps 0 fun i hi=>by rw[Nat.zero_add];exact hR i hi)
theorem aA {K:World->World->Prop} {N:Nat->World->Prop} (hK:Cls K) {P:Program} {id:Nat} {l:List Oper} {Q:Exit->Act->World->Prop} {a0:Act} {w0:World} (ps:List (Value->World->Prop)) (n sz:Nat) (hm:P.follows .mixedOrders=true) (hnp:ps.length=n) (hsz:a0.tmps.size=sz)
 (hB:(nH l.toArray sz&&iD l.toArray n&&(decide (l.length<=n)||(Region.sinkB .any l.toArray n&&Region.chainB .any l.toArray n))&&decide (n<=l.length)&&Region.seqB .any l.toArray (l.length-n) n ((List.range l.length).map fun i=>decide (i<n)).toArray)=true)
 (hst:bV K ps) (hN0:∀j,N j { w0 with drawn:=w0.drawn+1 }) (hsteps:Users K N P l.toArray n ps w0 a0 0 [] (l.take n) ps)
 (hfin:∀vs w',K w0 w'->cZ vs w' 0 ps->wpList P l.toArray Q (l.drop n) (aQ vs 0 ((l.take n).map (·.dst)) a0) w'):(Code.region id l.toArray true).wp P Q a0 w0 :=
 wp_region_any hm (dJ hK ps n sz hnp hsz hB hst hN0 hsteps hfin)
end Go.Proofs.YtelljijajgiabaaGreatDoor.RN

import Derived.Test.YtelljijajgiabaaGreatDoorQ09
set_option linter.unusedVariables false
set_option linter.unusedSimpArgs false
set_option maxRecDepth 100000
set_option maxHeartbeats 8000000
namespace Go.Proofs.YtelljijajgiabaaGreatDoor
open Go.RowKit Go.Shelf
theorem row_index (f:Nat->List UInt8) {d:Nat} (h:d<101) (W:World):(Instr.index 180 (.agg (rowC f)) (.int .i64 d)).run Tryz.prog W=.ok (.string ⟨(f d).toArray⟩) W:=by
 obtain⟨i,z,hi,hz,hs,-,-⟩:=strI;have hu:Tryz.prog.underlying 9=some .string:=by kernel_rfl
 have hagg:(isAgg 9).run Tryz.prog W=.ok false W:=by
  unfold isAgg
  rw[Sem.run_bind,run_underlying hu W];rfl
 have hsz:(sizeOf 9).run Tryz.prog W=.ok 1 W:=by
  simp[sizeOf,typeInfo,hi,hs,Sem.run_bind]
 have hd:(0:Int)<=(d:Int)/\(d:Int)<((101:Nat):Int):=by omega
 have hg:=rowC_get f h;simp only[Instr.index,asIntOf,Sem.run_bind,Sem.run_pure,Result.andThen_ok,run_underlying tri_under W];rw [if_pos hd];simp only[Sem.run_bind,hsz,Result.andThen_ok,part,hagg,Int.toNat_natCast,Nat.mul_one,hg];rfl
theorem row_stcells {W:World} {g:Nat} {t:TypeId} {old:Array Value} (f:Nat->List UInt8) (hB:Bx W g t old) (ho:old.size=101):(storeCells ⟨g,0,none⟩ (rowC f).toList).run Tryz.prog W=.ok () (W.setRow g (rowC f)):=by
 have h:=run_storeVar_row (P:=Tryz.prog) W g t 180 old (rowC f) hB (by rw[rowC_size];exact tri_size) (by rw[rowC_size];exact ho) (rowC_one f)
 cases hq:Tryz.prog.info? 180 with
 | none=>have:=tri_size;rw[hq]at this;cases this
 | some i =>
  have hs:i.size=101:=by have:=tri_size;rw[hq]at this;simpa using this
  have hc:(Value.agg (rowC f)).cells=rowC f:=rfl;have hz:(sizeOf 180).run Tryz.prog W=.ok 101 W:=by simp[sizeOf,typeInfo,hq,hs,Sem.run_bind]
  simp only[storeVar,hc,Sem.run_bind,hz,Result.andThen_ok,rowC_size,ne_eq,not_true_eq_false,if_false]at h;exact h
structure Hl (t m d:Nat) (g1 g2 g3:Nat) (W:World):Prop where
 h1:Bx W g1 180 (rowC (pt m))
 h2:Bx W g2 180 (rowC (pt (t-m)))
 h3:Bx W g3 3 #[.int .i64 d]
theorem Hl.call {t m d g1 g2 g3:Nat} {W W':World} (h:Hl t m d g1 g2 g3 W) (hb:Below W.heap.size W W'):Hl t m d g1 g2 g3 W':=⟨h.h1.call hb,h.h2.call hb,h.h3.call hb⟩
theorem hterm_any (t m d i:Nat) (g1 g2 g3:Nat) (s:List UInt8) (w:World) (hT:Hl t m d g1 g2 g3 w) (ht:t<=100) (hm:m<=t) (hd:d<=t) (hi:i<=d) (hs:Ix (Tb.vt m (t-m) d i) s) (hE:Env w) :
 Calls Tryz.prog 155 #[.int .i64 i,.pointer (some ⟨g1,0,none⟩),.pointer (some ⟨g2,0,none⟩),.pointer (some ⟨g3,0,none⟩)] w fun e' w'=>e'=.returned (.string ⟨s.toArray⟩)/\Below w.heap.size w w':=by
 have e1:=pt_sum m i;have e2:=pt_sum (t-m) (d-i);have gN:=fun d' os=>(hT.h3.again d' os).cell 0 rfl
 have gR:=fun d' os=>(hT.h1.again d' os).cell i (rowC_get (pt m) (by omega))
 have gS:=fun d' os=>(hT.h2.again d' os).cell (d-i) (rowC_get (pt (t-m)) (by omega))
 have k1:=fun d' os=>times_s (Sort.grow (redrawn w d') os) e1 e2 hs ⟨rfl⟩ (Tb.ch_sz (by omega) i) (Tb.ch_sz (by omega) (d-i)) (Tb.vt_sz (by omega) (by omega) i) (by decide) (by decide) (by decide) (hE.below (below_regrown w d' os))
 obtain⟨j,hj⟩:∃j,d-i=j:=⟨_,rfl⟩
 have hdi:(d:Int)-(i:Int)=(j:Int):=by omega
 rw[hj]at gS k1;have hj2:j<=100:=by omega
 generalize pt m i=sp at *;generalize pt (t-m) j=sq at *;clear hT e1 e2 hs hE hj
 go_enter Tryz.func155,Tryz.ntmps155
 go_wp2;refine wp_region_quiet_below (by kernel_rfl) (by kernel_rfl) ?_
 repeat (go_big_quiet_step (first
  | (go_at_call 156;with_reducible exact Calls.regrown_of (k1 _ _))))
 refine wpQuiet_nil ?_;rintro _ ⟨z,rfl⟩;have hbz:=below_regrown w z.d z.os;clear k1 gN gR gS;generalize Sort.grow (redrawn w z.d) z.os=W2 at *;go_wp2;go_ret;exact ⟨rfl,hbz⟩
theorem Hyper_good (t m d k:Nat) (qa qb:List UInt8) (w:World) (ht:t<=100) (hm:m<=t) (hd:d<=t) (hk:k<=d+1) (lq:LQ (Tb.Hq t m d k) qa qb) (hE:Env w) :
 Calls Tryz.prog 109 #[.int .i64 t,.int .i64 m,.int .i64 d,.int .i64 k] w fun e' w'=>e'=.returned (.tuple #[.agg #[.string ⟨qa.toArray⟩,.string ⟨qb.toArray⟩],.int .i64 0])/\Below w.heap.size w w':=by
 have B0:=(Bx.mk w 3 #[.int .i64 d]).new (.cells #[.string ⟨#[]⟩,.string ⟨#[]⟩] 51);have B1:=Bx.mk (w.alloc (.cells #[.int .i64 d] 3)) 51 #[.string ⟨#[]⟩,.string ⟨#[]⟩];rw [alloc_size]at B1;have hb:=bNew (bNewW w (.cells #[.int .i64 d] 3)) (.cells #[.string ⟨#[]⟩,.string ⟨#[]⟩] 51);have hEA:=hE.below hb;have c0:=B0.cell 0 rfl;have hI:=fun (x y z:Int) w0=>isIn_any x y z w0
 have i1:=fun w0=>hI t 0 100 w0
 rw[Tp.within_iff.2 ⟨by omega,by omega⟩]at i1;have i2:=fun w0=>hI m 0 t w0
 rw[Tp.within_iff.2 ⟨by omega,by omega⟩]at i2;have i3:=fun w0=>hI d 0 t w0
 rw[Tp.within_iff.2 ⟨by omega,by omega⟩]at i3;have i4:=fun w0=>hI k 0 ((d:Int)+1) w0
 rw[Tp.within_iff.2 ⟨by omega,by omega⟩]at i4;obtain ⟨tm_,htm⟩:∃x,t-m=x:=⟨_,rfl⟩
 have htm2:(t:Int)-(m:Int)=(tm_:Int):=by omega
 have P1:=fun w1 (hb1:Below w.heap.size w w1)=>pascal_any m w1 (by omega) (hE.below hb1)
 have P2:=fun w1 (hb1:Below w.heap.size w w1)=>pascal_any tm_ w1 (by omega) (hE.below hb1)
 have P3:=fun w1 (hb1:Below w.heap.size w w1)=>pascal_any t w1 (by omega) (hE.below hb1)
 have hix:=fun W=>row_index (pt t) (d:=d) (by omega) W
 clear hI;generalize hW0:(w.alloc (.cells #[.int .i64 d] 3)).alloc (.cells #[.string ⟨#[]⟩,.string ⟨#[]⟩] 51)=W0 at *;have Q1:=P1 W0 hb
 go_enter Tryz.func109,Tryz.ntmps109
 go_upto_region 3 with (go_at_call 152;first|(with_reducible refine (i1 _).mono ?_;rintro e w1 ⟨rfl,rfl⟩;clear i1)|(with_reducible refine (i2 _).mono ?_;rintro e w1 ⟨rfl,rfl⟩;clear i2)|(with_reducible refine (i3 _).mono ?_;rintro e w1 ⟨rfl,rfl⟩;clear i3)|(with_reducible refine (i4 _).mono ?_;rintro e w1 ⟨rfl,rfl⟩;clear i4))
 clear hW0;go_wp2_with fail;refine Q1.mono ?_;rintro _ w1 ⟨rfl,hb1⟩;clear Q1 P1;have Q2:=P2 w1 (bCall hb hb1);go_wp2_with fail;refine Q2.mono ?_;rintro _ w2 ⟨rfl,hb2⟩;clear Q2 P2;have hz:=zc_size;replace hb:=bCall (bCall hb hb1) hb2;replace B0:=(B0.call hb1).call hb2;replace B1:=(B1.call hb1).call hb2;have K10:=(Bx.mk w2 180 Tryz.zeroCells180).new (.cells Tryz.zeroCells180 180);have K11:=Bx.mk (w2.alloc (.cells Tryz.zeroCells180 180)) 180 Tryz.zeroCells180;rw [alloc_size]at K11;have hbA:=bNew (bNewW w2 (.cells Tryz.zeroCells180 180)) (.cells Tryz.zeroCells180 180);have A0:=(B0.new (.cells Tryz.zeroCells180 180)).new (.cells Tryz.zeroCells180 180);have A1:=(B1.new (.cells Tryz.zeroCells180 180)).new (.cells Tryz.zeroCells180 180);have l0:=B0.lt;have l1:=B1.lt;generalize hWa:(w2.alloc (.cells Tryz.zeroCells180 180)).alloc (.cells Tryz.zeroCells180 180)=Wa at *;have s1:=row_stcells (pt m) K10 hz;have L11:Bx (Wa.setRow w2.heap.size (rowC (pt m))) (w2.heap.size+1) 180 Tryz.zeroCells180:=(setRow_other _ (by omega)).trans K11;have s2:=row_stcells (pt tm_) L11 hz;have M10:Bx ((Wa.setRow w2.heap.size (rowC (pt m))).setRow (w2.heap.size+1) (rowC (pt tm_))) w2.heap.size 180 (rowC (pt m)):=(setRow_other _ (by omega)).trans (bx_setRow K10 _);have M11:Bx ((Wa.setRow w2.heap.size (rowC (pt m))).setRow (w2.heap.size+1) (rowC (pt tm_))) (w2.heap.size+1) 180 (rowC (pt tm_)):=bx_setRow L11 _;have M0:Bx ((Wa.setRow w2.heap.size (rowC (pt m))).setRow (w2.heap.size+1) (rowC (pt tm_))) w.heap.size 3 #[.int .i64 d]:=(setRow_other _ (by omega)).trans ((setRow_other _ (by omega)).trans A0);have M1:Bx ((Wa.setRow w2.heap.size (rowC (pt m))).setRow (w2.heap.size+1) (rowC (pt tm_))) (w.heap.size+1) 51 #[.string ⟨#[]⟩,.string ⟨#[]⟩]:=(setRow_other _ (by omega)).trans ((setRow_other _ (by omega)).trans A1);have hbM:=(hb.trans (hbA.mono hb.size)).trans (((below_setRow Wa (rowC (pt m)) (Nat.le_refl _)).trans (below_setRow _ (rowC (pt tm_)) (Nat.le_succ _))).mono hb.size);clear K10 K11 L11 A0 A1 B0 B1 hz hbA hb1 hb2;go_wp2_with fail;clear s1 s2 hWa;generalize (Wa.setRow w2.heap.size (rowC (pt m))).setRow (w2.heap.size+1) (rowC (pt tm_))=V at *;have hEV:=hE.below hbM;have hq:Kp (Rat.divInt (Tb.sm (Tb.vt m (t-m) d) k (d+1-k)) (Tb.ch t d:Int)=Tb.Hq t m d k):=⟨rfl⟩
 have hH:Hl t m d w2.heap.size (w2.heap.size+1) w.heap.size V:=⟨M10,by rw[htm];exact M11,M0⟩
 have hR:=fun X (hX:Below V.heap.size V X)=>ratio_h (Tb.vt m (t-m) d) w2.heap.size (w2.heap.size+1) w.heap.size k d (Tb.ch t d) _ (pt t d) qa qb X (fun i=>(Tb.vt_sz (by omega) (by omega) i).mono (by decide)) (by omega) hk (by have:=Tb.ch_pos hd;omega) ((Tb.ch_sz (by omega) d).mono (by decide)) (pt_sum t d) (hEV.below hX) hq lq
  (fun i s Y hki hid hs hY=>hterm_any t m d i _ _ _ s Y ((hH.call hX).call hY) ht hm hd hid hs ((hEV.below hX).below hY))
 have kr:=fun x os=>hR (Sort.grow (redrawn V x) os) (below_regrown V x os)
 have kp:=fun x os=>P3 (Sort.grow (redrawn V x) os) (bCall hbM (below_regrown V x os))
 have gN:=fun x os=>(M0.again x os).cell 0 rfl
 clear hR hH hq hEV P3 lq M10 M11 M0 hE hEA hb;generalize pt t d=sp at *;refine wp_region_below_tail 8 (by kernel_rfl) (by kernel_rfl) ?_;simp only[List.take,List.drop]
 repeat (go_big_quiet_step (first
  | (go_at_call 153;with_reducible exact Calls.regrown_of (kp _ _))
  | (go_at_call 154;with_reducible exact Calls.regrown_of (kr _ _))))
 refine wpQuiet_nil ?_;rintro _ ⟨z,rfl⟩;have hbz:=bAgain hbM z.d z.os;replace M1:=M1.again z.d z.os;clear kr kp gN hbM;generalize Sort.grow (redrawn V z.d) z.os=W2 at *;have c0:=M1.cell 0 rfl;have c1:=M1.cell 1 rfl;have f0:=M1.frozen 0;have f1:=M1.frozen 1;have B4:=(M1.set 0 (.string ⟨qa.toArray⟩)).set 1 (.string ⟨qb.toArray⟩);have hb4:=bSet (bSet hbz (p:=⟨w.heap.size+1,0,none⟩) (Nat.le_succ _) (.string ⟨qa.toArray⟩)) (p:=⟨w.heap.size+1,1,none⟩) (Nat.le_succ _) (.string ⟨qb.toArray⟩);go_wp2;exact bodyPost_ret (results_Q rfl _ _ rfl rfl B4) rfl ⟨rfl,hb4⟩
theorem i64_fits' {z:Int} (h:I64 z):Ig.fits z:=by
 have h1:z.natAbs<10 ^ 20:=by have:=h.1;have:=h.2;omega
 exact Nat.lt_of_lt_of_le h1 (Nat.pow_le_pow_right (by decide) (by decide))
theorem Of_ok (n d:Int) (w:World) (hn:I64 n) (hf:I64 d) (hd:d≠0) (hE:Env w) :
 Calls Tryz.prog 34 #[.int .i64 n,.int .i64 d] w fun e w'=>e=.returned (.tuple #[QV (Rat.divInt n d),.int .i64 0])/\Below w.heap.size w w':=by
 have hF1:=fun w0 hE0=>FromInt_any n w0 hn.1 hn.2 hE0
 have hF2:=fun w0 hE0=>FromInt_any d w0 hf.1 hf.2 hE0
 have hM:=fun w0 hE0=>Make_ok n d w0 (i64_fits' hn) (i64_fits' hf) hd hE0
 unfold QV at *
 generalize Lib.itoa (Rat.divInt n d).num=sa at *;generalize Lib.itoa ((Rat.divInt n d).den:Int)=sb at *;generalize Lib.itoa n=sn at *;generalize Lib.itoa d=sd at *;have B:=Bx.mk w 51 #[.string ⟨#[]⟩,.string ⟨#[]⟩];have hb:=bNewW w (.cells #[.string ⟨#[]⟩,.string ⟨#[]⟩] 51);clear hd
 go_enter Tryz.func34,Tryz.ntmps34
 go_wp2_with fail;refine (hF1 _ (hE.below hb)).mono ?_;rintro _ w1 ⟨rfl,hb1⟩;replace hb:=bCall hb hb1;replace B:=B.call hb1;clear hF1 hb1;go_wp2_with fail;refine (hF2 _ (hE.below hb)).mono ?_;rintro _ w2 ⟨rfl,hb1⟩;replace hb:=bCall hb hb1;replace B:=B.call hb1;clear hF2 hb1;go_wp2_with fail;refine (hM _ (hE.below hb)).mono ?_;rintro _ w3 ⟨rfl,hb1⟩;replace hb:=bCall hb hb1;replace B:=B.call hb1;clear hM hb1;have r0:=B.cell 0 rfl;have r1:=B.cell 1 rfl;have f0:=B.frozen 0;have f1:=B.frozen 1;have B2:=(B.set 0 (.string ⟨sa.toArray⟩)).set 1 (.string ⟨sb.toArray⟩);have hb2:=bSet (bSet hb (p:=⟨w.heap.size,0,none⟩) (Nat.le_refl _) (.string ⟨sa.toArray⟩)) (p:=⟨w.heap.size,1,none⟩) (Nat.le_refl _) (.string ⟨sb.toArray⟩);go_wp2;exact bodyPost_ret (results_Q rfl _ _ rfl rfl B2) rfl ⟨rfl,hb2⟩
theorem cmpZ_lt' {x y:Int} (h:x<y):cmpZ x y= -1:=by unfold cmpZ;rw[if_pos h]
theorem cmpZ_gt' {x y:Int} (h:y<x):cmpZ x y=1:=by unfold cmpZ;rw[if_neg (by omega),if_pos h]
theorem cmpZ_self (x:Int):cmpZ x x=0:=by unfold cmpZ;rw[if_neg (by omega),if_neg (by omega)]
theorem cmpZ_swap (x y:Int):cmpZ y x= -cmpZ x y:=by unfold cmpZ;split <;> split <;> (try split) <;> (try split) <;> omega
theorem cmpZ_sub {x y u v:Int} (h:x-y=u-v):cmpZ x y=cmpZ u v:=by
 unfold cmpZ
 have e1:x<y↔u<v:=by omega
 have e2:x > y↔u > v:=by omega
 simp only[e1,e2]
theorem cf_same {n d m c:Int} (hq:n / d=m / c):cmpZ (n*c) (m*d)=cmpZ (n % d*c) (m % c*d):=by
 apply cmpZ_sub
 have h1:=Int.mul_ediv_add_emod n d;have h2:=Int.mul_ediv_add_emod m c;rw [hq]at h1;generalize m / c=q at *;generalize n % d=r at *;generalize m % c=s at *;subst h1;subst h2;rw [Int.add_mul,Int.add_mul];have:d*q*c=c*q*d:=by rw[Int.mul_assoc,Int.mul_comm d,Int.mul_comm q c]
 omega
theorem cf_less {n d m c:Int} (hd:0<d) (hc:0<c) (hq:n / d<m / c):n*c<m*d:=by
 have h1:=Int.lt_mul_ediv_self_add (x:=n) hd;have h2:=Int.mul_ediv_self_le (x:=m) (show c≠0 by omega)
 have h3:d*(n / d)+d<=d*(m / c):=by
  have:d*(n / d+1)<=d*(m / c):=Int.mul_le_mul_of_nonneg_left (by omega) (by omega);rw [Int.mul_add,Int.mul_one]at this;exact this
 have h4:n<d*(m / c):=by omega
 have h5:n*c<d*(m / c)*c:=Int.mul_lt_mul_of_pos_right h4 hc;have h6:c*(m / c)*d<=m*d:=Int.mul_le_mul_of_nonneg_right h2 (by omega);have h7:d*(m / c)*c=c*(m / c)*d:=by rw[Int.mul_assoc,Int.mul_comm d,Int.mul_comm (m / c) c]
 omega
theorem cf_lt {n d m c:Int} (hd:0<d) (hc:0<c) (hq:n / d<m / c):cmpZ (n*c) (m*d)= -1:=cmpZ_lt' (cf_less hd hc hq)
theorem cf_gt {n d m c:Int} (hd:0<d) (hc:0<c) (hq:m / c<n / d):cmpZ (n*c) (m*d)=1:=cmpZ_gt' (cf_less hc hd hq)
theorem cf_00 {n d m c:Int} (hq:n / d=m / c) (hr:n % d=0) (hs:m % c=0):cmpZ (n*c) (m*d)=0:=by
 rw[cf_same hq,hr,hs,Int.zero_mul,Int.zero_mul];exact cmpZ_self 0
theorem cf_0s {n d m c:Int} (hd:0<d) (hc:0<c) (hq:n / d=m / c) (hr:n % d=0) (hs:m % c≠0):cmpZ (n*c) (m*d)= -1:=by
 have h:=Int.emod_nonneg m (show c≠0 by omega);have h2:0<m % c*d:=Int.mul_pos (by omega) hd;rw [cf_same hq,hr,Int.zero_mul,cmpZ_lt' h2]
theorem cf_r0 {n d m c:Int} (hd:0<d) (hc:0<c) (hq:n / d=m / c) (hr:n % d≠0) (hs:m % c=0):cmpZ (n*c) (m*d)=1:=by
 have h:=Int.emod_nonneg n (show d≠0 by omega);have h2:0<n % d*c:=Int.mul_pos (by omega) hc;rw [cf_same hq,hs,Int.zero_mul,cmpZ_gt' h2]
theorem cf_turn {n d m c:Int} (hq:n / d=m / c):cmpZ (n*c) (m*d)= -cmpZ (d*(m % c)) (c*(n % d)):=by
 rw[cf_same hq,cmpZ_swap,Int.mul_comm (m % c) d,Int.mul_comm (n % d) c]
theorem emod_small {n d:Int} (hd:0<d) (hr:n % d≠0):0<n % d/\(n % d).toNat<d.toNat:=by
 have h1:=Int.emod_nonneg n (show d≠0 by omega);have h2:=Int.emod_lt_of_pos n hd;omega
end Go.Proofs.YtelljijajgiabaaGreatDoor
namespace Go.Proofs.YtelljijajgiabaaGreatDoor.RN
open Go.RowKit
structure Cls (K:World->World->Prop):Prop where
 refl:∀w,K w w
 trans:∀ {a b c},K a b->K b c->K a c
 drawn:∀(w:World) n,K w { w with drawn:=n }
def slotV (ops:Array Oper) (a:Act) (j:Nat):Value :=
 match (ops[j]?).bind (·.dst) with
 | some d=>a.tmps.getD d undef
 | none=>undef
def putAll (vs:Nat->Value):Nat->List Oper->Act->Act
 | _,[],a=>a
 | k,o :: rest,a=>putAll vs (k+1) rest (a.put o.dst (vs k))
def SameF (ops:Array Oper) (n:Nat) (a0 a:Act):Prop :=
 a.defers=a0.defers/\a.tmps.size=a0.tmps.size/\∀t,(∀(i:Nat) (o:Oper),i<n->ops[i]? = some o->o.dst≠some t)->a.tmps.getD t undef=a0.tmps.getD t undef
def KN (K:World->World->Prop) (N:Nat->World->Prop) (i:Nat) (w w':World):Prop:=K w w'/\∀j,j≠i->N j w->N j w'
def waitsB (ops:Array Oper) (i j:Nat):Bool:=match ops[j]? with|some oj=>oj.after.any fun e=>Region.binds .any e&&e.on==i|none=>false
def StepRG (K:World->World->Prop) (N:Nat->World->Prop) (P:Program) (ops:Array Oper) (n:Nat) (R:Nat->Value->World->Prop) (w0:World) (a0:Act) (Q:Exit->Act->World->Prop) (i:Nat) (o:Oper):Prop :=
 ∀(a:Act) (w:World),K w0 w->SameF ops n a0 a->(∀e∈o.after,Region.binds .any e=true->R e.on (slotV ops a e.on) w)->(∀j,j<n->(i==j||waitsB ops i j)=true->N j w) ->
  if Region.wanted o (yielded ops a.tmps)=true then o.wp P a w (fun a' w'=>∃v,a'=a.put o.dst v/\KN K N i w w'/\R i (if o.dst.isSome then v else undef) w') Q else R i undef w
def okRG (ops:Array Oper) (n:Nat):Bool :=
 (List.range ops.size).all fun i=>match ops[i]? with
  | none=>true
  | some o=>(o.after.all fun e=> !Region.binds .any e||decide (e.on<i))&&(match o.dst with|some d=>decide (d<n)|none=>true) &&
   (List.range ops.size).all fun j=>decide (j=i)||match (ops[j]?).bind (·.dst),o.dst with|some d,some d'=>d != d'|_,_=>true
section
variable {P:Program} {ops:Array Oper} {R:Nat->Value->World->Prop} {w0:World} {a0:Act} {Q:Exit->Act->World->Prop}
theorem okRG_spec {n:Nat} (h:okRG ops n=true) {i:Nat} {o:Oper} (ho:ops[i]? = some o) :
 (∀e∈o.after,Region.binds .any e=true->e.on<i)/\(∀d,o.dst=some d->d<n)/\(∀j oj d d',j≠i->ops[j]? = some oj->oj.dst=some d->o.dst=some d'->d≠d'):=by
 have hi:i<ops.size:=(Array.getElem?_eq_some_iff.1 ho).1;have h1:=List.all_eq_true.1 h i (List.mem_range.2 hi);simp only[ho,Bool.and_eq_true]at h1;obtain ⟨⟨h1,h2⟩,h3⟩:=h1;refine ⟨fun e he hb=>?_,fun d hd=>?_,fun j oj d d' hj hoj hd hd'=>?_⟩
 · have:=Array.all_eq_true'.1 h1 e he;simpa [hb] using this
 · rw[hd]at h2;simpa using h2
 · have hjn:j<ops.size:=(Array.getElem?_eq_some_iff.1 hoj).1;have:=List.all_eq_true.1 h3 j (List.mem_range.2 hjn);simpa [hj,hoj,hd,hd'] using this
theorem getD_put (a:Act) (d t:Nat) (v:Value):(a.put (some d) v).tmps.getD t undef=if t=d/\d<a.tmps.size then v else a.tmps.getD t undef:=by
 simp only[Act.put,Array.getD_eq_getD_getElem?,Array.getElem?_setIfInBounds];by_cases h:d=t
 · subst h;by_cases h2:d<a.tmps.size
   · simp[h2]
   · simp[h2]
 · rw[if_neg h,if_neg (fun hh=>h hh.1.symm)]
theorem count_one {n i:Nat} {listed:Array Bool} (hi:i<listed.size) (hun:listed.getD i true=false):∀(l:List Nat),l.Nodup->i∈l->l.countP (fun j=> !(listed.setIfInBounds i true).getD j true)+1=l.countP (fun j=> !listed.getD j true):=by
 intro l
 induction l with
 | nil=>intro _ h;cases h
 | cons x l ihl =>
  intro hnd hm;rw [List.nodup_cons]at hnd;rw [List.countP_cons,List.countP_cons];by_cases hx:i=x
  · subst hx;have e1:(listed.setIfInBounds i true).getD i true=true:=by simp[Array.getD_eq_getD_getElem?,hi]
    have h5:l.countP (fun j=> !(listed.setIfInBounds i true).getD j true)=l.countP (fun j=> !listed.getD j true):=by
     refine List.countP_congr fun j hj=>?_
     rw[getD_set_ne true (fun h=>hnd.1 (by rw[h];exact hj))]
    simp only[e1,hun,h5,Bool.not_false,Bool.not_true,if_true,Bool.false_eq_true,if_false]
  · have:=ihl hnd.2 (by simpa [hx] using hm);rw [getD_set_ne true hx];omega
theorem any_rg {K:World->World->Prop} {N:Nat->World->Prop} (hK:Cls K) {n g:Nat} (hok:okRG ops a0.tmps.size=true) (hsc:ops.size<=n∨(Region.sinkB .any ops n=true/\Region.chainB .any ops n=true)) (hn:n<=ops.size)
 (hst:∀i v w w',R i v w->K w w'->R i v w') (hsteps:∀i o,i<n->ops[i]? = some o->StepRG K N P ops n R w0 a0 Q i o)
 (hfin:∀listed a w,HeadInv .any ops n listed->(∀i,i<n->listed.getD i true=true)->K w0 w->SameF ops n a0 a->(∀i,i<n->R i (slotV ops a i) w)->wpAny P .any ops Q g listed a w) :
 ∀(fuel:Nat) (listed:Array Bool) (a:Act) (w:World),HeadInv .any ops n listed->((List.range n).countP (fun i=> !listed.getD i true))=fuel->K w0 w->SameF ops n a0 a->(∀j,j<n->listed.getD j true=false->N j w) ->
  (∀i,i<n->listed.getD i false=true->R i (slotV ops a i) w)->wpAny P .any ops Q (fuel+g) listed a w:=by
 intro fuel
 induction fuel with
 | zero =>
  intro listed a w inv hcnt hb hsame hNj hR
  have hall:∀i,i<n->listed.getD i true=true:=by
   intro i hi;have:=List.countP_eq_zero.1 hcnt i (List.mem_range.2 hi);simpa using this
  rw[Nat.zero_add];exact hfin listed a w inv hall hb hsame fun i hi=>hR i hi (by have:=hall i hi;simpa [Array.getD_eq_getD_getElem?,inv.size,show i<ops.size by omega] using this)
 | succ fuel ih =>
  intro listed a w inv hcnt hb hsame hNj hR
  have hex:∃i,i<n/\listed.getD i true=false:=by
   have h0:0<(List.range n).countP (fun i=> !listed.getD i true):=by omega
   obtain⟨i,hi,hp⟩:=List.countP_pos_iff.1 h0;exact ⟨i,List.mem_range.1 hi,by simpa using hp⟩
  rw[show fuel+1+g=(fuel+g)+1 by omega];refine ⟨fun he=>?_,fun i hi=>?_⟩
  · exfalso
    have hempty:∀i,i<n->listed.getD i true=true:=by
     intro i
     induction i using Nat.strongRecOn with
     | _ i ih =>
      intro hi
      cases hl:listed.getD i true with
      | true=>rfl
      | false =>
       have hoi:ops[i]? = some (ops[i]'(by omega)):=Array.getElem?_eq_getElem (by omega)
       have:i∈Region.ready .any ops listed:=mem_ready.2 ⟨hl,_,hoi,fun e hem hbd=>by
        have hlt:=(okRG_spec hok hoi).1 e hem hbd;have:=ih e.on hlt (by omega)
        simpa [Array.getD_eq_getD_getElem?,inv.size,show e.on<ops.size by omega] using this⟩
       rw[he]at this;cases this
    obtain⟨i,hi,hu⟩:=hex;rw [hempty i hi]at hu;cases hu
  obtain⟨hun,o,ho,hdeps⟩:=mem_ready.1 hi;have hin:i<ops.size:=(Array.getElem?_eq_some_iff.1 ho).1
  have hhead:i<n:=by
   obtain⟨k,hk,hu⟩:=hex
   rcases Nat.lt_or_ge i n with h|h
   · exact h
   · rcases hsc with hsc|⟨hs,hc⟩
     · omega
     · exact absurd hi (tail_waits hs hc (by omega) inv _ k rfl hk hu i h)
  obtain⟨hback,hbound,hdist⟩:=okRG_spec hok ho
  have hc':(List.range n).countP (fun j=> !(listed.setIfInBounds i true).getD j true)=fuel:=by
   have:=count_one (n:=n) (by rw[inv.size];exact hin) hun (List.range n) List.nodup_range (List.mem_range.2 hhead);omega
  have hstep:=hsteps i o hhead ho a w hb hsame (fun e he hbd=>hR e.on (by have:=hback e he hbd;omega) (hdeps e he hbd)) (fun j hjn hwt=>hNj j hjn (by
   rw[Bool.or_eq_true,beq_iff_eq]at hwt
   rcases hwt with hwt|hwt
   · rw[←hwt];exact hun
   unfold waitsB at hwt
   cases hoj:ops[j]? with
   | none=>rw[hoj]at hwt;cases hwt
   | some oj =>
    rw[hoj]at hwt;obtain ⟨e,he,hbe⟩:=Array.any_eq_true'.1 hwt;simp only[Bool.and_eq_true,beq_iff_eq]at hbe
    cases hlj:listed.getD j true with
    | false=>rfl
    | true =>
     have hjs:j<listed.size:=by rw[inv.size];exact (Array.getElem?_eq_some_iff.1 hoj).1
     have h1:listed.getD j false=true:=by simpa [Array.getD_eq_getD_getElem?,hjs] using hlj
     have h2:=inv.closed j oj hoj h1 e he hbe.1;rw [hbe.2,getD_both hun]at h2
     cases h2))
  have hput:∀v,SameF ops n a0 (a.put o.dst v):=by
   intro v;obtain ⟨e1,e2,e3⟩:=hsame
   cases hd:o.dst with
   | none=>exact⟨e1,e2,e3⟩
   | some d =>
    refine⟨e1,by simpa [Act.put] using e2,fun t ht=>?_⟩;rw [getD_put,if_neg (fun hh=>ht i o hhead ho (by rw[hd,hh.1])),e3 t ht]
  have hslot:∀v j,j≠i->slotV ops (a.put o.dst v) j=slotV ops a j:=by
   intro v j hj
   unfold slotV
   cases hd:o.dst with
   | none=>rfl
   | some d =>
    cases hoj:ops[j]? with
    | none=>rfl
    | some oj =>
     cases hdj:oj.dst with
     | none=>simp[hdj]
     | some dj =>
      simp only[Option.bind_some,hdj];rw [getD_put,if_neg (fun hh=>hdist j oj dj d hj hoj hdj hd hh.1)]
  have hself:∀v,slotV ops (a.put o.dst v) i=if o.dst.isSome then v else undef:=by
   intro v
   unfold slotV
   rw[ho]
   cases hd:o.dst with
   | none=>simp[hd]
   | some d =>
    simp only[Option.bind_some,hd,Option.isSome_some,if_true];rw [getD_put,if_pos ⟨rfl,by rw[hsame.2.1];exact hbound d hd⟩]
  have hnext:∀v w',KN K N i w w'->R i (if o.dst.isSome then v else undef) w'->wpAny P .any ops Q (fuel+g) (listed.setIfInBounds i true) (a.put o.dst v) w':=by
   intro v w' hbw hr
   refine ih _ _ _ (inv.set hi hhead) hc' (hK.trans hb hbw.1) (hput v) (fun j hjn hj=>by
    by_cases hji:j=i
    · subst hji;exact absurd hj (by simp[Array.getD_eq_getD_getElem?,inv.size,hin])
    · exact hbw.2 j hji (hNj j hjn (by rw[←getD_set_ne true (fun h=>hji h.symm)];exact hj))) fun j hjn hj=>?_
   by_cases hji:j=i
   · subst hji;rw[hself];exact hr
   · rw[hslot v j hji];exact hst _ _ _ _ (hR j hjn (by rw[←getD_set_ne false (fun h=>hji h.symm)];exact hj)) hbw.1
  unfold wpOp
  simp only[ho];by_cases hw:Region.wanted o (yielded ops a.tmps)=true
  · rw[if_pos hw]at hstep ⊢;refine .inl ?_;exact Oper.wp_mono (fun a' w' hh=>by obtain⟨v,e,hb',hr⟩:=hh;subst e;exact hnext v w' hb' hr) hstep
  · rw[if_neg hw]at hstep ⊢;refine hnext undef w ⟨hK.refl _,fun _ _ h=>h⟩ ?_
    split <;> exact hstep
theorem putAll_size (vs:Nat->Value):∀(l:List Oper) (k:Nat) (a:Act),(putAll vs k l a).tmps.size=a.tmps.size/\(putAll vs k l a).defers=a.defers
 | [],_,_=>⟨rfl,rfl⟩
 | o :: l,k,a=>by
  have:=putAll_size vs l (k+1) (a.put o.dst (vs k));refine ⟨this.1.trans ?_,this.2.trans ?_⟩ <;> cases o.dst <;> simp[Act.put]
theorem putAll_ne (vs:Nat->Value) (t:Nat):∀(l:List Oper) (k:Nat) (a:Act),(∀o∈l,o.dst≠some t)->(putAll vs k l a).tmps.getD t undef=a.tmps.getD t undef
 | [],_,_,_=>rfl
 | o :: l,k,a,h=>by
  refine (putAll_ne vs t l (k+1) _ fun o ho=>h o (by simp[ho])).trans ?_
  cases hd:o.dst with
  | none=>rfl
  | some d=>rw[getD_put,if_neg (fun hh=>h o (by simp) (by rw[hd,hh.1]))]
theorem putAll_eq (vs:Nat->Value) (t:Nat):∀(l:List Oper) (k j:Nat) (o:Oper) (a:Act),l[j]? = some o->o.dst=some t->(∀(i:Nat) (o':Oper),j<i->l[i]? = some o'->o'.dst≠some t)->t<a.tmps.size ->
 (putAll vs k l a).tmps.getD t undef=vs (k+j)
 | [],_,_,_,_,h,_,_,_=>by simp at h
 | x :: l,k,0,o,a,h,hd,hu,ht=>by
  obtain rfl:x=o:=by simpa using h
  refine (putAll_ne vs t l (k+1) _ fun o ho=>?_).trans ?_
  · obtain⟨i,hi⟩:=List.mem_iff_getElem?.1 ho;exact hu (i+1) o (by omega) (by simpa using hi)
  · rw[hd,getD_put,if_pos ⟨rfl,ht⟩];rfl
 | x :: l,k,j+1,o,a,h,hd,hu,ht=>by
  have:=putAll_eq vs t l (k+1) j o (a.put x.dst (vs k)) (by simpa using h) hd (fun i o' hji hi=>hu (i+1) o' (by omega) (by simpa using hi)) (by cases x.dst <;> simpa [Act.put] using ht);rw [show putAll vs k (x :: l) a=putAll vs (k+1) l (a.put x.dst (vs k)) from rfl,this,show k+1+j=k+(j+1) by omega]
def looksB (ops:Array Oper) (n:Nat):Bool :=
 (List.range n).all fun i=>match ops[i]? with
  | none=>true
  | some o=>o.guard.isNone&&(match o.op with|.select ..=>false|_=>true) &&
   (o.looksAt ops).all fun t=>(List.range ops.size).all fun j=>match ops[j]? with|some oj=>oj.dst != some t||decide (j<i)||decide (n<=j)|none=>true
def seen (ops:Array Oper) (vs:Nat->Value) (i:Nat) (a0:Act):Act:=putAll vs 0 (ops.toList.take i) a0
theorem take_get {ops:Array Oper} {i j:Nat} {o:Oper}:(ops.toList.take i)[j]? = some o↔j<i/\ops[j]? = some o:=by
 rw[List.getElem?_take]
 split
 · simp[*]
 · constructor
   · intro h;cases h
   · intro h;omega
theorem take_get' {l:List Oper} {i j:Nat} {o:Oper} (h:(l.take i)[j]? = some o):j<i/\l[j]? = some o:=by
 rw[List.getElem?_take]at h
 split at h
 · exact⟨by assumption,h⟩
 · cases h
theorem act_ext {a b:Act} (h:a.tmps=b.tmps) (h':a.defers=b.defers):a=b:=by cases a;cases b;simp_all
theorem seen_slot {n i:Nat} {a:Act} (hin:i<=n) (hok:okRG ops a0.tmps.size=true) (hsame:SameF ops n a0 a) {t:Nat} (hl:∀(j:Nat) (oj:Oper),ops[j]? = some oj->oj.dst=some t->j<i∨n<=j) :
 (seen ops (slotV ops a) i a0).tmps.getD t undef=a.tmps.getD t undef:=by
 by_cases hw:∃(j:Nat) (oj:Oper),j<n/\ops[j]? = some oj/\oj.dst=some t
 · obtain⟨j,oj,hjn,hj,hd⟩:=hw;have hsp:=okRG_spec hok hj;have hji:j<i:=(hl j oj hj hd).resolve_right (by omega)
   unfold seen
   rw[putAll_eq (slotV ops a) t _ 0 j oj a0 (take_get.2 ⟨hji,hj⟩) hd (fun k o' hjk hk hd'=>hsp.2.2 k o' t t (by omega) (take_get.1 hk).2 hd' hd rfl) (hsp.2.1 t hd)];simp [slotV,hj,hd]
 · have hno:∀(j:Nat) (oj:Oper),j<n->ops[j]? = some oj->oj.dst≠some t:=fun j oj hjn hj hd=>hw ⟨j,oj,hjn,hj,hd⟩
   rw[hsame.2.2 t hno]
   unfold seen
   refine putAll_ne _ _ _ _ _ fun o ho=>?_
   obtain⟨j,hj⟩:=List.mem_iff_getElem?.1 ho;have:=(take_get.1 hj).1;exact hno j o (by omega) (take_get.1 hj).2
def AllE (R:Nat->Value->World->Prop) (vs:Nat->Value) (w:World):List Edge->Prop
 | []=>True
 | e :: l=>(Region.binds .any e=true->R e.on (vs e.on) w)/\AllE R vs w l
theorem AllE_of {R:Nat->Value->World->Prop} {vs:Nat->Value} {w:World}:∀(l:List Edge),(∀e∈l,Region.binds .any e=true->R e.on (vs e.on) w)->AllE R vs w l
 | [],_=>trivial
 | e :: l,h=>⟨h e (by simp),AllE_of l fun e he=>h e (by simp[he])⟩
def dstV (o:Oper) (a:Act):Value:=match o.dst with|some d=>a.tmps.getD d undef|none=>undef
def UserRG (K:World->World->Prop) (N:Nat->World->Prop) (P:Program) (ops:Array Oper) (n:Nat) (R:Nat->Value->World->Prop) (w0:World) (a0:Act) (i:Nat) (o:Oper):Prop :=
 ∀(vs:Nat->Value) (w:World),K w0 w->AllE R vs w o.after.toList->(∀j,j<n->(i==j||waitsB ops i j)=true->N j w) ->
  wpList P ops (fun e a' w'=>e=.normal/\a'.defers=a0.defers/\KN K N i w w'/\R i (dstV o a') w') [o] (seen ops vs i a0) w
def UsersRG (K:World->World->Prop) (N:Nat->World->Prop) (P:Program) (ops:Array Oper) (n:Nat) (R:Nat->Value->World->Prop) (w0:World) (a0:Act):Nat->List Oper->Prop
 | _,[]=>True
 | k,o :: l=>UserRG K N P ops n R w0 a0 k o/\UsersRG K N P ops n R w0 a0 (k+1) l
theorem UsersRG.get {K:World->World->Prop} {N:Nat->World->Prop} {n:Nat} {P:Program} {ops:Array Oper} {R:Nat->Value->World->Prop} {w0:World} {a0:Act}:∀(l:List Oper) (k j:Nat) (o:Oper),UsersRG K N P ops n R w0 a0 k l->l[j]? = some o->UserRG K N P ops n R w0 a0 (k+j) o
 | [],_,_,_,_,h=>by simp at h
 | x :: l,k,0,o,hh,h=>by
  obtain rfl:x=o:=by simpa using h
  exact hh.1
 | x :: l,k,j+1,o,hh,h=>by
  have:=UsersRG.get l (k+1) j o hh.2 (by simpa using h)
  rwa [show k+1+j=k+(j+1) by omega]at this
theorem not_letsOut {K:World->World->Prop} {a0:Act} {R:Value->World->Prop} {w:World} {o:Oper} (h:LetsOut (fun e a' w'=>e=.normal/\a'.defers=a0.defers/\K w w'/\R (dstV o a') w')):False:=by
 obtain⟨_,_,h,_⟩:=h;cases h
theorem step_of_user {K:World->World->Prop} {N:Nat->World->Prop} {n i:Nat} {o:Oper} (hok:okRG ops a0.tmps.size=true) (hlk:looksB ops n=true) (hi:i<n) (hin:n<=ops.size) (ho:ops[i]? = some o) (h:UserRG K N P ops n R w0 a0 i o):StepRG K N P ops n R w0 a0 Q i o:=by
 intro a w hb hsame hdeps hN;have h1:=List.all_eq_true.1 hlk i (List.mem_range.2 hi);simp only[ho,Bool.and_eq_true]at h1;obtain ⟨⟨hg,hsel⟩,hl⟩:=h1;have hg':o.guard=none:=by simpa using hg
 have hw:∀y,Region.wanted o y=true:=fun y=>by simp[Region.wanted,hg']
 rw[if_pos (hw _)];have hu:=h (slotV ops a) w hb (AllE_of _ fun e he hbd=>hdeps e (by simpa using he) hbd) hN;simp only[wpList,hw,if_true]at hu
 have hexec:execOp a.eval o=execOp (seen ops (slotV ops a) i a0).eval o:=by
  refine execOp_congr o (fun cs b e=>by rw[e]at hsel;simp at hsel) fun x hx=>?_
  cases x with
  | tmp t =>
   have ht:t∈o.looksAt ops:=List.mem_append_left _ (List.mem_filterMap.2 ⟨.tmp t,by simpa using hx,rfl⟩);have h2:=List.all_eq_true.1 hl t ht;refine (seen_slot (Nat.le_of_lt hi) hok hsame fun j oj hj hd=>?_).symm;have h3:=List.all_eq_true.1 h2 j (List.mem_range.2 (Array.getElem?_eq_some_iff.1 hj).1);simpa [hj,hd] using h3
  | _=>rfl
 have hsz:=putAll_size (slotV ops a) (ops.toList.take i) 0 a0
 have hput:∀v,dstV o ((seen ops (slotV ops a) i a0).put o.dst v)=if o.dst.isSome then v else undef:=by
  intro v
  unfold dstV
  cases hd:o.dst with
  | none=>rfl
  | some d =>
   simp only[Option.isSome_some,if_true];rw [getD_put,if_pos ⟨rfl,by rw[seen,hsz.1];exact (okRG_spec hok ho).2.1 d hd⟩]
 rcases hu with hu|hu
 · unfold Oper.wp at hu ⊢
   rw[hexec];generalize (execOp (seen ops (slotV ops a) i a0).eval o).run P w=r at hu
   cases r with
   | halt x w'=>cases x <;> simp only[Oper.upon]at hu ⊢ <;> first|exact absurd hu.1 (by simp)|exact hu
   | ok nx w' =>
    cases nx <;> simp only[Oper.upon]at hu ⊢
    case value v=>exact⟨v,rfl,hu.2.2.1,by rw[←hput];exact hu.2.2.2⟩
    case skip=>exact⟨undef,rfl,hu.2.2.1,by rw[←hput];exact hu.2.2.2⟩
    case defer d =>
     exfalso
     have:=hu.2.1;have h9:=congrArg List.length this;cases hd:o.dst <;> simp[hd,Act.put,seen,hsz.2]at h9
    case enter f args =>
     refine Calls.mono hu fun e w'' he=>?_
     cases e with
     | returned v=>exact⟨v,rfl,he.2.2.1,by rw[←hput];exact he.2.2.2⟩
     | panicked c=>exact absurd he.1 (by simp)
     | outgrown=>exact (not_letsOut (R:=R i) he).elim
    case row s args=>exact Rows.mono hu fun v w'' he=>⟨v,rfl,he.2.2.1,by rw[←hput];exact he.2.2.2⟩
    all_goals exact hu.elim
 · exact (not_letsOut (R:=R i) hu.2).elim
theorem any_region_rg {K:World->World->Prop} {N:Nat->World->Prop} (hK:Cls K) {l:List Oper} {Q:Exit->Act->World->Prop} {a0:Act} {w0:World} (n:Nat) (R:Nat->Value->World->Prop)
 (hB:(okRG l.toArray a0.tmps.size&&looksB l.toArray n&&(decide (l.length<=n)||(Region.sinkB .any l.toArray n&&Region.chainB .any l.toArray n))&&decide (n<=l.length)&&Region.seqB .any l.toArray (l.length-n) n ((List.range l.length).map fun i=>decide (i<n)).toArray)=true)
 (hst:∀i v w w',R i v w->K w w'->R i v w') (hN0:∀j,N j { w0 with drawn:=w0.drawn+1 }) (hsteps:UsersRG K N P l.toArray n R w0 a0 0 (l.take n))
 (hfin:∀vs w',K w0 w'->(∀i,i<n->R i (vs i) w')->wpList P l.toArray Q (l.drop n) (putAll vs 0 (l.take n) a0) w'):wpAny P .any l.toArray Q l.toArray.size (Array.replicate l.toArray.size false) a0 { w0 with drawn:=w0.drawn+1 }:=by
 simp only[Bool.and_eq_true,decide_eq_true_eq]at hB;obtain ⟨⟨⟨⟨hok,hlk⟩,hsc⟩,hn⟩,hseq⟩:=hB
 have hsc':l.toArray.size<=n∨(Region.sinkB .any l.toArray n=true/\Region.chainB .any l.toArray n=true):=by
  rw[Bool.or_eq_true,Bool.and_eq_true,decide_eq_true_eq]at hsc;simpa using hsc
 have hn':n<=l.toArray.size:=by simpa using hn
 have hb0:K w0 { w0 with drawn:=w0.drawn+1 }:=hK.drawn w0 _
 have inv0:HeadInv .any l.toArray n (Array.replicate l.toArray.size false) :=
  ⟨by simp,fun j oj _ hl=>(by rw[getD_replicate_false]at hl;cases hl),fun t _ ht=>getD_in (by simpa using ht) (getD_replicate_false _ _)⟩
 have H:=any_rg hK (P:=P) (ops:=l.toArray) (R:=R) (w0:=w0) (a0:=a0) (Q:=Q) (n:=n) (g:=l.length-n) hok hsc' hn' hst (fun i o hi ho=>step_of_user hok hlk hi hn' ho (by
  have:=UsersRG.get (l.take n) 0 i o hsteps (by rw[List.getElem?_take,if_pos hi];simpa using ho)
  rwa [Nat.zero_add]at this)) (fun listed a w inv hall hb hsame hR=>by
  have hlst:listed=((List.range l.length).map fun i=>decide (i<n)).toArray:=by
   apply Array.ext
   · simp[inv.size]
   · intro i h1 h2;have hi:i<l.length:=by simpa using h2
     simp only[List.getElem_toArray,List.getElem_map,List.getElem_range]
     rcases Nat.lt_or_ge i n with h|h
     · have:=hall i h;simp [Array.getD_eq_getD_getElem?,h1]at this
       simp[h,this]
     · have:=inv.tail i h (by simpa using hi);simp [Array.getD_eq_getD_getElem?,h1]at this
       simp[this];omega
  have hfr:a=putAll (slotV l.toArray a) 0 (l.take n) a0:=by
   have hsz:=putAll_size (slotV l.toArray a) (l.take n) 0 a0
   have key:a.tmps=(putAll (slotV l.toArray a) 0 (l.take n) a0).tmps:=by
    apply Array.ext
    · rw[hsz.1,hsame.2.1]
    · intro t h1 h2;have e1:a.tmps[t]=a.tmps.getD t undef:=by simp[Array.getD_eq_getD_getElem?,h1]
      have e2:(putAll (slotV l.toArray a) 0 (l.take n) a0).tmps[t]=(putAll (slotV l.toArray a) 0 (l.take n) a0).tmps.getD t undef:=by simp[Array.getD_eq_getD_getElem?,h2]
      rw[e1,e2];by_cases hw:∃(j:Nat) (oj:Oper),j<n/\l.toArray[j]? = some oj/\oj.dst=some t
      · obtain⟨j,oj,hjn,hj,hd⟩:=hw;have hsp:=okRG_spec hok hj;rw [putAll_eq (slotV l.toArray a) t (l.take n) 0 j oj a0 (by rw[List.getElem?_take,if_pos hjn];simpa using hj) hd (fun k o' hjk hk hd'=>hsp.2.2 k o' t t (by omega) (by simpa using (take_get' hk).2) hd' hd rfl) (hsp.2.1 t hd)];have hj':l[j]? = some oj:=by simpa using hj
        simp[slotV,hj',hd]
      · have hno:∀(j:Nat) (oj:Oper),j<n->l.toArray[j]? = some oj->oj.dst≠some t:=fun j oj hjn hj hd=>hw ⟨j,oj,hjn,hj,hd⟩
        rw[hsame.2.2 t hno];refine (putAll_ne _ _ _ _ _ fun o ho=>?_).symm;obtain ⟨j,hj⟩:=List.mem_iff_getElem?.1 ho;exact hno j o (take_get' hj).1 (by simpa using (take_get' hj).2)
   have kd:a.defers=(putAll (slotV l.toArray a) 0 (l.take n) a0).defers:=by rw[hsz.2,hsame.1]
   exact act_ext key kd
  have h2:=hfin (slotV l.toArray a) w hb hR;rw [←hfr]at h2;have h3:=wpAny_of_seq (P:=P) (ops:=l.toArray) (md:=.any) (Q':=Q) (l.drop n) n listed a w (fun j=>by simp[List.getElem?_drop]) (by rw[hlst];simpa using hseq) h2
  simpa using h3) n (Array.replicate l.toArray.size false) a0 { w0 with drawn:=w0.drawn+1 } inv0 (by
   have:(List.range n).countP (fun i=> !(Array.replicate l.toArray.size false).getD i true)=(List.range n).length:=List.countP_eq_length.2 fun i hi=>by
    have:=List.mem_range.1 hi;simp [Array.getD_eq_getD_getElem?,show i<l.length by omega]
   simpa using this) hb0 ⟨rfl,rfl,fun _ _=>rfl⟩ (fun j _ _=>hN0 j) (fun i _ h=>by rw[getD_replicate_false]at h;cases h)
 rw[show n+(l.length-n)=l.toArray.size by simp;omega]at H;exact H
end
def Stab (K:World->World->Prop) (p:Value->World->Prop):Prop:=∀v w w',p v w->K w w'->p v w'
def Eqv (u:Value):Value->World->Prop:=fun v _=>v=u
def Anyv:Value->World->Prop:=fun _ _=>True
theorem stab_eqv {K:World->World->Prop} (u:Value):Stab K (Eqv u):=fun _ _ _ h _=>h
theorem stab_any {K:World->World->Prop}:Stab K Anyv:=fun _ _ _ _ _=>trivial
def rel (ps:List (Value->World->Prop)) (i:Nat) (v:Value) (w:World):Prop:=(ps.getD i Anyv) v w
def AllS (K:World->World->Prop):List (Value->World->Prop)->Prop
 | []=>True
 | p :: l=>Stab K p/\AllS K l
def AllR (vs:Nat->Value) (w:World):Nat->List (Value->World->Prop)->Prop
 | _,[]=>True
 | k,p :: l=>p (vs k) w/\AllR vs w (k+1) l
theorem AllS.get {K:World->World->Prop}:∀(ps:List (Value->World->Prop)) (i:Nat),AllS K ps->Stab K (ps.getD i Anyv)
 | [],i,_=>by simpa using stab_any
 | p :: l,0,h=>by simpa using h.1
 | p :: l,i+1,h=>by simpa using AllS.get l i h.2
theorem AllR_of {vs:Nat->Value} {w:World}:∀(ps:List (Value->World->Prop)) (k:Nat),(∀i,i<ps.length->(ps.getD i Anyv) (vs (k+i)) w)->AllR vs w k ps
 | [],_,_=>trivial
 | p :: l,k,h=>⟨by simpa using h 0 (by simp),AllR_of l (k+1) fun i hi=>by
  have:=h (i+1) (by simp;omega)
  rw[show k+1+i=k+(i+1) by omega];simpa using this⟩
def depB (o:Oper) (j:Nat):Bool:=o.after.toList.any fun e=>Region.binds .any e&&e.on==j
def putD (vs:Nat->Value):Nat->List (Option Tmp)->Act->Act
 | _,[],a=>a
 | k,d :: rest,a=>putD vs (k+1) rest (a.put d (vs k))
theorem putAll_D (vs:Nat->Value):∀(l:List Oper) (k:Nat) (a:Act),putAll vs k l a=putD vs k (l.map (·.dst)) a
 | [],_,_=>rfl
 | o :: l,k,a=>putAll_D vs l (k+1) _
def Users (K:World->World->Prop) (N:Nat->World->Prop) (P:Program) (L:Array Oper) (n:Nat) (ps:List (Value->World->Prop)) (w0:World) (a0:Act):Nat->List (Option Tmp)->List Oper->List (Value->World->Prop)->Prop
 | k,pre,o :: l,q :: qs=>(∀(vs:Nat->Value) (w:World),K w0 w->(∀j,depB o j=true->rel ps j (vs j) w)->(∀j,j<n->(k==j||waitsB L k j)=true->N j w) ->
  wpList P #[] (fun e a' w'=>e=.normal/\a'.defers=a0.defers/\KN K N k w w'/\q (dstV o a') w') [o] (putD vs 0 pre a0) w)/\Users K N P L n ps w0 a0 (k+1) (pre++[o.dst]) l qs
 | _,_,_,_=>True
theorem wpList_ops {P:Program} {ops ops':Array Oper} {Q:Exit->Act->World->Prop} {o:Oper} {a:Act} {w:World} (hg:o.guard=none) (h:wpList P ops Q [o] a w):wpList P ops' Q [o] a w:=by
 have hw:∀y,Region.wanted o y=true:=fun y=>by simp[Region.wanted,hg]
 simp only[wpList,hw,if_true]at h ⊢;exact h
theorem AllE_get {R:Nat->Value->World->Prop} {vs:Nat->Value} {w:World}:∀(l:List Edge),AllE R vs w l->∀e∈l,Region.binds .any e=true->R e.on (vs e.on) w
 | [],_,e,he,_=>by cases he
 | x :: l,h,e,he,hb=>by
  rcases List.mem_cons.1 he with rfl|he
  · exact h.1 hb
  · exact AllE_get l h.2 e he hb
theorem Users.rg {K:World->World->Prop} {N:Nat->World->Prop} {P:Program} {ps:List (Value->World->Prop)} {w0:World} {a0:Act} {L:List Oper} {n:Nat} (hlk:looksB L.toArray n=true) (hnp:n<=ps.length):∀(l:List Oper) (k:Nat),(∀j,l[j]? = (L.take n)[k+j]?)->Users K N P L.toArray n ps w0 a0 k ((L.take k).map (·.dst)) l (ps.drop k)->UsersRG K N P L.toArray n (rel ps) w0 a0 k l
 | [],_,_,_=>trivial
 | o :: l,k,hl,h=>by
  have h0:(L.take n)[k]? = some o:=by simpa using (hl 0).symm
  obtain⟨hkn,hLo⟩:=take_get' h0;have hkp:k<ps.length:=by omega
  rw[List.drop_eq_getElem_cons hkp]at h;refine ⟨fun vs w hb hE hNw=>?_,Users.rg hlk hnp l (k+1) (fun j=>by have:=hl (j+1);simpa [Nat.add_assoc,Nat.add_comm 1 j] using this) ?_⟩
  · have h1:=List.all_eq_true.1 hlk k (List.mem_range.2 hkn);have hLo':L.toArray[k]? = some o:=by simpa using hLo
    simp only[hLo',Bool.and_eq_true]at h1
    have hu:=h.1 vs w hb (fun j hj=>by
     obtain⟨e,he,hej⟩:=List.any_eq_true.1 hj;simp only[Bool.and_eq_true,beq_iff_eq]at hej;have:=AllE_get _ hE e he hej.1
     rwa [hej.2]at this) hNw
    have hfr:seen L.toArray vs k a0=putD vs 0 ((L.take k).map (·.dst)) a0:=putAll_D vs _ 0 a0;rw [hfr];refine wpList_ops (ops:=#[]) (by simpa using h1.1.1) ?_;have hq:ps[k]=ps.getD k Anyv:=by simp[List.getD_eq_getElem?_getD,hkp]
    rw[hq]at hu;exact hu
  · have h2:=h.2
    have e1:(L.take k).map (·.dst)++[o.dst]=(L.take (k+1)).map (·.dst):=by
     rw[List.take_add_one,hLo];simp
    rw[e1]at h2;exact h2
theorem any_region_rgl {K:World->World->Prop} {N:Nat->World->Prop} (hK:Cls K) {P:Program} {l:List Oper} {Q:Exit->Act->World->Prop} {a0:Act} {w0:World} (ps:List (Value->World->Prop)) (n sz:Nat) (hnp:ps.length=n) (hsz:a0.tmps.size=sz)
 (hB:(okRG l.toArray sz&&looksB l.toArray n&&(decide (l.length<=n)||(Region.sinkB .any l.toArray n&&Region.chainB .any l.toArray n))&&decide (n<=l.length)&&Region.seqB .any l.toArray (l.length-n) n ((List.range l.length).map fun i=>decide (i<n)).toArray)=true)
 (hst:AllS K ps) (hN0:∀j,N j { w0 with drawn:=w0.drawn+1 }) (hsteps:Users K N P l.toArray n ps w0 a0 0 [] (l.take n) ps)
 (hfin:∀vs w',K w0 w'->AllR vs w' 0 ps->wpList P l.toArray Q (l.drop n) (putD vs 0 ((l.take n).map (·.dst)) a0) w'):wpAny P .any l.toArray Q l.toArray.size (Array.replicate l.toArray.size false) a0 { w0 with drawn:=w0.drawn+1 }:=by
 subst hnp hsz;have hlk:looksB l.toArray ps.length=true:=by simp only[Bool.and_eq_true]at hB;exact hB.1.1.1.2
 refine any_region_rg hK ps.length (rel ps) hB (fun i v w w' h hb=>AllS.get ps i hst v w w' h hb) hN0 (Users.rg hlk (Nat.le_refl _) (l.take ps.length) 0 (fun j=>by simp) hsteps) fun vs w' hb hR=>by rw[putAll_D];exact hfin vs w' hb (AllR_of ps 0 fun i hi=>by rw[Nat.zero_add];exact hR i hi)
theorem wp_region_rgl {K:World->World->Prop} {N:Nat->World->Prop} (hK:Cls K) {P:Program} {id:Nat} {l:List Oper} {Q:Exit->Act->World->Prop} {a0:Act} {w0:World} (ps:List (Value->World->Prop)) (n sz:Nat) (hm:P.follows .mixedOrders=true) (hnp:ps.length=n) (hsz:a0.tmps.size=sz)
 (hB:(okRG l.toArray sz&&looksB l.toArray n&&(decide (l.length<=n)||(Region.sinkB .any l.toArray n&&Region.chainB .any l.toArray n))&&decide (n<=l.length)&&Region.seqB .any l.toArray (l.length-n) n ((List.range l.length).map fun i=>decide (i<n)).toArray)=true)
 (hst:AllS K ps) (hN0:∀j,N j { w0 with drawn:=w0.drawn+1 }) (hsteps:Users K N P l.toArray n ps w0 a0 0 [] (l.take n) ps)
 (hfin:∀vs w',K w0 w'->AllR vs w' 0 ps->wpList P l.toArray Q (l.drop n) (putD vs 0 ((l.take n).map (·.dst)) a0) w'):(Code.region id l.toArray true).wp P Q a0 w0 :=
 wp_region_any hm (any_region_rgl hK ps n sz hnp hsz hB hst hN0 hsteps hfin)
end Go.Proofs.YtelljijajgiabaaGreatDoor.RN

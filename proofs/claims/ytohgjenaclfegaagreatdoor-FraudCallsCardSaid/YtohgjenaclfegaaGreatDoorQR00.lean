import Derived.Test.YtohgjenaclfegaaGreatDoorQI04
set_option linter.unusedVariables false
set_option linter.unusedSimpArgs false
set_option maxRecDepth 100000
set_option maxHeartbeats 8000000
namespace Rq
theorem Fa (n d:Int):((d.gcd n:Nat):Int)=((Nat.gcd n.natAbs d.natAbs:Nat):Int):=by
 rw[Nat.gcd_comm];rfl
theorem xY {n d:Int} (hd:0<d):(Rat.divInt n d).num=n / ((Nat.gcd n.natAbs d.natAbs:Nat):Int)/\((Rat.divInt n d).den:Int)=d / ((Nat.gcd n.natAbs d.natAbs:Nat):Int):=by
 refine⟨?_,?_⟩
 · rw[Rat.num_divInt,Int.sign_eq_one_of_pos hd,Int.one_mul,Fa]
 · rw[Rat.den_divInt,if_neg (by omega),Int.natCast_ediv,Fa]
   congr 1
   omega
theorem EI {n d:Int}:Rat.divInt n d=Rat.divInt (0-n) (0-d):=by
 rw[Int.zero_sub,Int.zero_sub,Rat.neg_divInt_neg]
theorem TJ (a b:Rat):Rat.divInt (a.num*b.den+b.num*a.den) (a.den*b.den)=a+b:=by
 rw[Rat.add_def',←Rat.divInt_ofNat];simp
theorem DY {n d:Int} (hd:0<d) (hg:Nat.gcd n.natAbs d.natAbs=1):∃q:Rat,q.num=n/\(q.den:Int)=d:=by
 refine⟨⟨n,d.toNat,by omega,?_⟩,rfl,by simp;omega⟩
 show Nat.gcd _ _=1
 rw[show d.toNat=d.natAbs by omega];exact hg
theorem W_ (q:Rat):Nat.gcd q.num.natAbs (q.den:Int).natAbs=1:=q.reduced
structure Fq (q:Rat):Prop where
 num:Ig.fits q.num
 den:Ig.fits (q.den:Int)
def Ut (n d:List UInt8):Prop:=∃q:Rat,Fq q/\n=Go.Lib.itoa q.num/\d=Go.Lib.itoa (q.den:Int)
noncomputable def okB (n d:List UInt8):Bool:=@decide (Ut n d) (Classical.propDecidable _)
theorem xO {n d:List UInt8} (h:Ut n d):okB n d=true:=by unfold okB;exact @decide_eq_true _ (Classical.propDecidable _) h
theorem iD {n d:List UInt8} (h:¬Ut n d):okB n d=false:=by unfold okB;exact @decide_eq_false _ (Classical.propDecidable _) h
theorem vC {q:Rat} (h:Fq q):okB (Go.Lib.itoa q.num) (Go.Lib.itoa (q.den:Int))=true:=xO ⟨q,h,rfl,rfl⟩
theorem sV (q:Rat):0<(q.den:Int):=by have:=q.den_pos;omega
theorem pV (q:Rat):(q.den:Int)≠0:=by have:=q.den_pos;omega
end Rq
namespace Go.Proofs.YtohgjenaclfegaaGreatDoor
open Go.RowKit Go.Shelf
def QV (q:Rat):Value:=.agg #[.string ⟨(Lib.itoa q.num).toArray⟩,.string ⟨(Lib.itoa (q.den:Int)).toArray⟩]
theorem lI (y:Int):(Lib.itoa y==[48])=decide (y=0):=by
 have h0:Lib.itoa 0=[48]:=by decide +kernel
 rw[Bool.eq_iff_iff,beq_iff_eq,decide_eq_true_iff,←h0];exact ⟨fun h=>Ig.dX h,fun h=>by rw[h]⟩
theorem Qm (y:Int):(Lib.itoa y==[49])=decide (y=1):=by
 have h0:Lib.itoa 1=[49]:=by decide +kernel
 rw[Bool.eq_iff_iff,beq_iff_eq,decide_eq_true_iff,←h0];exact ⟨fun h=>Ig.dX h,fun h=>by rw[h]⟩
theorem uN:Ig.fits 0:=by unfold Ig.fits;decide
theorem Rx:Ig.fits 1:=Nat.lt_of_lt_of_le (show (1:Int).natAbs<10 ^ 1 by decide) (Nat.pow_le_pow_right (by decide) (by decide))
theorem oq:Lib.itoa 0=[48]:=by decide +kernel
theorem F5 (n d:List UInt8) (w:World) (hn:n.length<=1000000) (h:Ig.dK n=false) :
 aT 157 #[.agg #[.string ⟨n.toArray⟩,.string ⟨d.toArray⟩]] w (.bool false):=by
 have hV:=fun w0=>iV n hn w0
 rw[h]at hV;have hb:=aA w (.cells #[.string ⟨n.toArray⟩,.string ⟨d.toArray⟩] 77)
 go_enter Tryz.func157,Tryz.ntmps157
 go_wp2_with fail;refine (hV _).mono ?_;rintro _ w1 ⟨rfl,hb1⟩;have hb2:=ah hb hb1;clear hV;go_wp2;go_ret;exact ⟨rfl,hb2⟩
theorem FZ (n d:List UInt8) (w:World) (hn:n.length<=1000000) (hd:d.length<=1000000) (h:Ig.dK n=true) (h':Ig.dK d=false) :
 aT 157 #[.agg #[.string ⟨n.toArray⟩,.string ⟨d.toArray⟩]] w (.bool false):=by
 have hV:=fun w0=>iV n hn w0
 have hV':=fun w0=>iV d hd w0
 rw[h]at hV;rw [h']at hV';have hb:=aA w (.cells #[.string ⟨n.toArray⟩,.string ⟨d.toArray⟩] 77);have hB:=Bx.mk w 77 #[.string ⟨n.toArray⟩,.string ⟨d.toArray⟩];have c1:=hB.cell 1 rfl
 go_enter Tryz.func157,Tryz.ntmps157
 go_wp2_with fail;refine (hV _).mono ?_;rintro _ w1 ⟨rfl,hb1⟩;replace hb:=ah hb hb1;replace hB:=hB.call hb1;have c1:=hB.cell 1 rfl;go_wp2_with fail;refine (hV' _).mono ?_;rintro _ w2 ⟨rfl,hb1⟩;replace hb:=ah hb hb1;clear hV hV';go_wp2;go_ret;exact ⟨rfl,hb⟩
theorem zh (x y:Int) (w:World) (hx:Ig.fits x) (hy:Ig.fits y) (hE:Env w) :
 aT 157 #[.agg #[.string ⟨(Lib.itoa x).toArray⟩,.string ⟨(Lib.itoa y).toArray⟩]] w (.bool (decide (0<y)&&decide (Nat.gcd x.natAbs y.natAbs=1))):=by
 have hV:=fun w0=>iV (Lib.itoa x) (bJ hx) w0
 have hV':=fun w0=>iV (Lib.itoa y) (bJ hy) w0
 rw[Ig.eX hx]at hV;rw [Ig.eX hy]at hV';have hC:=fun w0=>jh y 0 w0 hy uN
 rw[oq]at hC;have hG:=fun w0 hE=>DJ x y w0 hx hy hE
 have h1:=Qm ((Nat.gcd x.natAbs y.natAbs:Nat):Int);have h2:decide (((Nat.gcd x.natAbs y.natAbs:Nat):Int)=1)=decide (Nat.gcd x.natAbs y.natAbs=1):=decide_eq_decide.2 (by omega);rw [h2]at h1
 have hc:decide (dJ y 0<=0)= !decide (0<y):=by
  unfold dJ
  by_cases h:0<y
  · rw[if_neg (by omega),if_pos h];simp[h]
  · by_cases h':y<0
    · rw[if_pos h'];simp[h]
    · rw[if_neg h',if_neg h];simp[h]
 generalize dJ y 0=cc at *;generalize Lib.itoa ((Nat.gcd x.natAbs y.natAbs:Nat):Int)=sg at *;generalize decide (Nat.gcd x.natAbs y.natAbs=1)=bg at *;generalize Lib.itoa x=n at *;generalize Lib.itoa y=d at *;generalize decide (0<y)=by0 at *;clear hx hy h2;have hb:=aA w (.cells #[.string ⟨n.toArray⟩,.string ⟨d.toArray⟩] 77);have hB:=Bx.mk w 77 #[.string ⟨n.toArray⟩,.string ⟨d.toArray⟩];have c0:=hB.cell 0 rfl;have c1:=hB.cell 1 rfl
 go_enter Tryz.func157,Tryz.ntmps157
 go_wp2_with fail;refine (hV _).mono ?_;rintro _ w1 ⟨rfl,hb1⟩;replace hb:=ah hb hb1;replace hB:=hB.call hb1;have c1:=hB.cell 1 rfl;go_wp2_with fail;refine (hV' _).mono ?_;rintro _ w2 ⟨rfl,hb1⟩;replace hb:=ah hb hb1;replace hB:=hB.call hb1;have c1:=hB.cell 1 rfl;clear hV hV';go_wp2_with fail;refine (hC _).mono ?_;rintro _ w3 ⟨rfl,hb1⟩;replace hb:=ah hb hb1;replace hB:=hB.call hb1;have c0:=hB.cell 0 rfl;have c1:=hB.cell 1 rfl;clear hC;cases by0
 · have t:decide (cc<=0)=true:=hc;clear hc hG;go_wp2;go_ret;exact ⟨rfl,hb⟩
 · have t:decide (cc<=0)=false:=hc;have hG2:=hG _ (hE.below hb);clear hc hG;go_wp2_with fail;refine hG2.mono ?_;rintro _ w4 ⟨rfl,hb1⟩;replace hb:=ah hb hb1;clear hG2;go_wp2;go_ret;exact ⟨rfl,hb⟩
theorem nG (n d:List UInt8) (w:World) (hn:n.length<=1000000) (hd:d.length<=1000000) (hE:Env w) :
 aT 157 #[.agg #[.string ⟨n.toArray⟩,.string ⟨d.toArray⟩]] w (.bool (Rq.okB n d)):=by
 by_cases h1:Ig.dK n=true
 · by_cases h2:Ig.dK d=true
   · obtain⟨x,rfl,hx⟩:=Ig.nT h1;obtain ⟨y,rfl,hy⟩:=Ig.nT h2;have h:=zh x y w hx hy hE;by_cases hq:0<y/\Nat.gcd x.natAbs y.natAbs=1
     · obtain⟨q,e1,e2⟩:=Rq.DY hq.1 hq.2;rw [Rq.xO ⟨q,⟨by rw[e1];exact hx,by rw[e2];exact hy⟩,by rw[e1],by rw[e2]⟩];rw [decide_eq_true hq.1,decide_eq_true hq.2]at h;exact h
     · have h3:¬Rq.Ut (Lib.itoa x) (Lib.itoa y):=by
        rintro ⟨q,-,e1,e2⟩;have e1:=Ig.dX e1;have e2:=Ig.dX e2;subst e1;subst e2;exact hq ⟨Rq.sV q,Rq.W_ q⟩
       rw[Rq.iD h3]
       have h4:(decide (0<y)&&decide (Nat.gcd x.natAbs y.natAbs=1))=false:=by
        by_cases h5:0<y
        · rw[decide_eq_false (fun h6=>hq ⟨h5,h6⟩),Bool.and_false]
        · rw[decide_eq_false h5,Bool.false_and]
       rw[h4]at h;exact h
   · have h3:¬Rq.Ut n d:=by
      rintro ⟨q,hf,-,rfl⟩;exact h2 (Ig.eX hf.den)
     rw[Rq.iD h3];exact FZ n d w hn hd h1 (by simpa using h2)
 · have h3:¬Rq.Ut n d:=by
    rintro ⟨q,hf,rfl,-⟩;exact h1 (Ig.eX hf.num)
   rw[Rq.iD h3];exact F5 n d w hn (by simpa using h1)
def LQ (q:Rat) (n d:List UInt8):Prop:=Kp (Lib.itoa q.num=n/\Lib.itoa (q.den:Int)=d)
theorem LQ.eq {q:Rat} {n d:List UInt8} (h:LQ q n d):QV q=.agg #[.string ⟨n.toArray⟩,.string ⟨d.toArray⟩]:=by
 rw[←h.out.1,←h.out.2];rfl
theorem LQ.ex (q:Rat):∃n d,LQ q n d:=⟨_,_,⟨rfl,rfl⟩⟩
theorem L_ (z:Int):Lib.itoa z≠[]:=by
 by_cases h:0<=z
 · rw[Ig.itoa_nonneg h];have:=Ig.Dj z.natAbs;intro h2;exact this (by simpa using h2)
 · rw[Ig.itoa_neg (by omega)];simp
theorem PN:Rq.okB [] []=false:=Rq.iD (fun ⟨q,_,e,_⟩=>L_ _ e.symm)
end Go.Proofs.YtohgjenaclfegaaGreatDoor
namespace Rq
def Sz (k:Nat) (z:Int):Prop:=z.natAbs<10 ^ k
theorem Sz.mono {j k:Nat} {z:Int} (h:Sz j z) (hk:j<=k):Sz k z:=Nat.lt_of_lt_of_le h (Nat.pow_le_pow_right (by decide) hk)
theorem Sz.fits {k:Nat} {z:Int} (h:Sz k z) (hk:k<=200):Ig.fits z:=h.mono hk
theorem Sz.add {k:Nat} {x y:Int} (hx:Sz k x) (hy:Sz k y):Sz (k+1) (x+y):=by
 unfold Sz at *
 rw[Nat.pow_succ];omega
theorem Sz.neg {k:Nat} {x:Int} (hx:Sz k x):Sz k (-x):=by unfold Sz at *;omega
theorem Sz.mul {j k:Nat} {x y:Int} (hx:Sz j x) (hy:Sz k y):Sz (j+k) (x*y):=by
 unfold Sz at *
 rw[Int.natAbs_mul,Nat.pow_add];exact Nat.mul_lt_mul'' hx hy
theorem UM:Sz 1 0:=by unfold Sz;decide
structure Qz (j k:Nat) (q:Rat):Prop where
 num:Sz j q.num
 den:Sz k (q.den:Int)
theorem Qz.fq {j k:Nat} {q:Rat} (h:Qz j k q) (hj:j<=200) (hk:k<=200):Fq q:=⟨h.num.fits hj,h.den.fits hk⟩
theorem Qz.mono {j k j' k':Nat} {q:Rat} (h:Qz j k q) (hj:j<=j') (hk:k<=k'):Qz j' k' q:=⟨h.num.mono hj,h.den.mono hk⟩
def kV (x y:Rat):Int:=Go.Proofs.YtohgjenaclfegaaGreatDoor.dJ (x.num*y.den) (y.num*x.den)
theorem Z8 {x y:Rat}:kV x y= -1↔x<y:=by
 rw[Rat.lt_iff]
 unfold kV Go.Proofs.YtohgjenaclfegaaGreatDoor.dJ
 split
 · simp[*]
 · split <;> simp[*]
theorem Sj {x y:Rat}:kV x y=1↔y<x:=by
 rw[Rat.lt_iff]
 unfold kV Go.Proofs.YtohgjenaclfegaaGreatDoor.dJ
 split
 · simp;omega
 · split <;> simp[*]
theorem cmp_eq {x y:Rat}:kV x y=0↔x=y:=by
 have h:=Rat.divInt_eq_divInt_iff (n₁:=x.num) (n₂:=y.num) (pV x) (pV y);rw [Rat.num_divInt_den,Rat.num_divInt_den]at h;rw [h]
 unfold kV Go.Proofs.YtohgjenaclfegaaGreatDoor.dJ
 split
 · simp;omega
 · split <;> simp <;> omega
theorem jC (x y:Rat):(kV x y= -1/\x<y)∨(kV x y=0/\x=y)∨(kV x y=1/\y<x):=by
 have h:kV x y= -1∨kV x y=0∨kV x y=1:=by
  unfold kV Go.Proofs.YtohgjenaclfegaaGreatDoor.dJ
  split
  · simp
  · split <;> simp
 rcases h with h|h|h
 · exact .inl ⟨h,Z8.1 h⟩
 · exact .inr (.inl ⟨h,cmp_eq.1 h⟩)
 · exact .inr (.inr ⟨h,Sj.1 h⟩)
end Rq
namespace Go.Proofs.YtohgjenaclfegaaGreatDoor
open Go.RowKit Go.Shelf
structure Wk (w0 W:World) (g:Nat) (bad:Bool):Prop where
 hb:Below w0.heap.size w0 W
 ge:w0.heap.size<=g
 bx:Bx W g 191 #[.bool bad]
section
variable {w0 W W':World} {g:Nat} {bad:Bool}
theorem Wk.call (h:Wk w0 W g bad) (hb:Below W.heap.size W W'):Wk w0 W' g bad:=⟨ah h.hb hb,h.ge,h.bx.call hb⟩
theorem Wk.cell (h:Wk w0 W g bad):W.cell? ⟨g,0,none⟩=some (.bool bad):=h.bx.cell 0 rfl
theorem Wk.frozen (h:Wk w0 W g bad):W.frozen? ⟨g,0,none⟩=false:=h.bx.frozen 0
theorem Wk.set (h:Wk w0 W g bad) (b:Bool):Wk w0 (W.setCell ⟨g,0,none⟩ (.bool b)) g b:=⟨aK h.hb h.ge _,h.ge,by simpa using h.bx.set 0 (.bool b)⟩
theorem Wk.far (h:Wk w0 W g bad) {p:Addr} (hp:g≠p.block) (hp2:w0.heap.size<=p.block) (u:Value):Wk w0 (W.setCell p u) g bad:=⟨aK h.hb hp2 _,h.ge,h.bx.far hp u⟩
end
structure Ks (g:Nat) (W W':World):Prop where
 size:W.heap.size<=W'.heap.size
 same:∀k,k<W.heap.size->k≠g->W'.heap[k]? = W.heap[k]?
theorem Ks.of {g:Nat} {W W':World} (h:Below W.heap.size W W'):Ks g W W':=⟨h.size,fun k hk _=>h.block k hk⟩
theorem Ks.set {g:Nat} {W W':World} (h:Ks g W W') (hg:g<W'.heap.size) (u:Value):Ks g W (W'.setCell ⟨g,0,none⟩ u) :=
 ⟨Nat.le_trans h.size (by simp[World.setCell]),fun k hk hne=>(Below.heap_setCell W' ⟨g,0,none⟩ u k hne).trans (h.same k hk hne)⟩
theorem Ks.trans {g:Nat} {W W' W'':World} (h:Ks g W W') (h':Ks g W' W''):Ks g W W'' :=
 ⟨Nat.le_trans h.size h'.size,fun k hk hne=>(h'.same k (Nat.lt_of_lt_of_le hk h.size) hne).trans (h.same k hk hne)⟩
theorem Bx.ks {g k:Nat} {W W':World} {t:TypeId} {cs:Array Value} (h:Bx W k t cs) (hk:Ks g W W') (hne:k≠g):Bx W' k t cs:=(hk.same k h.lt hne).trans h
theorem MV (a b:List UInt8) (w0 W:World) (g:Nat) (h:Wk w0 W g true) :
 Calls Tryz.prog 151 #[.pointer (some ⟨g,0,none⟩),.func (.func 170) #[] #[],.string ⟨a.toArray⟩,.string ⟨b.toArray⟩] W fun e w'=>e=.returned (.string ⟨#[]⟩)/\w'=W:=by
 have hc:=h.cell
 go_enter Tryz.func151,Tryz.ntmps151
 go_wp2;go_ret;exact ⟨rfl,rfl⟩
theorem Ir (a b s:List UInt8) (e:Int) (w0 W:World) (g:Nat) (h:Wk w0 W g false)
 (hop:∀W',Below w0.heap.size w0 W'->aT 170 #[.string ⟨a.toArray⟩,.string ⟨b.toArray⟩] W' (.tuple #[.string ⟨s.toArray⟩,.int .i64 e])) :
 Calls Tryz.prog 151 #[.pointer (some ⟨g,0,none⟩),.func (.func 170) #[] #[],.string ⟨a.toArray⟩,.string ⟨b.toArray⟩] W fun e' w'=>e'=.returned (.string ⟨s.toArray⟩)/\Wk w0 w' g (e != 0)/\Ks g W w':=by
 have hc:=h.cell;have hO:=hop W h.hb;clear hop
 go_enter Tryz.func151,Tryz.ntmps151
 go_wp2_with fail;refine hO.mono ?_;rintro _ w1 ⟨rfl,hb1⟩;have h1:=h.call hb1;have hc1:=h1.cell;have hf1:=h1.frozen;have h2:=h1.set (e != 0);have hk:=(Ks.of (g:=g) hb1).set h1.bx.lt (.bool (e != 0));clear hO hc h hb1;go_wp2;go_ret;exact ⟨rfl,h2,hk⟩
theorem yI (a b s:List UInt8) (e:Int) (w0 W:World) (g:Nat) (h:Wk w0 W g false)
 (hop:∀W',Below w0.heap.size w0 W'->aT 152 #[.string ⟨a.toArray⟩,.string ⟨b.toArray⟩] W' (.tuple #[.string ⟨s.toArray⟩,.int .i64 e])) :
 Calls Tryz.prog 151 #[.pointer (some ⟨g,0,none⟩),.func (.func 152) #[] #[],.string ⟨a.toArray⟩,.string ⟨b.toArray⟩] W fun e' w'=>e'=.returned (.string ⟨s.toArray⟩)/\Wk w0 w' g (e != 0)/\Ks g W w':=by
 have hc:=h.cell;have hO:=hop W h.hb;clear hop
 go_enter Tryz.func151,Tryz.ntmps151
 go_wp2_with fail;refine hO.mono ?_;rintro _ w1 ⟨rfl,hb1⟩;have h1:=h.call hb1;have hc1:=h1.cell;have hf1:=h1.frozen;have h2:=h1.set (e != 0);have hk:=(Ks.of (g:=g) hb1).set h1.bx.lt (.bool (e != 0));clear hO hc h hb1;go_wp2;go_ret;exact ⟨rfl,h2,hk⟩
theorem yJ (a b s:List UInt8) (e:Int) (w0 W:World) (g:Nat) (h:Wk w0 W g false)
 (hop:∀W',Below w0.heap.size w0 W'->aT 153 #[.string ⟨a.toArray⟩,.string ⟨b.toArray⟩] W' (.tuple #[.string ⟨s.toArray⟩,.int .i64 e])) :
 Calls Tryz.prog 151 #[.pointer (some ⟨g,0,none⟩),.func (.func 153) #[] #[],.string ⟨a.toArray⟩,.string ⟨b.toArray⟩] W fun e' w'=>e'=.returned (.string ⟨s.toArray⟩)/\Wk w0 w' g (e != 0)/\Ks g W w':=by
 have hc:=h.cell;have hO:=hop W h.hb;clear hop
 go_enter Tryz.func151,Tryz.ntmps151
 go_wp2_with fail;refine hO.mono ?_;rintro _ w1 ⟨rfl,hb1⟩;have h1:=h.call hb1;have hc1:=h1.cell;have hf1:=h1.frozen;have h2:=h1.set (e != 0);have hk:=(Ks.of (g:=g) hb1).set h1.bx.lt (.bool (e != 0));clear hO hc h hb1;go_wp2;go_ret;exact ⟨rfl,h2,hk⟩
theorem MW (a b:List UInt8) (w0 W:World) (g:Nat) (h:Wk w0 W g true) :
 Calls Tryz.prog 151 #[.pointer (some ⟨g,0,none⟩),.func (.func 223) #[] #[],.string ⟨a.toArray⟩,.string ⟨b.toArray⟩] W fun e w'=>e=.returned (.string ⟨#[]⟩)/\w'=W:=by
 have hc:=h.cell
 go_enter Tryz.func151,Tryz.ntmps151
 go_wp2;go_ret;exact ⟨rfl,rfl⟩
theorem Iu (a b s:List UInt8) (e:Int) (w0 W:World) (g:Nat) (h:Wk w0 W g false)
 (hop:∀W',Below w0.heap.size w0 W'->aT 223 #[.string ⟨a.toArray⟩,.string ⟨b.toArray⟩] W' (.tuple #[.string ⟨s.toArray⟩,.int .i64 e])) :
 Calls Tryz.prog 151 #[.pointer (some ⟨g,0,none⟩),.func (.func 223) #[] #[],.string ⟨a.toArray⟩,.string ⟨b.toArray⟩] W fun e' w'=>e'=.returned (.string ⟨s.toArray⟩)/\Wk w0 w' g (e != 0)/\Ks g W w':=by
 have hc:=h.cell;have hO:=hop W h.hb;clear hop
 go_enter Tryz.func151,Tryz.ntmps151
 go_wp2_with fail;refine hO.mono ?_;rintro _ w1 ⟨rfl,hb1⟩;have h1:=h.call hb1;have hc1:=h1.cell;have hf1:=h1.frozen;have h2:=h1.set (e != 0);have hk:=(Ks.of (g:=g) hb1).set h1.bx.lt (.bool (e != 0));clear hO hc h hb1;go_wp2;go_ret;exact ⟨rfl,h2,hk⟩
theorem Iq (a b s:List UInt8) (e:Int) (w0 W:World) (g:Nat) (h:Wk w0 W g false)
 (hop:∀W',Below w0.heap.size w0 W'->aT 219 #[.string ⟨a.toArray⟩,.string ⟨b.toArray⟩] W' (.tuple #[.string ⟨s.toArray⟩,.int .i64 e])) :
 Calls Tryz.prog 151 #[.pointer (some ⟨g,0,none⟩),.func (.func 219) #[] #[],.string ⟨a.toArray⟩,.string ⟨b.toArray⟩] W fun e' w'=>e'=.returned (.string ⟨s.toArray⟩)/\Wk w0 w' g (e != 0)/\Ks g W w':=by
 have hc:=h.cell;have hO:=hop W h.hb;clear hop
 go_enter Tryz.func151,Tryz.ntmps151
 go_wp2_with fail;refine hO.mono ?_;rintro _ w1 ⟨rfl,hb1⟩;have h1:=h.call hb1;have hc1:=h1.cell;have hf1:=h1.frozen;have h2:=h1.set (e != 0);have hk:=(Ks.of (g:=g) hb1).set h1.bx.lt (.bool (e != 0));clear hO hc h hb1;go_wp2;go_ret;exact ⟨rfl,h2,hk⟩
theorem Vj (a b:List UInt8) (w0 W:World) (g:Nat) (h:Wk w0 W g true) :
 Calls Tryz.prog 211 #[.pointer (some ⟨g,0,none⟩),.string ⟨a.toArray⟩,.string ⟨b.toArray⟩] W fun e w'=>e=.returned (.string ⟨#[]⟩)/\w'=W:=by
 have hD:=MV a b w0 W g h;clear h
 go_enter Tryz.func211,Tryz.ntmps211
 go_wp2_with fail;refine hD.mono ?_;rintro _ w1 ⟨rfl,rfl⟩;clear hD;go_wp2;go_ret;exact ⟨rfl,rfl⟩
end Go.Proofs.YtohgjenaclfegaaGreatDoor
namespace Rq
theorem Es {n d:Int} (hd:d≠0) (hn:Ig.fits n) (hf:Ig.fits d):Fq (Rat.divInt n d):=by
 have key:∀ {n d:Int},0<d->Ig.fits n->Ig.fits d->Fq (Rat.divInt n d):=fun {n d} h hn hf=>by
  have h1:=xY (n:=n) h;refine ⟨?_,?_⟩
  · rw[h1.1];exact Go.Proofs.YtohgjenaclfegaaGreatDoor.jT _ hn
  · rw[h1.2];exact Go.Proofs.YtohgjenaclfegaaGreatDoor.jT _ hf
 have hneg:∀ {z:Int},Ig.fits z->Ig.fits (0-z):=fun h=>by unfold Ig.fits at *;omega
 by_cases h:0<d
 · exact key h hn hf
 · rw[EI];exact key (by omega) (hneg hn) (hneg hf)
end Rq
namespace Go.Proofs.YtohgjenaclfegaaGreatDoor
open Go.RowKit Go.Shelf
def QZ:Value:=.agg #[.string ⟨#[]⟩,.string ⟨#[]⟩]
theorem rP (x y:Int) (w0 W:World) (g:Nat) (hx:Ig.fits x) (hy:Ig.fits y) (hy0:y≠0) (hE:Env w0) (h:Wk w0 W g false) :
 Calls Tryz.prog 154 #[.pointer (some ⟨g,0,none⟩),.string ⟨(Lib.itoa x).toArray⟩,.string ⟨(Lib.itoa y).toArray⟩] W fun e w'=>e=.returned (.string ⟨(Lib.itoa (x / y)).toArray⟩)/\Wk w0 w' g false/\Ks g W w':=by
 have hop:∀W',Below w0.heap.size w0 W'->aT 219 #[.string ⟨(Lib.itoa x).toArray⟩,.string ⟨(Lib.itoa y).toArray⟩] W' (.tuple #[.string ⟨(Lib.itoa (x / y)).toArray⟩,.int .i64 0]):=by
  intro W' hb;have hD:=uo x y W' hx hy hy0 (hE.below hb);clear h hx hy;generalize Lib.itoa (x / y)=q at *;generalize Lib.itoa (x % y)=r at *;generalize Lib.itoa x=sx at *;generalize Lib.itoa y=sy at *;clear hb hE hy0
  go_enter Tryz.func219,Tryz.ntmps219
  go_wp2_with fail;refine hD.mono ?_;rintro _ w1 ⟨rfl,hb1⟩;clear hD;go_wp2
  go_ret2
  exact⟨rfl,hb1⟩
 have hD:=Iq _ _ _ 0 w0 W g h hop;clear hop h hx hy hy0;generalize Lib.itoa (x / y)=q at *;generalize Lib.itoa x=sx at *;generalize Lib.itoa y=sy at *
 go_enter Tryz.func154,Tryz.ntmps154
 go_wp2_with fail;refine hD.mono ?_;rintro _ w1 ⟨rfl,hw,hk⟩;clear hD;go_wp2;go_ret;exact ⟨rfl,hw,hk⟩
theorem wI (x y:Int) (w0 W:World) (g:Nat) (hx:Ig.fits x) (hy:Ig.fits y) (hE:Env w0) (h:Wk w0 W g false) :
 Calls Tryz.prog 211 #[.pointer (some ⟨g,0,none⟩),.string ⟨(Lib.itoa x).toArray⟩,.string ⟨(Lib.itoa y).toArray⟩] W fun e w'=>e=.returned (.string ⟨(Ig.iL (x*y)).toArray⟩)/\Wk w0 w' g (Ig.resE (x*y) != 0)/\Ks g W w':=by
 have hD:=Ir _ _ _ _ w0 W g h (fun W' hb=>KL x y W' hx hy (hE.below hb));clear h hx hy;generalize Ig.iL (x*y)=p at *;generalize Ig.resE (x*y)=e at *;generalize Lib.itoa x=sx at *;generalize Lib.itoa y=sy at *
 go_enter Tryz.func211,Tryz.ntmps211
 go_wp2_with fail;refine hD.mono ?_;rintro _ w1 ⟨rfl,hw,hk⟩;clear hD;go_wp2;go_ret;exact ⟨rfl,hw,hk⟩
theorem nZ (x y:Int) (w0 W:World) (g:Nat) (hx:Ig.fits x) (hy:Ig.fits y) (hxy:Ig.fits (x*y)) (hE:Env w0) (h:Wk w0 W g false) :
 Calls Tryz.prog 211 #[.pointer (some ⟨g,0,none⟩),.string ⟨(Lib.itoa x).toArray⟩,.string ⟨(Lib.itoa y).toArray⟩] W fun e w'=>e=.returned (.string ⟨(Lib.itoa (x*y)).toArray⟩)/\Wk w0 w' g false/\Ks g W w':=by
 have h1:=wI x y w0 W g hx hy hE h;rw [Ig.dQ hxy,Ig.fC hxy]at h1;exact h1
theorem PZ (x y:Int) (w0 W:World) (g:Nat) (hx:Ig.fits x) (hy:Ig.fits y) (hxy:¬Ig.fits (x*y)) (hE:Env w0) (h:Wk w0 W g false) :
 Calls Tryz.prog 211 #[.pointer (some ⟨g,0,none⟩),.string ⟨(Lib.itoa x).toArray⟩,.string ⟨(Lib.itoa y).toArray⟩] W fun e w'=>e=.returned (.string ⟨#[]⟩)/\Wk w0 w' g true/\Ks g W w':=by
 have h1:=wI x y w0 W g hx hy hE h;rw [Ig.OW hxy,Ig.Ej hxy]at h1;exact h1
theorem bG {fn:Func} {t u:Tmp} {g:Nat} {n d:ByteArray} {e:Value} (h:fn.results=#[.cell t 77,.tmp u]) (tmps:Array Value) (w:World) (ht:tmps.getD t undef=.pointer (some ⟨g,0,none⟩)) (hu:tmps.getD u undef=e) (hB:Bx w g 77 #[.string n,.string d]) :
 (results fn tmps).run Tryz.prog w=.ok (.tuple #[.agg #[.string n,.string d],e]) w:=by
 have h0:=hB.cell 0 rfl;have h1:=hB.cell 1 rfl;have ht':tmps[t]?.getD undef=.pointer (some ⟨g,0,none⟩):=by simpa using ht
 have hu':tmps[u]?.getD undef=e:=by simpa using hu
 simp only[results,h];simp [go_sem,ht',hu',h0,h1,loadVar]
structure Rs (w0 W:World) (g gr:Nat) (bad:Bool) (n d:ByteArray):Prop where
 wk:Wk w0 W g bad
 ne:g≠gr
 ge:w0.heap.size<=gr
 bx:Bx W gr 77 #[.string n,.string d]
section
variable {w0 W W':World} {g gr:Nat} {bad:Bool} {n d:ByteArray}
theorem Rs.mk' (h:Wk w0 W g bad):Rs w0 (W.alloc (.cells #[.string n,.string d] 77)) g W.heap.size bad n d :=
 ⟨h.call (aA W _),Nat.ne_of_lt h.bx.lt,h.hb.size,Bx.mk _ _ _⟩
theorem Rs.step (h:Rs w0 W g gr bad n d) {b:Bool} (hw:Wk w0 W' g b) (hk:Ks g W W'):Rs w0 W' g gr b n d:=⟨hw,h.ne,h.ge,h.bx.ks hk (fun e=>h.ne e.symm)⟩
theorem Rs.call (h:Rs w0 W g gr bad n d) (hb:Below W.heap.size W W'):Rs w0 W' g gr bad n d:=⟨h.wk.call hb,h.ne,h.ge,h.bx.call hb⟩
theorem Rs.set (h:Rs w0 W g gr bad n d) (n' d':ByteArray):Rs w0 ((W.setCell ⟨gr,0,none⟩ (.string n')).setCell ⟨gr,1,none⟩ (.string d')) g gr bad n' d':=by
 refine⟨(h.wk.far (p:=⟨gr,0,none⟩) h.ne h.ge _).far (p:=⟨gr,1,none⟩) h.ne h.ge _,h.ne,h.ge,?_⟩;have:=(h.bx.set 0 (.string n')).set 1 (.string d');simpa using this
end
theorem Ep (n d:List UInt8) (w0 W:World) (g:Nat) (h:Wk w0 W g true) :
 Calls Tryz.prog 98 #[.pointer (some ⟨g,0,none⟩),.string ⟨n.toArray⟩,.string ⟨d.toArray⟩] W fun e w'=>e=.returned (.tuple #[QZ,.int .i64 40])/\Below w0.heap.size w0 w':=by
 unfold QZ
 have h0:=Rs.mk' (n:=⟨#[]⟩) (d:=⟨#[]⟩) h;have hc:=h0.wk.cell;have f0:=h0.bx.frozen 0;have f1:=h0.bx.frozen 1;clear h
 go_enter Tryz.func98,Tryz.ntmps98
 go_wp2;refine bodyPost_ret (bG rfl _ _ rfl rfl h0.bx) rfl ⟨rfl,h0.wk.hb⟩
theorem vJ {n d:Int} (hd:d≠0):((Nat.gcd n.natAbs d.natAbs:Nat):Int)≠0:=by
 intro h;have:=Nat.eq_zero_of_gcd_eq_zero_right (show Nat.gcd n.natAbs d.natAbs=0 by omega);omega
theorem En (n d:Int) (w0 W:World) (g:Nat) (hn:Ig.fits n) (hf:Ig.fits d) (hd:0<d) (hE:Env w0) (h:Wk w0 W g false) :
 Calls Tryz.prog 98 #[.pointer (some ⟨g,0,none⟩),.string ⟨(Lib.itoa n).toArray⟩,.string ⟨(Lib.itoa d).toArray⟩] W fun e w'=>e=.returned (.tuple #[QV (Rat.divInt n d),.int .i64 0])/\Below w0.heap.size w0 w':=by
 unfold QV
 have e:=Rq.xY (n:=n) hd;rw [e.1,e.2];have h0:=Rs.mk' (n:=⟨#[]⟩) (d:=⟨#[]⟩) h;have hc:=h0.wk.cell;have hne:(Lib.itoa d==[48])=false:=by rw[lI];exact decide_eq_false (by omega)
 have hC:=fun w1=>jh d 0 w1 hf uN
 rw[oq]at hC;have hlt:decide (dJ d 0<0)=false:=decide_eq_false (by unfold dJ;rw[if_neg (by omega),if_pos (by omega)];decide);have hG:=fun w1 hw=>yJ _ _ _ 0 w0 w1 g hw (fun W' hb=>DJ n d W' hn hf (hE.below hb))
 have hg:=yG hn hf;have hg0:=vJ (n:=n) (d:=d) (by omega);have hQ1:=fun w1 hw=>rP n _ w0 w1 g hn hg hg0 hE hw
 have hQ2:=fun w1 hw=>rP d _ w0 w1 g hf hg hg0 hE hw
 generalize dJ d 0=cc at *;generalize ((Nat.gcd n.natAbs d.natAbs:Nat):Int)=gg at *;generalize Lib.itoa (n / gg)=sn at *;generalize Lib.itoa (d / gg)=sd at *;generalize Lib.itoa gg=sg at *;generalize Lib.itoa n=sn0 at *;generalize Lib.itoa d=sd0 at *;clear e hn hf hd hg hg0 h
 go_enter Tryz.func98,Tryz.ntmps98
 go_wp2_with fail;refine (hC _).mono ?_;rintro _ w1 ⟨rfl,hb1⟩;have h1:=h0.call hb1;clear hC h0 hc hb1;go_wp2_with fail;refine (hG _ h1.wk).mono ?_;rintro _ w2 ⟨rfl,hw2,hk2⟩;have h2:=h1.step hw2 hk2;clear hG h1 hw2 hk2;go_wp2_with fail;refine (hQ1 _ h2.wk).mono ?_;rintro _ w3 ⟨rfl,hw3,hk3⟩;have h3:=h2.step hw3 hk3;clear hQ1 h2 hw3 hk3;go_wp2_with fail;refine (hQ2 _ h3.wk).mono ?_;rintro _ w4 ⟨rfl,hw4,hk4⟩;have h4:=h3.step hw4 hk4;clear hQ2 h3 hw4 hk4;have h5:=h4.call (aA w4 (.cells #[.string ⟨sn.toArray⟩,.string ⟨sd.toArray⟩] 77));have B5:=Bx.mk w4 77 #[.string ⟨sn.toArray⟩,.string ⟨sd.toArray⟩];have c0:=B5.cell 0 rfl;have c1:=B5.cell 1 rfl;have hc5:=h5.wk.cell;have r0:=h5.bx.cell 0 rfl;have r1:=h5.bx.cell 1 rfl;have f0:=h5.bx.frozen 0;have f1:=h5.bx.frozen 1;have h6:=h5.set ⟨sn.toArray⟩ ⟨sd.toArray⟩;clear h4;go_wp2;refine bodyPost_ret (bG rfl _ _ rfl rfl h6.bx) rfl ⟨rfl,h6.wk.hb⟩
theorem Eo (n d:Int) (w0 W:World) (g:Nat) (hn:Ig.fits n) (hf:Ig.fits d) (hd:d<0) (hE:Env w0) (h:Wk w0 W g false) :
 Calls Tryz.prog 98 #[.pointer (some ⟨g,0,none⟩),.string ⟨(Lib.itoa n).toArray⟩,.string ⟨(Lib.itoa d).toArray⟩] W fun e w'=>e=.returned (.tuple #[QV (Rat.divInt n d),.int .i64 0])/\Below w0.heap.size w0 w':=by
 unfold QV
 have hneg:∀ {z:Int},Ig.fits z->Ig.fits (0-z):=fun h=>by unfold Ig.fits at *;omega
 have hS1:=fun w1 hw=>yI _ _ _ _ w0 w1 g hw (fun W' hb=>KG 0 n W' uN hn (hE.below hb))
 have hS2:=fun w1 hw=>yI _ _ _ _ w0 w1 g hw (fun W' hb=>KG 0 d W' uN hf (hE.below hb))
 rw[Ig.dQ (hneg hn),Ig.fC (hneg hn),oq]at hS1;rw [Ig.dQ (hneg hf),Ig.fC (hneg hf),oq]at hS2;have hlt:decide (dJ d 0<0)=true:=decide_eq_true (by unfold dJ;rw[if_pos (by omega)];decide);have hne:(Lib.itoa d==[48])=false:=by rw[lI];exact decide_eq_false (by omega)
 have hC:=fun w1=>jh d 0 w1 hf uN
 rw[oq]at hC;generalize dJ d 0=cc at *;rw [Rq.EI];replace hn:=hneg hn;replace hf:=hneg hf;clear hneg;generalize Lib.itoa n=so at *;generalize Lib.itoa d=sp at *;obtain ⟨n,rfl⟩:∃n',n=0-n':=⟨0-n,by omega⟩
 obtain⟨d,rfl⟩:∃d',d=0-d':=⟨0-d,by omega⟩
 rw[show 0-(0-n)=n by omega]at *;rw [show 0-(0-d)=d by omega]at *;replace hd:0<d:=by omega
 have e:=Rq.xY (n:=n) hd;rw [e.1,e.2];have h0:=Rs.mk' (n:=⟨#[]⟩) (d:=⟨#[]⟩) h;have hc:=h0.wk.cell;have hG:=fun w1 hw=>yJ _ _ _ 0 w0 w1 g hw (fun W' hb=>DJ n d W' hn hf (hE.below hb))
 have hg:=yG hn hf;have hg0:=vJ (n:=n) (d:=d) (by omega);have hQ1:=fun w1 hw=>rP n _ w0 w1 g hn hg hg0 hE hw
 have hQ2:=fun w1 hw=>rP d _ w0 w1 g hf hg hg0 hE hw
 generalize ((Nat.gcd n.natAbs d.natAbs:Nat):Int)=gg at *;generalize Lib.itoa (n / gg)=sn at *;generalize Lib.itoa (d / gg)=sd at *;generalize Lib.itoa gg=sg at *;generalize Lib.itoa n=sn0 at *;generalize Lib.itoa d=sd0 at *;clear e hn hf hd hg hg0 h
 go_enter Tryz.func98,Tryz.ntmps98
 go_wp2_with fail;refine (hC _).mono ?_;rintro _ w1 ⟨rfl,hb1⟩;have h1:=h0.call hb1;clear hC h0 hc hb1;go_wp2_with fail;refine (hS1 _ h1.wk).mono ?_;rintro _ wa ⟨rfl,Gl,hka⟩;replace h1:=h1.step Gl hka;clear hS1 Gl hka;go_wp2_with fail;refine (hS2 _ h1.wk).mono ?_;rintro _ wb ⟨rfl,hwb,hkb⟩;replace h1:=h1.step hwb hkb;clear hS2 hwb hkb;go_wp2_with fail;refine (hG _ h1.wk).mono ?_;rintro _ w2 ⟨rfl,hw2,hk2⟩;have h2:=h1.step hw2 hk2;clear hG h1 hw2 hk2;go_wp2_with fail;refine (hQ1 _ h2.wk).mono ?_;rintro _ w3 ⟨rfl,hw3,hk3⟩;have h3:=h2.step hw3 hk3;clear hQ1 h2 hw3 hk3;go_wp2_with fail;refine (hQ2 _ h3.wk).mono ?_;rintro _ w4 ⟨rfl,hw4,hk4⟩;have h4:=h3.step hw4 hk4;clear hQ2 h3 hw4 hk4;have h5:=h4.call (aA w4 (.cells #[.string ⟨sn.toArray⟩,.string ⟨sd.toArray⟩] 77));have B5:=Bx.mk w4 77 #[.string ⟨sn.toArray⟩,.string ⟨sd.toArray⟩];have c0:=B5.cell 0 rfl;have c1:=B5.cell 1 rfl;have hc5:=h5.wk.cell;have r0:=h5.bx.cell 0 rfl;have r1:=h5.bx.cell 1 rfl;have f0:=h5.bx.frozen 0;have f1:=h5.bx.frozen 1;have h6:=h5.set ⟨sn.toArray⟩ ⟨sd.toArray⟩;clear h4;go_wp2;refine bodyPost_ret (bG rfl _ _ rfl rfl h6.bx) rfl ⟨rfl,h6.wk.hb⟩
theorem rH (n d:Int) (w0 W:World) (g:Nat) (hn:Ig.fits n) (hf:Ig.fits d) (hd:d≠0) (hE:Env w0) (h:Wk w0 W g false) :
 Calls Tryz.prog 98 #[.pointer (some ⟨g,0,none⟩),.string ⟨(Lib.itoa n).toArray⟩,.string ⟨(Lib.itoa d).toArray⟩] W fun e w'=>e=.returned (.tuple #[QV (Rat.divInt n d),.int .i64 0])/\Below w0.heap.size w0 w':=by
 by_cases h0:0<d
 · exact En n d w0 W g hn hf h0 hE h
 · exact Eo n d w0 W g hn hf (by omega) hE h
noncomputable def zS (l:List (List UInt8 × List UInt8)):Bool:=l.any fun p=> !Rq.okB p.1 p.2
theorem Ns {l:List (List UInt8 × List UInt8)} {i:Nat} (h:i<l.length):zS (l.take (i+1))=(zS (l.take i)|| !Rq.okB l[i].1 l[i].2):=by
 unfold zS
 rw[List.take_succ_eq_append_getElem h,List.any_append];simp
theorem check_any (l:List (List UInt8 × List UInt8)) (cap gl:Nat) (cs:Array Value) (w0 W:World) (g:Nat) (bad:Bool) (hE:Env w0) (h:Wk w0 W g bad) (hne:g≠gl) (hB:Bx W gl 77 cs)
 (hcs:∀i (hi:i<l.length),cs[i*2]? = some (.string ⟨l[i].1.toArray⟩)/\cs[i*2+1]? = some (.string ⟨l[i].2.toArray⟩)/\l[i].1.length<=1000000/\l[i].2.length<=1000000) (hl:l.length<=1000) (hlc:l.length<=cap) :
 Calls Tryz.prog 210 #[.pointer (some ⟨g,0,none⟩),.slice (some ⟨gl,0,none⟩) l.length cap] W fun e w'=>(∃v,e=.returned v)/\Wk w0 w' g (bad||zS l):=by
 go_enter Tryz.func210,Tryz.ntmps210
 go_wp2_with fail
 go_loopw [5,8] (fun s5 s8 wr=>∃(i:Nat) (b:Bool),i<=l.length/\s8=.int .i64 i/\Wk w0 wr g b/\Bx wr gl 77 cs/\Kp (b=(bad||zS (l.take i)))) (fun s5 s8 wr=>l.length-(intOf s8).toNat)
 case atStart=>exact⟨0,bad,by omega,rfl,h,hB,⟨by simp[zS]⟩⟩
 case round =>
  clear h hB;obtain ⟨i,b,hi,rfl,hW,hB,hb⟩:=hrel;by_cases hil:i<l.length
  · obtain⟨h0,h1,l0,l1⟩:=hcs i hil;have c0:wr.cell? ⟨gl,i*2,none⟩=some (.string ⟨l[i].1.toArray⟩):=hB.cell _ h0;have c1:wr.cell? ⟨gl,i*2+1,none⟩=some (.string ⟨l[i].2.toArray⟩):=hB.cell _ h1;have hst:=Kp.mk (Ns hil);have hnext:∀b',b'=(b|| !Rq.okB l[i].1 l[i].2)->Kp (b'=(bad||zS (l.take (i+1)))):=fun b' h=>⟨by rw[h,hb.out,hst.out,Bool.or_assoc]⟩
    have hV:=fun w1 hE1=>nG l[i].1 l[i].2 w1 l0 l1 hE1
    have t0:decide (i<l.length)=true:=decide_eq_true hil;clear hst hb h0 h1 hcs;generalize Rq.okB l[i].1 l[i].2=ok at *;generalize l[i].1=p at *;generalize l[i].2=q at *;have VR:=hW.call (aA wr (.cells #[.string ⟨p.toArray⟩,.string ⟨q.toArray⟩] 77));have hBn:=hB.new (.cells #[.string ⟨p.toArray⟩,.string ⟨q.toArray⟩] 77);have Bx1:=Bx.mk wr 77 #[.string ⟨p.toArray⟩,.string ⟨q.toArray⟩];have x0:=Bx1.cell 0 rfl;have x1:=Bx1.cell 1 rfl;have hc:=VR.cell;have hf:=VR.frozen;cases b
    · have hVn:=hV _ (hE.below VR.hb);clear hV hW hB;go_wp2_with fail;refine hVn.mono ?_;rintro _ w3 ⟨rfl,hb3⟩;have hW3:=VR.call hb3;have hB3:=hBn.call hb3;clear hVn VR hBn hc hf hb3;have hc:=hW3.cell;have hf:=hW3.frozen;have NS:=hW3.set (!ok);have hB4:=hB3.far (p:=⟨g,0,none⟩) (fun e=>hne e.symm) (.bool (!ok));have hn:=hnext (!ok) (by simp);clear hW3 hB3 hnext;go_wp2;exact ⟨⟨i+1,!ok,by omega,by go_num,NS,hB4,hn⟩,by simp[intOf];omega⟩
    · have NS:=VR.set true;have hB4:=hBn.far (p:=⟨g,0,none⟩) (fun e=>hne e.symm) (.bool true);have hn:=hnext true (by simp);clear hV hW hB VR hBn hnext;go_wp2;exact ⟨⟨i+1,true,by omega,by go_num,NS,hB4,hn⟩,by simp[intOf];omega⟩
  · obtain rfl:i=l.length:=by omega
    have t0:decide (l.length<l.length)=false:=decide_eq_false hil;have hb2:Kp (b=(bad||zS l)):=⟨by rw[hb.out,List.take_length]⟩
    clear hb hcs;go_wp2;exact bodyPost_end (results_none rfl _ _ _) rfl ⟨⟨_,rfl⟩,hb2.out ▸ hW⟩
theorem Wk.new (w:World) (b:Bool):Wk w (w.alloc (.cells #[.bool b] 191)) w.heap.size b:=⟨aA _ _,Nat.le_refl _,Bx.mk _ _ _⟩
theorem DI (n d:Int) (w:World) (hn:Ig.fits n) (hf:Ig.fits d) (hd:d≠0) (hE:Env w) :
 aT 56 #[.string ⟨(Lib.itoa n).toArray⟩,.string ⟨(Lib.itoa d).toArray⟩] w (.tuple #[QV (Rat.divInt n d),.int .i64 0]):=by
 have hV1:=fun w0=>iV (Lib.itoa n) (bJ hn) w0
 have hV2:=fun w0=>iV (Lib.itoa d) (bJ hf) w0
 rw[Ig.eX hn]at hV1;rw [Ig.eX hf]at hV2;have hRR:=fun w2 hE2=>rH n d w2 _ _ hn hf hd hE2 (Wk.new w2 false)
 unfold QV at *
 generalize Lib.itoa (Rat.divInt n d).num=sa at *;generalize Lib.itoa ((Rat.divInt n d).den:Int)=sb at *;generalize Lib.itoa n=sn at *;generalize Lib.itoa d=sd at *;clear hn hf hd;have B:=Bx.mk w 77 #[.string ⟨#[]⟩,.string ⟨#[]⟩];have hb:=aA w (.cells #[.string ⟨#[]⟩,.string ⟨#[]⟩] 77)
 go_enter Tryz.func56,Tryz.ntmps56
 go_wp2_with fail;refine (hV1 _).mono ?_;rintro _ w1 ⟨rfl,hb1⟩;replace hb:=ah hb hb1;replace B:=B.call hb1;clear hV1 hb1;go_wp2_with fail;refine (hV2 _).mono ?_;rintro _ w2 ⟨rfl,hb1⟩;replace hb:=ah hb hb1;replace B:=B.call hb1;clear hV2 hb1;have hR:=hRR w2 (hE.below hb);clear hRR;go_wp2_with fail;refine hR.mono ?_;rintro _ w3 ⟨rfl,hb1⟩;replace hb:=ah hb hb1;replace B:=B.call hb1;clear hR hb1;have r0:=B.cell 0 rfl;have r1:=B.cell 1 rfl;have f0:=B.frozen 0;have f1:=B.frozen 1;have B2:=(B.set 0 (.string ⟨sa.toArray⟩)).set 1 (.string ⟨sb.toArray⟩);have hb2:=aK (aK hb (p:=⟨w.heap.size,0,none⟩) (Nat.le_refl _) (.string ⟨sa.toArray⟩)) (p:=⟨w.heap.size,1,none⟩) (Nat.le_refl _) (.string ⟨sb.toArray⟩);go_wp2
 first
  | exact bodyPost_ret (bG rfl _ _ rfl rfl B2) rfl ⟨rfl,hb2⟩
  | exact bodyPost_ret (bG rfl _ _ rfl rfl B) rfl ⟨rfl,hb⟩
theorem xW (a b:List UInt8) (w0 W:World) (g:Nat) (h:Wk w0 W g true) :
 Calls Tryz.prog 211 #[.pointer (some ⟨g,0,none⟩),.string ⟨a.toArray⟩,.string ⟨b.toArray⟩] W fun e w'=>e=.returned (.string ⟨#[]⟩)/\Wk w0 w' g true :=
 (Vj a b w0 W g h).mono fun _ _ ⟨h1,h2⟩=>⟨h1,h2 ▸ h⟩
theorem TB (a b c d:List UInt8):zS [(a,b),(c,d)]=(!Rq.okB a b|| !Rq.okB c d):=by simp[zS]
theorem zW (a1 a2 b1 b2:List UInt8) (W0:World) (g:Nat) (hg:W0.heap.size=g) (Vx:a1.length<=1000000) (Vw:a2.length<=1000000) (Vu:b1.length<=1000000) (Vt:b2.length<=1000000) (hE:Env W0) :
 Calls Tryz.prog 210 #[.pointer (some ⟨g,0,none⟩),.slice (some ⟨g+1,0,none⟩) 2 2] ((W0.alloc (.cells #[.bool false] 191)).alloc (.cells #[.string ⟨a1.toArray⟩,.string ⟨a2.toArray⟩,.string ⟨b1.toArray⟩,.string ⟨b2.toArray⟩] 77)) fun e w'=>(∃v,e=.returned v)/\Wk W0 w' g (!Rq.okB a1 a2|| !Rq.okB b1 b2):=by
 subst hg;have hw:=(Wk.new W0 false).call (aA (W0.alloc (.cells #[.bool false] 191)) (.cells #[.string ⟨a1.toArray⟩,.string ⟨a2.toArray⟩,.string ⟨b1.toArray⟩,.string ⟨b2.toArray⟩] 77));have hB:=Bx.mk (W0.alloc (.cells #[.bool false] 191)) 77 #[.string ⟨a1.toArray⟩,.string ⟨a2.toArray⟩,.string ⟨b1.toArray⟩,.string ⟨b2.toArray⟩];rw [aj]at hB
 have h:=check_any [(a1,a2),(b1,b2)] 2 (W0.heap.size+1) _ W0 _ _ false hE hw (by omega) hB (fun i hi=>by
  rcases (show i=0∨i=1 by simp at hi;omega) with rfl|rfl
  · exact⟨rfl,rfl,Vx,Vw⟩
  · exact⟨rfl,rfl,Vu,Vt⟩) (by simp) (by simp)
 rw[TB,Bool.false_or]at h;exact h
theorem d_ {z:Int} (h:Ig.fits z):(Lib.itoa z).length<=1000000:=bJ h
section
variable (w:World) (hE:Env w)
theorem rJ (n d:List UInt8) (w0 W:World) (g:Nat) (h:Wk w0 W g true) :
 Calls Tryz.prog 98 #[.pointer (some ⟨g,0,none⟩),.string ⟨n.toArray⟩,.string ⟨d.toArray⟩] W fun e w'=>e=.returned (.tuple #[.agg #[.string ⟨([]:List UInt8).toArray⟩,.string ⟨([]:List UInt8).toArray⟩],.int .i64 40])/\Below w0.heap.size w0 w' :=
 Ep n d w0 W g h
end
section
variable (a b:Rat) (w:World)
end
theorem Wk.RH {w0 W:World} {g:Nat} {b:Bool} (h:Wk w0 W g b) (n:Nat):Wk w0 { W with drawn:=n } g b:=⟨⟨h.hb.os,h.hb.tape,h.hb.output,h.hb.size,h.hb.block⟩,h.ge,h.bx⟩
theorem Wk.det {w0 W:World} {g:Nat} {b b':Bool} (h:Wk w0 W g b) (h':Wk w0 W g b'):b=b':=by
 have h1:=h.cell;rw [h'.cell]at h1;simpa using h1.symm
def K0 (W0:World) (g:Nat) (W W':World):Prop:=Wk W0 W g false->Wk W0 W' g false
theorem aad (W0:World) (g:Nat):RK.Cls (K0 W0 g):=⟨fun _ h=>h,fun h h' k=>h' (h k),fun _ n h=>h.RH n⟩
def K1 (W0:World) (g:Nat) (W W':World):Prop:=∀b,Wk W0 W g b->∃b',Wk W0 W' g b'/\(b=true->b'=true)
theorem K1.refl' (W0:World) (g:Nat) (W:World):K1 W0 g W W:=fun b h=>⟨b,h,fun h=>h⟩
theorem aac (W0:World) (g:Nat):RK.Cls (K1 W0 g) :=
 ⟨K1.refl' W0 g,fun h h' b k=>by
  obtain⟨b1,k1,e1⟩:=h b k;obtain ⟨b2,k2,e2⟩:=h' b1 k1
  exact⟨b2,k2,fun e=>e2 (e1 e)⟩,fun _ n b h=>⟨b,h.RH n,fun h=>h⟩⟩
theorem K1.to {W0:World} {g:Nat} {W W':World} {b b':Bool} (h:Wk W0 W g b) (h':Wk W0 W' g b') (he:b=true->b'=true):K1 W0 g W W':=fun c hc=>by
 have:=h.det hc;subst this;exact ⟨b',h',he⟩
def PB (W0:World) (g:Nat) (c:Bool) (x:List UInt8):Value->World->Prop:=fun v w=>∃y:List UInt8,v=.string ⟨y.toArray⟩/\(Wk W0 w g true∨(c=false/\y=x))
theorem UW (W0:World) (g:Nat) (c:Bool) (x:List UInt8):RK.dG (K1 W0 g) (PB W0 g c x):=fun v w w' ⟨y,hv,h⟩ hk=>by
 refine⟨y,hv,?_⟩
 rcases h with h|h
 · obtain⟨b',h',e⟩:=hk true h;rw [e rfl]at h';exact .inl h'
 · exact .inr h
end Go.Proofs.YtohgjenaclfegaaGreatDoor

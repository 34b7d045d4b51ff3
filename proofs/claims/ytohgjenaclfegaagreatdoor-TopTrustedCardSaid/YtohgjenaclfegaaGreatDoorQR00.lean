import Derived.Test.YtohgjenaclfegaaGreatDoorQI03
set_option linter.unusedVariables false
set_option linter.unusedSimpArgs false
set_option maxRecDepth 100000
set_option maxHeartbeats 8000000
namespace Rq
theorem Aq (n d:Int):((d.gcd n:Nat):Int)=((Nat.gcd n.natAbs d.natAbs:Nat):Int):=by
 rw[Nat.gcd_comm];rfl
theorem zV {n d:Int} (hd:0<d):(Rat.divInt n d).num=n / ((Nat.gcd n.natAbs d.natAbs:Nat):Int)/\((Rat.divInt n d).den:Int)=d / ((Nat.gcd n.natAbs d.natAbs:Nat):Int):=by
 refine⟨?_,?_⟩
 · rw[Rat.num_divInt,Int.sign_eq_one_of_pos hd,Int.one_mul,Aq]
 · rw[Rat.den_divInt,if_neg (by omega),Int.natCast_ediv,Aq]
   congr 1
   omega
theorem J9 {n d:Int}:Rat.divInt n d=Rat.divInt (0-n) (0-d):=by
 rw[Int.zero_sub,Int.zero_sub,Rat.neg_divInt_neg]
structure Fq (q:Rat):Prop where
 num:Ig.fits q.num
 den:Ig.fits (q.den:Int)
end Rq
namespace Go.Proofs.YtohgjenaclfegaaGreatDoor
open Go.RowKit Go.Shelf
def QV (q:Rat):Value:=.agg #[.string ⟨(Lib.itoa q.num).toArray⟩,.string ⟨(Lib.itoa (q.den:Int)).toArray⟩]
theorem z_ (y:Int):(Lib.itoa y==[48])=decide (y=0):=by
 have h0:Lib.itoa 0=[48]:=by decide +kernel
 rw[Bool.eq_iff_iff,beq_iff_eq,decide_eq_true_iff,←h0];exact ⟨fun h=>Ig.ug h,fun h=>by rw[h]⟩
theorem yH:Ig.fits 0:=by unfold Ig.fits;decide
theorem qC:Lib.itoa 0=[48]:=by decide +kernel
def LQ (q:Rat) (n d:List UInt8):Prop:=Kp (Lib.itoa q.num=n/\Lib.itoa (q.den:Int)=d)
theorem LQ.eq {q:Rat} {n d:List UInt8} (h:LQ q n d):QV q=.agg #[.string ⟨n.toArray⟩,.string ⟨d.toArray⟩]:=by
 rw[←h.out.1,←h.out.2];rfl
theorem LQ.ex (q:Rat):∃n d,LQ q n d:=⟨_,_,⟨rfl,rfl⟩⟩
end Go.Proofs.YtohgjenaclfegaaGreatDoor
namespace Rq
def Sz (k:Nat) (z:Int):Prop:=z.natAbs<10 ^ k
theorem Sz.mono {j k:Nat} {z:Int} (h:Sz j z) (hk:j<=k):Sz k z:=Nat.lt_of_lt_of_le h (Nat.pow_le_pow_right (by decide) hk)
theorem Sz.fits {k:Nat} {z:Int} (h:Sz k z) (hk:k<=200):Ig.fits z:=h.mono hk
theorem Sz.add {k:Nat} {x y:Int} (hx:Sz k x) (hy:Sz k y):Sz (k+1) (x+y):=by
 unfold Sz at *
 rw[Nat.pow_succ];omega
theorem Sz.neg {k:Nat} {x:Int} (hx:Sz k x):Sz k (-x):=by unfold Sz at *;omega
theorem Sz.mul {j k:Nat} {x y:Int} (hx:Sz j x) (hy:Sz k y):Sz (j+k) (x*y):=by
 unfold Sz at *
 rw[Int.natAbs_mul,Nat.pow_add];exact Nat.mul_lt_mul'' hx hy
theorem OE:Sz 1 0:=by unfold Sz;decide
structure Qz (j k:Nat) (q:Rat):Prop where
 num:Sz j q.num
 den:Sz k (q.den:Int)
theorem Qz.fq {j k:Nat} {q:Rat} (h:Qz j k q) (hj:j<=200) (hk:k<=200):Fq q:=⟨h.num.fits hj,h.den.fits hk⟩
theorem Qz.mono {j k j' k':Nat} {q:Rat} (h:Qz j k q) (hj:j<=j') (hk:k<=k'):Qz j' k' q:=⟨h.num.mono hj,h.den.mono hk⟩
end Rq
namespace Go.Proofs.YtohgjenaclfegaaGreatDoor
open Go.RowKit Go.Shelf
structure Wk (w0 W:World) (g:Nat) (bad:Bool):Prop where
 hb:Below w0.heap.size w0 W
 ge:w0.heap.size<=g
 bx:Bx W g 191 #[.bool bad]
section
variable {w0 W W':World} {g:Nat} {bad:Bool}
theorem Wk.call (h:Wk w0 W g bad) (hb:Below W.heap.size W W'):Wk w0 W' g bad:=⟨ah h.hb hb,h.ge,h.bx.call hb⟩
theorem Wk.cell (h:Wk w0 W g bad):W.cell? ⟨g,0,none⟩=some (.bool bad):=h.bx.cell 0 rfl
theorem Wk.frozen (h:Wk w0 W g bad):W.frozen? ⟨g,0,none⟩=false:=h.bx.frozen 0
theorem Wk.set (h:Wk w0 W g bad) (b:Bool):Wk w0 (W.setCell ⟨g,0,none⟩ (.bool b)) g b:=⟨aQ h.hb h.ge _,h.ge,by simpa using h.bx.set 0 (.bool b)⟩
theorem Wk.far (h:Wk w0 W g bad) {p:Addr} (hp:g≠p.block) (hp2:w0.heap.size<=p.block) (u:Value):Wk w0 (W.setCell p u) g bad:=⟨aQ h.hb hp2 _,h.ge,h.bx.far hp u⟩
end
structure Ks (g:Nat) (W W':World):Prop where
 size:W.heap.size<=W'.heap.size
 same:∀k,k<W.heap.size->k≠g->W'.heap[k]? = W.heap[k]?
theorem Ks.of {g:Nat} {W W':World} (h:Below W.heap.size W W'):Ks g W W':=⟨h.size,fun k hk _=>h.block k hk⟩
theorem Ks.set {g:Nat} {W W':World} (h:Ks g W W') (hg:g<W'.heap.size) (u:Value):Ks g W (W'.setCell ⟨g,0,none⟩ u) :=
 ⟨Nat.le_trans h.size (by simp[World.setCell]),fun k hk hne=>(Below.heap_setCell W' ⟨g,0,none⟩ u k hne).trans (h.same k hk hne)⟩
theorem Ks.trans {g:Nat} {W W' W'':World} (h:Ks g W W') (h':Ks g W' W''):Ks g W W'' :=
 ⟨Nat.le_trans h.size h'.size,fun k hk hne=>(h'.same k (Nat.lt_of_lt_of_le hk h.size) hne).trans (h.same k hk hne)⟩
theorem Bx.ks {g k:Nat} {W W':World} {t:TypeId} {cs:Array Value} (h:Bx W k t cs) (hk:Ks g W W') (hne:k≠g):Bx W' k t cs:=(hk.same k h.lt hne).trans h
theorem uy (a b s:List UInt8) (e:Int) (w0 W:World) (g:Nat) (h:Wk w0 W g false)
 (hop:∀W',Below w0.heap.size w0 W'->bP 152 #[.string ⟨a.toArray⟩,.string ⟨b.toArray⟩] W' (.tuple #[.string ⟨s.toArray⟩,.int .i64 e])) :
 Calls Tryz.prog 151 #[.pointer (some ⟨g,0,none⟩),.func (.func 152) #[] #[],.string ⟨a.toArray⟩,.string ⟨b.toArray⟩] W fun e' w'=>e'=.returned (.string ⟨s.toArray⟩)/\Wk w0 w' g (e != 0)/\Ks g W w':=by
 have hc:=h.cell;have hO:=hop W h.hb;clear hop
 go_enter Tryz.func151,Tryz.ntmps151
 go_wp2_with fail;refine hO.mono ?_;rintro _ w1 ⟨rfl,hb1⟩;have h1:=h.call hb1;have hc1:=h1.cell;have hf1:=h1.frozen;have h2:=h1.set (e != 0);have hk:=(Ks.of (g:=g) hb1).set h1.bx.lt (.bool (e != 0));clear hO hc h hb1;go_wp2;go_ret;exact ⟨rfl,h2,hk⟩
theorem uz (a b s:List UInt8) (e:Int) (w0 W:World) (g:Nat) (h:Wk w0 W g false)
 (hop:∀W',Below w0.heap.size w0 W'->bP 153 #[.string ⟨a.toArray⟩,.string ⟨b.toArray⟩] W' (.tuple #[.string ⟨s.toArray⟩,.int .i64 e])) :
 Calls Tryz.prog 151 #[.pointer (some ⟨g,0,none⟩),.func (.func 153) #[] #[],.string ⟨a.toArray⟩,.string ⟨b.toArray⟩] W fun e' w'=>e'=.returned (.string ⟨s.toArray⟩)/\Wk w0 w' g (e != 0)/\Ks g W w':=by
 have hc:=h.cell;have hO:=hop W h.hb;clear hop
 go_enter Tryz.func151,Tryz.ntmps151
 go_wp2_with fail;refine hO.mono ?_;rintro _ w1 ⟨rfl,hb1⟩;have h1:=h.call hb1;have hc1:=h1.cell;have hf1:=h1.frozen;have h2:=h1.set (e != 0);have hk:=(Ks.of (g:=g) hb1).set h1.bx.lt (.bool (e != 0));clear hO hc h hb1;go_wp2;go_ret;exact ⟨rfl,h2,hk⟩
theorem DY (a b s:List UInt8) (e:Int) (w0 W:World) (g:Nat) (h:Wk w0 W g false)
 (hop:∀W',Below w0.heap.size w0 W'->bP 219 #[.string ⟨a.toArray⟩,.string ⟨b.toArray⟩] W' (.tuple #[.string ⟨s.toArray⟩,.int .i64 e])) :
 Calls Tryz.prog 151 #[.pointer (some ⟨g,0,none⟩),.func (.func 219) #[] #[],.string ⟨a.toArray⟩,.string ⟨b.toArray⟩] W fun e' w'=>e'=.returned (.string ⟨s.toArray⟩)/\Wk w0 w' g (e != 0)/\Ks g W w':=by
 have hc:=h.cell;have hO:=hop W h.hb;clear hop
 go_enter Tryz.func151,Tryz.ntmps151
 go_wp2_with fail;refine hO.mono ?_;rintro _ w1 ⟨rfl,hb1⟩;have h1:=h.call hb1;have hc1:=h1.cell;have hf1:=h1.frozen;have h2:=h1.set (e != 0);have hk:=(Ks.of (g:=g) hb1).set h1.bx.lt (.bool (e != 0));clear hO hc h hb1;go_wp2;go_ret;exact ⟨rfl,h2,hk⟩
end Go.Proofs.YtohgjenaclfegaaGreatDoor
namespace Rq
end Rq
namespace Go.Proofs.YtohgjenaclfegaaGreatDoor
open Go.RowKit Go.Shelf
theorem oP (x y:Int) (w0 W:World) (g:Nat) (hx:Ig.fits x) (hy:Ig.fits y) (hy0:y≠0) (hE:Env w0) (h:Wk w0 W g false) :
 Calls Tryz.prog 154 #[.pointer (some ⟨g,0,none⟩),.string ⟨(Lib.itoa x).toArray⟩,.string ⟨(Lib.itoa y).toArray⟩] W fun e w'=>e=.returned (.string ⟨(Lib.itoa (x / y)).toArray⟩)/\Wk w0 w' g false/\Ks g W w':=by
 have hop:∀W',Below w0.heap.size w0 W'->bP 219 #[.string ⟨(Lib.itoa x).toArray⟩,.string ⟨(Lib.itoa y).toArray⟩] W' (.tuple #[.string ⟨(Lib.itoa (x / y)).toArray⟩,.int .i64 0]):=by
  intro W' hb;have hD:=Qu x y W' hx hy hy0 (hE.below hb);clear h hx hy;generalize Lib.itoa (x / y)=q at *;generalize Lib.itoa (x % y)=r at *;generalize Lib.itoa x=sx at *;generalize Lib.itoa y=sy at *;clear hb hE hy0
  go_enter Tryz.func219,Tryz.ntmps219
  go_wp2_with fail;refine hD.mono ?_;rintro _ w1 ⟨rfl,hb1⟩;clear hD;go_wp2
  go_ret2
  exact⟨rfl,hb1⟩
 have hD:=DY _ _ _ 0 w0 W g h hop;clear hop h hx hy hy0;generalize Lib.itoa (x / y)=q at *;generalize Lib.itoa x=sx at *;generalize Lib.itoa y=sy at *
 go_enter Tryz.func154,Tryz.ntmps154
 go_wp2_with fail;refine hD.mono ?_;rintro _ w1 ⟨rfl,hw,hk⟩;clear hD;go_wp2;go_ret;exact ⟨rfl,hw,hk⟩
theorem fV {fn:Func} {t u:Tmp} {g:Nat} {n d:ByteArray} {e:Value} (h:fn.results=#[.cell t 77,.tmp u]) (tmps:Array Value) (w:World) (ht:tmps.getD t undef=.pointer (some ⟨g,0,none⟩)) (hu:tmps.getD u undef=e) (hB:Bx w g 77 #[.string n,.string d]) :
 (results fn tmps).run Tryz.prog w=.ok (.tuple #[.agg #[.string n,.string d],e]) w:=by
 have h0:=hB.cell 0 rfl;have h1:=hB.cell 1 rfl;have ht':tmps[t]?.getD undef=.pointer (some ⟨g,0,none⟩):=by simpa using ht
 have hu':tmps[u]?.getD undef=e:=by simpa using hu
 simp only[results,h];simp [go_sem,ht',hu',h0,h1,loadVar]
structure Rs (w0 W:World) (g gr:Nat) (bad:Bool) (n d:ByteArray):Prop where
 wk:Wk w0 W g bad
 ne:g≠gr
 ge:w0.heap.size<=gr
 bx:Bx W gr 77 #[.string n,.string d]
section
variable {w0 W W':World} {g gr:Nat} {bad:Bool} {n d:ByteArray}
theorem Rs.mk' (h:Wk w0 W g bad):Rs w0 (W.alloc (.cells #[.string n,.string d] 77)) g W.heap.size bad n d :=
 ⟨h.call (aG W _),Nat.ne_of_lt h.bx.lt,h.hb.size,Bx.mk _ _ _⟩
theorem Rs.step (h:Rs w0 W g gr bad n d) {b:Bool} (hw:Wk w0 W' g b) (hk:Ks g W W'):Rs w0 W' g gr b n d:=⟨hw,h.ne,h.ge,h.bx.ks hk (fun e=>h.ne e.symm)⟩
theorem Rs.call (h:Rs w0 W g gr bad n d) (hb:Below W.heap.size W W'):Rs w0 W' g gr bad n d:=⟨h.wk.call hb,h.ne,h.ge,h.bx.call hb⟩
theorem Rs.set (h:Rs w0 W g gr bad n d) (n' d':ByteArray):Rs w0 ((W.setCell ⟨gr,0,none⟩ (.string n')).setCell ⟨gr,1,none⟩ (.string d')) g gr bad n' d':=by
 refine⟨(h.wk.far (p:=⟨gr,0,none⟩) h.ne h.ge _).far (p:=⟨gr,1,none⟩) h.ne h.ge _,h.ne,h.ge,?_⟩;have:=(h.bx.set 0 (.string n')).set 1 (.string d');simpa using this
end
theorem qU {n d:Int} (hd:d≠0):((Nat.gcd n.natAbs d.natAbs:Nat):Int)≠0:=by
 intro h;have:=Nat.eq_zero_of_gcd_eq_zero_right (show Nat.gcd n.natAbs d.natAbs=0 by omega);omega
theorem zH (n d:Int) (w0 W:World) (g:Nat) (hn:Ig.fits n) (hf:Ig.fits d) (hd:0<d) (hE:Env w0) (h:Wk w0 W g false) :
 Calls Tryz.prog 98 #[.pointer (some ⟨g,0,none⟩),.string ⟨(Lib.itoa n).toArray⟩,.string ⟨(Lib.itoa d).toArray⟩] W fun e w'=>e=.returned (.tuple #[QV (Rat.divInt n d),.int .i64 0])/\Below w0.heap.size w0 w':=by
 unfold QV
 have e:=Rq.zV (n:=n) hd;rw [e.1,e.2];have h0:=Rs.mk' (n:=⟨#[]⟩) (d:=⟨#[]⟩) h;have hc:=h0.wk.cell;have hne:(Lib.itoa d==[48])=false:=by rw[z_];exact decide_eq_false (by omega)
 have hC:=fun w1=>qX d 0 w1 hf yH
 rw[qC]at hC;have hlt:decide (jr d 0<0)=false:=decide_eq_false (by unfold jr;rw[if_neg (by omega),if_pos (by omega)];decide);have hG:=fun w1 hw=>uz _ _ _ 0 w0 w1 g hw (fun W' hb=>FT n d W' hn hf (hE.below hb))
 have hg:=uw hn hf;have hg0:=qU (n:=n) (d:=d) (by omega);have Xt:=fun w1 hw=>oP n _ w0 w1 g hn hg hg0 hE hw
 have hQ2:=fun w1 hw=>oP d _ w0 w1 g hf hg hg0 hE hw
 generalize jr d 0=cc at *;generalize ((Nat.gcd n.natAbs d.natAbs:Nat):Int)=gg at *;generalize Lib.itoa (n / gg)=sn at *;generalize Lib.itoa (d / gg)=sd at *;generalize Lib.itoa gg=sg at *;generalize Lib.itoa n=sn0 at *;generalize Lib.itoa d=sd0 at *;clear e hn hf hd hg hg0 h
 go_enter Tryz.func98,Tryz.ntmps98
 go_wp2_with fail;refine (hC _).mono ?_;rintro _ w1 ⟨rfl,hb1⟩;have h1:=h0.call hb1;clear hC h0 hc hb1;go_wp2_with fail;refine (hG _ h1.wk).mono ?_;rintro _ w2 ⟨rfl,hw2,hk2⟩;have h2:=h1.step hw2 hk2;clear hG h1 hw2 hk2;go_wp2_with fail;refine (Xt _ h2.wk).mono ?_;rintro _ w3 ⟨rfl,hw3,hk3⟩;have h3:=h2.step hw3 hk3;clear Xt h2 hw3 hk3;go_wp2_with fail;refine (hQ2 _ h3.wk).mono ?_;rintro _ w4 ⟨rfl,hw4,hk4⟩;have h4:=h3.step hw4 hk4;clear hQ2 h3 hw4 hk4;have h5:=h4.call (aG w4 (.cells #[.string ⟨sn.toArray⟩,.string ⟨sd.toArray⟩] 77));have B5:=Bx.mk w4 77 #[.string ⟨sn.toArray⟩,.string ⟨sd.toArray⟩];have c0:=B5.cell 0 rfl;have c1:=B5.cell 1 rfl;have hc5:=h5.wk.cell;have r0:=h5.bx.cell 0 rfl;have r1:=h5.bx.cell 1 rfl;have f0:=h5.bx.frozen 0;have f1:=h5.bx.frozen 1;have h6:=h5.set ⟨sn.toArray⟩ ⟨sd.toArray⟩;clear h4;go_wp2;refine bodyPost_ret (fV rfl _ _ rfl rfl h6.bx) rfl ⟨rfl,h6.wk.hb⟩
theorem zI (n d:Int) (w0 W:World) (g:Nat) (hn:Ig.fits n) (hf:Ig.fits d) (hd:d<0) (hE:Env w0) (h:Wk w0 W g false) :
 Calls Tryz.prog 98 #[.pointer (some ⟨g,0,none⟩),.string ⟨(Lib.itoa n).toArray⟩,.string ⟨(Lib.itoa d).toArray⟩] W fun e w'=>e=.returned (.tuple #[QV (Rat.divInt n d),.int .i64 0])/\Below w0.heap.size w0 w':=by
 unfold QV
 have hneg:∀ {z:Int},Ig.fits z->Ig.fits (0-z):=fun h=>by unfold Ig.fits at *;omega
 have hS1:=fun w1 hw=>uy _ _ _ _ w0 w1 g hw (fun W' hb=>FK 0 n W' yH hn (hE.below hb))
 have hS2:=fun w1 hw=>uy _ _ _ _ w0 w1 g hw (fun W' hb=>FK 0 d W' yH hf (hE.below hb))
 rw[Ig.eU (hneg hn),Ig.eX (hneg hn),qC]at hS1;rw [Ig.eU (hneg hf),Ig.eX (hneg hf),qC]at hS2;have hlt:decide (jr d 0<0)=true:=decide_eq_true (by unfold jr;rw[if_pos (by omega)];decide);have hne:(Lib.itoa d==[48])=false:=by rw[z_];exact decide_eq_false (by omega)
 have hC:=fun w1=>qX d 0 w1 hf yH
 rw[qC]at hC;generalize jr d 0=cc at *;rw [Rq.J9];replace hn:=hneg hn;replace hf:=hneg hf;clear hneg;generalize Lib.itoa n=so at *;generalize Lib.itoa d=sp at *;obtain ⟨n,rfl⟩:∃n',n=0-n':=⟨0-n,by omega⟩
 obtain⟨d,rfl⟩:∃d',d=0-d':=⟨0-d,by omega⟩
 rw[show 0-(0-n)=n by omega]at *;rw [show 0-(0-d)=d by omega]at *;replace hd:0<d:=by omega
 have e:=Rq.zV (n:=n) hd;rw [e.1,e.2];have h0:=Rs.mk' (n:=⟨#[]⟩) (d:=⟨#[]⟩) h;have hc:=h0.wk.cell;have hG:=fun w1 hw=>uz _ _ _ 0 w0 w1 g hw (fun W' hb=>FT n d W' hn hf (hE.below hb))
 have hg:=uw hn hf;have hg0:=qU (n:=n) (d:=d) (by omega);have Xt:=fun w1 hw=>oP n _ w0 w1 g hn hg hg0 hE hw
 have hQ2:=fun w1 hw=>oP d _ w0 w1 g hf hg hg0 hE hw
 generalize ((Nat.gcd n.natAbs d.natAbs:Nat):Int)=gg at *;generalize Lib.itoa (n / gg)=sn at *;generalize Lib.itoa (d / gg)=sd at *;generalize Lib.itoa gg=sg at *;generalize Lib.itoa n=sn0 at *;generalize Lib.itoa d=sd0 at *;clear e hn hf hd hg hg0 h
 go_enter Tryz.func98,Tryz.ntmps98
 go_wp2_with fail;refine (hC _).mono ?_;rintro _ w1 ⟨rfl,hb1⟩;have h1:=h0.call hb1;clear hC h0 hc hb1;go_wp2_with fail;refine (hS1 _ h1.wk).mono ?_;rintro _ wa ⟨rfl,hwa,hka⟩;replace h1:=h1.step hwa hka;clear hS1 hwa hka;go_wp2_with fail;refine (hS2 _ h1.wk).mono ?_;rintro _ wb ⟨rfl,hwb,hkb⟩;replace h1:=h1.step hwb hkb;clear hS2 hwb hkb;go_wp2_with fail;refine (hG _ h1.wk).mono ?_;rintro _ w2 ⟨rfl,hw2,hk2⟩;have h2:=h1.step hw2 hk2;clear hG h1 hw2 hk2;go_wp2_with fail;refine (Xt _ h2.wk).mono ?_;rintro _ w3 ⟨rfl,hw3,hk3⟩;have h3:=h2.step hw3 hk3;clear Xt h2 hw3 hk3;go_wp2_with fail;refine (hQ2 _ h3.wk).mono ?_;rintro _ w4 ⟨rfl,hw4,hk4⟩;have h4:=h3.step hw4 hk4;clear hQ2 h3 hw4 hk4;have h5:=h4.call (aG w4 (.cells #[.string ⟨sn.toArray⟩,.string ⟨sd.toArray⟩] 77));have B5:=Bx.mk w4 77 #[.string ⟨sn.toArray⟩,.string ⟨sd.toArray⟩];have c0:=B5.cell 0 rfl;have c1:=B5.cell 1 rfl;have hc5:=h5.wk.cell;have r0:=h5.bx.cell 0 rfl;have r1:=h5.bx.cell 1 rfl;have f0:=h5.bx.frozen 0;have f1:=h5.bx.frozen 1;have h6:=h5.set ⟨sn.toArray⟩ ⟨sd.toArray⟩;clear h4;go_wp2;refine bodyPost_ret (fV rfl _ _ rfl rfl h6.bx) rfl ⟨rfl,h6.wk.hb⟩
theorem xY (n d:Int) (w0 W:World) (g:Nat) (hn:Ig.fits n) (hf:Ig.fits d) (hd:d≠0) (hE:Env w0) (h:Wk w0 W g false) :
 Calls Tryz.prog 98 #[.pointer (some ⟨g,0,none⟩),.string ⟨(Lib.itoa n).toArray⟩,.string ⟨(Lib.itoa d).toArray⟩] W fun e w'=>e=.returned (.tuple #[QV (Rat.divInt n d),.int .i64 0])/\Below w0.heap.size w0 w':=by
 by_cases h0:0<d
 · exact zH n d w0 W g hn hf h0 hE h
 · exact zI n d w0 W g hn hf (by omega) hE h
theorem Wk.new (w:World) (b:Bool):Wk w (w.alloc (.cells #[.bool b] 191)) w.heap.size b:=⟨aG _ _,Nat.le_refl _,Bx.mk _ _ _⟩
theorem FP (n d:Int) (w:World) (hn:Ig.fits n) (hf:Ig.fits d) (hd:d≠0) (hE:Env w) :
 bP 56 #[.string ⟨(Lib.itoa n).toArray⟩,.string ⟨(Lib.itoa d).toArray⟩] w (.tuple #[QV (Rat.divInt n d),.int .i64 0]):=by
 have hV1:=fun w0=>xF (Lib.itoa n) (kL hn) w0
 have hV2:=fun w0=>xF (Lib.itoa d) (kL hf) w0
 rw[Ig.jX hn]at hV1;rw [Ig.jX hf]at hV2;have hRR:=fun w2 hE2=>xY n d w2 _ _ hn hf hd hE2 (Wk.new w2 false)
 unfold QV at *
 generalize Lib.itoa (Rat.divInt n d).num=sa at *;generalize Lib.itoa ((Rat.divInt n d).den:Int)=sb at *;generalize Lib.itoa n=sn at *;generalize Lib.itoa d=sd at *;clear hn hf hd;have B:=Bx.mk w 77 #[.string ⟨#[]⟩,.string ⟨#[]⟩];have hb:=aG w (.cells #[.string ⟨#[]⟩,.string ⟨#[]⟩] 77)
 go_enter Tryz.func56,Tryz.ntmps56
 go_wp2_with fail;refine (hV1 _).mono ?_;rintro _ w1 ⟨rfl,hb1⟩;replace hb:=ah hb hb1;replace B:=B.call hb1;clear hV1 hb1;go_wp2_with fail;refine (hV2 _).mono ?_;rintro _ w2 ⟨rfl,hb1⟩;replace hb:=ah hb hb1;replace B:=B.call hb1;clear hV2 hb1;have hR:=hRR w2 (hE.below hb);clear hRR;go_wp2_with fail;refine hR.mono ?_;rintro _ w3 ⟨rfl,hb1⟩;replace hb:=ah hb hb1;replace B:=B.call hb1;clear hR hb1;have r0:=B.cell 0 rfl;have r1:=B.cell 1 rfl;have f0:=B.frozen 0;have f1:=B.frozen 1;have B2:=(B.set 0 (.string ⟨sa.toArray⟩)).set 1 (.string ⟨sb.toArray⟩);have hb2:=aQ (aQ hb (p:=⟨w.heap.size,0,none⟩) (Nat.le_refl _) (.string ⟨sa.toArray⟩)) (p:=⟨w.heap.size,1,none⟩) (Nat.le_refl _) (.string ⟨sb.toArray⟩);go_wp2
 first
  | exact bodyPost_ret (fV rfl _ _ rfl rfl B2) rfl ⟨rfl,hb2⟩
  | exact bodyPost_ret (fV rfl _ _ rfl rfl B) rfl ⟨rfl,hb⟩
section
variable (w:World) (hE:Env w)
end
section
variable (a b:Rat) (w:World)
end
theorem Wk.det {w0 W:World} {g:Nat} {b b':Bool} (h:Wk w0 W g b) (h':Wk w0 W g b'):b=b':=by
 have h1:=h.cell;rw [h'.cell]at h1;simpa using h1.symm
def K1 (W0:World) (g:Nat) (W W':World):Prop:=∀b,Wk W0 W g b->∃b',Wk W0 W' g b'/\(b=true->b'=true)
theorem K1.to {W0:World} {g:Nat} {W W':World} {b b':Bool} (h:Wk W0 W g b) (h':Wk W0 W' g b') (he:b=true->b'=true):K1 W0 g W W':=fun c hc=>by
 have:=h.det hc;subst this;exact ⟨b',h',he⟩
end Go.Proofs.YtohgjenaclfegaaGreatDoor

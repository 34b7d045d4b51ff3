import Derived.Test.YtohgjenaclfegaaGreatDoorQT01
import Derived.Test.YtohgjenaclfegaaGreatDoorQR02
import Derived.Test.YtohgjenaclfegaaGreatDoorQI04
set_option linter.unusedVariables false
set_option linter.unusedSimpArgs false
set_option maxRecDepth 100000
set_option maxHeartbeats 8000000
namespace Go.Proofs.YtohgjenaclfegaaGreatDoor
open Go.RowKit Go.Shelf
theorem jI (n k:Nat) (c e:Int) (qa qb:List UInt8) (w:World) (hn:n<=50) (hk:k<=n+1) (h0:0<=c) (h1:c<=e) (h2:e<=1000) (h3:1<=e) (lq:LQ (Tb.Pq n k c (e-c)) qa qb) (hE:Env w) :
 bP 20 #[.int .i64 n,.int .i64 k,.agg #[.int .i64 c,.int .i64 e]] w (.tuple #[.agg #[.string ⟨qa.toArray⟩,.string ⟨qb.toArray⟩],.int .i64 0]):=by
 have B0:=(Bx.mk w 39 #[.int .i64 c,.int .i64 e]).new (.cells #[.string ⟨#[]⟩,.string ⟨#[]⟩] 77);have B1:=Bx.mk (w.alloc (.cells #[.int .i64 c,.int .i64 e] 39)) 77 #[.string ⟨#[]⟩,.string ⟨#[]⟩];rw [aj]at B1;have hb:=bNew (aG w (.cells #[.int .i64 c,.int .i64 e] 39)) (.cells #[.string ⟨#[]⟩,.string ⟨#[]⟩] 77);have c0:=B0.cell 0 rfl;have c1:=B0.cell 1 rfl;have hC:=CQ n c e _ hn h0 h1 h2 h3 (hE.below hb);have hI:=fun w0=>pq k 0 ((n:Int)+1) w0
 rw[Tp.within_iff.2 ⟨by omega,by omega⟩]at hI;have hEE:=fun w1 (hb1:Below w.heap.size w w1)=>hE.below hb1
 clear hE
 go_enter Tryz.func20,Tryz.ntmps20
 go_wp2_with fail;refine hC.mono ?_;rintro _ w1 ⟨⟨gn,ga,gr,gy,go,rfl,hT⟩,hb1⟩;replace hb:=ah hb hb1;replace B1:=B1.call hb1;have hK:=I_ n k c e gn ga gr gy go qa qb w1 hT hn hk h0 h1 h2 h3 lq (hEE w1 hb);clear hC hb1 B0 c0 c1 hT hEE lq
 go_wp2_with (first|(go_at_call 70;refine (hI _).mono ?_;rintro e w2 ⟨rfl,rfl⟩;clear hI))
 refine hK.mono ?_;rintro _ w2 ⟨rfl,hb2⟩;clear hK;have c0:=(B1.call hb2).cell 0 rfl;have c1:=(B1.call hb2).cell 1 rfl;have f0:=(B1.call hb2).frozen 0;have f1:=(B1.call hb2).frozen 1;have B4:=((B1.call hb2).set 0 (.string ⟨qa.toArray⟩)).set 1 (.string ⟨qb.toArray⟩);have hb4:=aQ (aQ (ah hb hb2) (p:=⟨w.heap.size+1,0,none⟩) (Nat.le_succ _) (.string ⟨qa.toArray⟩)) (p:=⟨w.heap.size+1,1,none⟩) (Nat.le_succ _) (.string ⟨qb.toArray⟩);go_wp2;exact bodyPost_ret (fV rfl _ _ rfl rfl B4) rfl ⟨rfl,hb4⟩
structure Hl (t m d:Nat) (g1 g2 g3:Nat) (W:World):Prop where
 h1:Bx W g1 207 (dA (pt m))
 h2:Bx W g2 207 (dA (pt (t-m)))
 h3:Bx W g3 3 #[.int .i64 d]
theorem Hl.call {t m d g1 g2 g3:Nat} {W W':World} (h:Hl t m d g1 g2 g3 W) (hb:Below W.heap.size W W'):Hl t m d g1 g2 g3 W':=⟨h.h1.call hb,h.h2.call hb,h.h3.call hb⟩
def U6 (q:Rat):Rat:=if 1<q then 1 else q
def txQ (q:Rat):List UInt8 × List UInt8:=(Lib.itoa q.num,Lib.itoa (q.den:Int))
def Zh (p:List UInt8 × List UInt8):List Value:=[.string ⟨p.1.toArray⟩,.string ⟨p.2.toArray⟩]
def Un (q:Rat):Prop:=Rq.Fq q/\0<=q/\q<=1
abbrev Pr:=List UInt8 × List UInt8
structure Ot (g:Nat) (W W':World):Prop where
 os:W'.os=W.os
 tape:W'.tape=W.tape
 output:W'.output=W.output
 size:W.heap.size<=W'.heap.size
 block:∀k,k<W.heap.size->k≠g->W'.heap[k]? = W.heap[k]?
theorem Ot.below {g:Nat} {W W':World} (h:Below W.heap.size W W'):Ot g W W':=⟨h.os,h.tape,h.output,h.size,fun k hk _=>h.block k hk⟩
theorem Ot.trans {g:Nat} {A B C:World} (h:Ot g A B) (k:Ot g B C):Ot g A C:=⟨k.os.trans h.os,k.tape.trans h.tape,k.output.trans h.output,Nat.le_trans h.size k.size,fun i hi hne=>(k.block i (Nat.lt_of_lt_of_le hi h.size) hne).trans (h.block i hi hne)⟩
theorem Ot.to {g B:Nat} {W W':World} (h:Ot g W W') (hB:B<=g) (hW:B<=W.heap.size):Below B W W':=⟨h.os,h.tape,h.output,h.size,fun k hk=>h.block k (by omega) (by omega)⟩
theorem Ot.bx {g b:Nat} {t:TypeId} {cs:Array Value} {W W':World} (h:Ot g W W') (hB:Bx W b t cs) (hne:b≠g):Bx W' b t cs:=(h.block b hB.lt hne).trans hB
theorem Ot.set {g:Nat} {W:World} (u:Value) (i:Nat) (o:Nat) (h:o=g∨W.heap.size<=o):Ot g W (W.setCell ⟨o,i,none⟩ u) :=
 ⟨((Below.refl 0 W).setCell (p:=⟨o,i,none⟩) (Nat.zero_le _) u).os,((Below.refl 0 W).setCell (p:=⟨o,i,none⟩) (Nat.zero_le _) u).tape,((Below.refl 0 W).setCell (p:=⟨o,i,none⟩) (Nat.zero_le _) u).output,((Below.refl 0 W).setCell (p:=⟨o,i,none⟩) (Nat.zero_le _) u).size,fun k hk hne=>Below.heap_setCell W ⟨o,i,none⟩ u k (by show k≠o;omega)⟩
noncomputable def comb (l:List Rat):Option Rat:=l.foldl (fun o q=>Yb o (some q)) (some 0)
theorem Ic (l:List Rat) (q:Rat):comb (l++[q])=Yb (comb l) (some q):=by unfold comb;rw[List.foldl_append];rfl
structure SE (w0 w:World):Prop where
 bl:Below w0.heap.size w0 w
 env:Env w
theorem SE.call {w0 w w':World} (h:SE w0 w) (hb:Below w.heap.size w w'):SE w0 w':=⟨ah h.bl hb,h.env.below hb⟩
theorem SE.at (w:World) {h0 w1:World} (hE:Env h0) (hb:Below h0.heap.size h0 w1):SE h0 w1:=⟨hb,hE.below hb⟩
theorem LQ.same {q:Rat} {a b c d:List UInt8} (h:LQ q a b) (k:LQ q c d):a=c/\b=d:=⟨h.out.1.symm.trans k.out.1,h.out.2.symm.trans k.out.2⟩
end Go.Proofs.YtohgjenaclfegaaGreatDoor
namespace Tb
def cD (x y:Int):Int:=if Tp.pick x 8=7 then 1+Tp.pick y 1000 else 1+Tp.pick y 12
def cN (x y:Int):Int:=Tp.pick (x.tdiv 8) (cD x y+1)
end Tb
namespace Go.Proofs.YtohgjenaclfegaaGreatDoor
open Go.RowKit Go.Shelf
section
variable {x y z:Rat} {xa xb ya yb za zb:List UInt8} {j k:Nat} (w:World) (lx:LQ x xa xb) (ly:LQ y ya yb) (lz:LQ z za zb) (hx:Rq.Qz j j x) (hy:Rq.Qz k k y) (hjk:j+k+1<=200)
include lx ly lz hx hy hjk
end
structure IB (W:World) (a:Nat) (v:Value):Prop where
 out:∃(A:Option Addr) (cap:Nat),v=.slice A (Dx.grp a).length cap/\At 1 aV W W.heap.size A (Dx.grp a)/\(Dx.grp a).length<=cap/\cap<=maxLen
theorem IB.call {W W':World} {a:Nat} {v:Value} (h:IB W a v) (hb:Below W.heap.size W W'):IB W' a v:=by
 obtain⟨A,cap,h1,h2,h3,h4⟩:=h.out;exact ⟨A,cap,h1,(h2.below hb).more hb.size,h3,h4⟩
end Go.Proofs.YtohgjenaclfegaaGreatDoor
namespace Dx
end Dx
namespace Go.Proofs.YtohgjenaclfegaaGreatDoor
open Go.RowKit Go.Shelf
structure FrI (B:Nat) (v:Value):Prop where
 out:∀b off n c,v=.slice (some ⟨b,off,none⟩) n c->B<=b
theorem IB.far {W:World} {a B:Nat} {v:Value} (h:IB W a v) (hF:FrI B v) {p:Addr} (hp:p.block<B) (u:Value):IB (W.setCell p u) a v:=by
 obtain⟨A,cap,rfl,hA,h3,h4⟩:=h.out;refine ⟨A,cap,rfl,fun h0=>?_,h3,h4⟩;obtain ⟨b,off,rfl,hb,hc⟩:=hA h0;have hB:=hF.out b off _ _ rfl;exact ⟨b,off,rfl,Nat.lt_of_lt_of_le hb (KeepsOthers.setCell W _ u).size,fun i c hi j v hj=>(jg (Below.heap_setCell W p u b (by omega))).trans (hc i c hi j v hj)⟩
end Go.Proofs.YtohgjenaclfegaaGreatDoor

import Derived.Test.YtohgjenaclfegaaGreatDoorQT02
set_option linter.unusedVariables false
set_option linter.unusedSimpArgs false
set_option maxRecDepth 100000
set_option maxHeartbeats 8000000
namespace Go.Proofs.YtohgjenaclfegaaGreatDoor
open Go.RowKit Go.Shelf
end Go.Proofs.YtohgjenaclfegaaGreatDoor
namespace Tb
end Tb
namespace Go.Proofs.YtohgjenaclfegaaGreatDoor
open Go.RowKit Go.Shelf
def Zg (q:Rat):List Value:=Zh (txQ q)
theorem SE.set {w0 w:World} (h:SE w0 w) (hE:Env w0) {p:Addr} (hp:w0.heap.size<=p.block) (u:Value):SE w0 (w.setCell p u):=⟨aQ h.bl hp u,hE.below (aQ h.bl hp u)⟩
section
variable (a b:Rat) (w:World)
end
end Go.Proofs.YtohgjenaclfegaaGreatDoor
namespace Tb
end Tb
namespace Go.Proofs.YtohgjenaclfegaaGreatDoor
open Go.RowKit Go.Shelf
theorem Jt {g k m:Nat} {cells:Array Value} {W:World} {l:List (List UInt8)} {s:List UInt8} (hB:Bx W g 9 cells) (hf:cells.toList.take (m*1)=l.flatMap oI) (hk:l[k]? = some s) (hkm:k<m):W.cell? ⟨g,k,none⟩=some (.string ⟨s.toArray⟩):=by
 refine hB.cell k ?_
 have h2:(cells.toList.take (m*1))[k]? = some (.string ⟨s.toArray⟩):=by
  rw[hf];have:=flat_get (f:=oI) (size:=1) sN l k 0 _ hk (by decide);rw [Nat.mul_one,Nat.add_zero]at this;rw [this];rfl
 rw[List.getElem?_take,if_pos (by omega)]at h2;simpa using h2
def Yf (g:Nat) (l:List (List UInt8)) (W:World):Prop:=g<W.heap.size/\∀(i:Nat) (s:List UInt8),l[i]? = some s->W.cell? ⟨g,i,none⟩=some (.string ⟨s.toArray⟩)
theorem Yf.call {g:Nat} {l:List (List UInt8)} {W W':World} (h:Yf g l W) (hb:Below W.heap.size W W'):Yf g l W':=⟨Nat.lt_of_lt_of_le h.1 hb.size,fun i s hs=>(hb.cell (p:=⟨g,i,none⟩) h.1).trans (h.2 i s hs)⟩
theorem Yf.of {B n:Nat} {l:List (List UInt8)} {v:Value} {W:World} (hl:l.length=n) (h:NI 9 1 B n (l.flatMap oI) v W):∃g cap,v=.slice (some ⟨g,0,none⟩) n cap/\Kp (Yf g l W):=by
 obtain⟨cap,⟨g,cells,rfl,-,-,hB,-,hf⟩,-⟩:=h;exact ⟨g,cap,rfl,hB.lt,fun i s hs=>Jt hB hf hs (by rw[←hl];exact (List.getElem?_eq_some_iff.1 hs).1)⟩
end Go.Proofs.YtohgjenaclfegaaGreatDoor
namespace Tb
theorem Le.ex {n:Nat} {c d:Int} {q:Rat} (h0:0<=q):∃k,Le n c d q k:=by
 have h:∀m,(∃k,Le n c d q k)∨∀j,j<m->q<Pq n j c d:=fun m=>by
  induction m with
  | zero=>exact .inr fun j hj=>absurd hj (Nat.not_lt_zero _)
  | succ m ih =>
   rcases ih with ih|ih
   · exact .inl ih
   · by_cases h1:Pq n m c d<=q
     · exact .inl ⟨m,h1,ih⟩
     · refine .inr fun j hj=>?_
       rcases Nat.lt_or_ge j m with h2|h2
       · exact ih j h2
       · obtain rfl:j=m:=by omega
         exact Rat.not_le.1 h1
 rcases h (n+2) with h|h
 · exact h
 · have:=h (n+1) (by omega);rw [FM (Nat.lt_succ_self n)]at this;exact absurd h0 (Rat.not_le.2 this)
end Tb
namespace Go.Proofs.YtohgjenaclfegaaGreatDoor
open Go.RowKit Go.Shelf
end Go.Proofs.YtohgjenaclfegaaGreatDoor
namespace Tb
end Tb
namespace Go.Proofs.YtohgjenaclfegaaGreatDoor
open Go.RowKit Go.Shelf
theorem LQ.ne {p q:Rat} {a b c d:List UInt8} (hp:LQ p a b) (hq:LQ q c d) (h:p≠q):¬(a=c/\b=d):=fun ⟨h1,h2⟩=>by
 subst h1 h2;have e1:=Ig.ug (hp.out.1.trans hq.out.1.symm);have e2:=Ig.ug (hp.out.2.trans hq.out.2.symm);exact h (Rat.ext e1 (by exact_mod_cast e2))
theorem aF.off {e:TypeId} {size B n:Nat} {fl:List Value} {v:Value} {W:World} (h:aF e size B n fl v W) {p:Addr} (hp:p.block<B) (u:Value):aF e size B n fl v (W.setCell p u):=by
 rcases h with h|⟨cap,⟨g,cells,e1,hg,hn,hB,hs,hf⟩,hm⟩
 · exact .inl h
 · exact .inr ⟨cap,⟨g,cells,e1,hg,hn,hB.far (by omega) u,hs,hf⟩,hm⟩
structure Vj (w wN:World) (gZ gR gS:Nat) (cz cr cs:Array Value) (C:Option Addr) (L:List Rat) (W:World):Prop where
 st:SE w W
 bz:Bx W gZ 27 cz
 br:Bx W gR 77 cr
 bs:Bx W gS 77 cs
 at_:At 2 Zg W gS C L
 sz:wN.heap.size<=W.heap.size
section
variable {w wN W W':World} {gZ gR gS:Nat} {cz cr cs:Array Value} {C:Option Addr} {L:List Rat}
theorem Vj.up (h:Vj w wN gZ gR gS cz cr cs C L W) (o:gZ<gS/\gR<gS/\gS<wN.heap.size/\w.heap.size<=gS) (hE:Env w) (hb:Below wN.heap.size W W'):Vj w wN gZ gR gS cz cr cs C L W':=by
 obtain⟨o1,o2,o3,o4⟩:=o;have hbl:=h.st.bl.trans (hb.mono (by omega));exact ⟨⟨hbl,hE.below hbl⟩,h.bz.below hb (by omega),h.br.below hb (by omega),h.bs.below hb o3,h.at_.below (hb.mono (by omega)),Nat.le_trans h.sz hb.size⟩
theorem Vj.call (h:Vj w wN gZ gR gS cz cr cs C L W) (o:gZ<gS/\gR<gS/\gS<wN.heap.size/\w.heap.size<=gS) (hE:Env w) (hb:Below W.heap.size W W'):Vj w wN gZ gR gS cz cr cs C L W':=h.up o hE (hb.mono h.sz)
end
end Go.Proofs.YtohgjenaclfegaaGreatDoor
namespace Tb
theorem Bw.ex {l:List Int} {w:Int} (hs:So l) (hw:1<=w):∃b a,Bw l w l.length b a:=by
 have h:∀k,k<=l.length->∃b a,Bw l w k b a:=fun k=>by
  induction k with
  | zero=>exact fun _=>⟨0,0,Bw.start l w⟩
  | succ k ih =>
   intro hk;obtain ⟨b,a,hB⟩:=ih (by omega);obtain ⟨n1,n2⟩:=hB.next hs hw (show k<l.length by omega);by_cases hb:b<(cw l l[k] w:Int)
   · exact⟨_,_,n1 hb⟩
   · exact⟨_,_,n2 hb⟩
 exact h l.length (Nat.le_refl _)
end Tb
namespace Go.Proofs.YtohgjenaclfegaaGreatDoor
open Go.RowKit Go.Shelf
def vR (a b:List UInt8):Value:=.agg #[.string ⟨a.toArray⟩,.string ⟨b.toArray⟩]
end Go.Proofs.YtohgjenaclfegaaGreatDoor

import Init.Data.Int.Pow
import Derived.WalkKit
import Derived.Lib.Hide
import Derived.Lib.Strings
import Derived.WalkSpells
import Derived.WalkLawsBesides
import Derived.Handy
import Derived.Outline
import Derived.Laws.BytesString
import Derived.Lib.QuietBelow
import Derived.BigQuiet
import Derived.StillTail
import Derived.Deep.DeepFit
import Derived.OwnWalk
import Derived.Laws.OwnMore
import Derived.Test.YtelljijajgiabaaGreatDoorShelf
import Derived.Lib.ItoaNum
import Derived.Lib.AtoiAll
set_option linter.unusedVariables false
set_option linter.unusedSimpArgs false
set_option maxRecDepth 100000
set_option maxHeartbeats 8000000
namespace Tb
def ch:Nat->Nat->Nat
 | _,0=>1
 | 0,_+1=>0
 | n+1,k+1=>ch n k+ch n (k+1)
theorem jE (n:Nat):ch n 0=1:=by cases n <;> rfl
theorem pU (n k:Nat):ch (n+1) (k+1)=ch n k+ch n (k+1):=rfl
theorem sF:∀ {n k:Nat},n<k->ch n k=0
 | 0,k+1,_=>rfl
 | n+1,k+1,h=>by rw[pU,sF (by omega),sF (by omega)]
theorem Ah:∀ {n k:Nat},k<=n->0<ch n k
 | n,0,_=>by rw[jE];omega
 | n+1,k+1,h=>by rw[pU];have:=Ah (n:=n) (k:=k) (by omega);omega
def sm (f:Nat->Int) (k:Nat):Nat->Int
 | 0=>0
 | m+1=>sm f k m+f (k+m)
theorem uN {f g:Nat->Int} {k:Nat}:∀ {m:Nat},(∀i,k<=i->i<k+m->f i=g i)->sm f k m=sm g k m
 | 0,_=>rfl
 | m+1,h=>by
  show sm f k m+f (k+m)=sm g k m+g (k+m)
  rw[uN (m:=m) (fun i h1 h2=>h i h1 (by omega)),h (k+m) (by omega) (by omega)]
theorem kQ (f:Nat->Int) (k:Nat):∀m,sm f k (m+1)=f k+sm f (k+1) m
 | 0=>by show 0+f (k+0)=f k+0;rw[Nat.add_zero];omega
 | m+1=>by
  show sm f k (m+1)+f (k+(m+1))=f k+(sm f (k+1) m+f (k+1+m))
  rw[kQ f k m,show k+(m+1)=k+1+m by omega];omega
theorem Jf (c d:Int) (f g:Nat->Int) (k:Nat):∀m,sm (fun i=>c*f i+d*g i) k m=c*sm f k m+d*sm g k m
 | 0=>by show (0:Int)=c*0+d*0;simp
 | m+1=>by
  show sm (fun i=>c*f i+d*g i) k m+(c*f (k+m)+d*g (k+m))=c*(sm f k m+f (k+m))+d*(sm g k m+g (k+m))
  rw[Jf c d f g k m,Int.mul_add,Int.mul_add];omega
theorem qI (f:Nat->Int) (k:Nat):∀m,sm (fun i=>f (i+1)) k m=sm f (k+1) m
 | 0=>rfl
 | m+1=>by
  show sm (fun i=>f (i+1)) k m+f (k+m+1)=sm f (k+1) m+f (k+1+m)
  rw[qI f k m,show k+m+1=k+1+m by omega]
theorem wG {f:Nat->Int} {k:Nat}:∀ {m:Nat},(∀i,0<=f i)->0<=sm f k m
 | 0,_=>Int.le_refl _
 | m+1,h=>by have:=wG (k:=k) (m:=m) h;have:=h (k+m);show 0<=sm f k m+f (k+m);omega
def tm (n:Nat) (c d:Int) (i:Nat):Int:=(ch n i:Int)*(c ^ i*d ^ (n-i))
def S (n k:Nat) (c d:Int):Int:=sm (tm n c d) k (n+1-k)
theorem KE {n i:Nat} {c d:Int} (h:n<i):tm n c d i=0:=by
 unfold tm;rw[sF h];simp
theorem Ut (n i:Nat) (c d:Int) (h:i<=n):tm (n+1) c d (i+1)=c*tm n c d i+d*tm n c d (i+1):=by
 unfold tm
 rw[pU,Nat.add_sub_add_right]
 rcases Nat.lt_or_ge i n with h1|h1
 · rw[show n-i=(n-(i+1))+1 by omega,Int.pow_succ,Int.pow_succ]
   push_cast
   grind
 · have:i=n:=by omega
   subst this;rw [sF (Nat.lt_succ_self i)];simp only[Nat.sub_self,Int.pow_zero,Int.pow_succ]
   push_cast
   grind
theorem Us (n:Nat) (c d:Int):tm (n+1) c d 0=d*tm n c d 0:=by
 unfold tm
 rw[jE,jE,Nat.sub_zero,Nat.sub_zero,Int.pow_succ];simp only[Int.pow_zero]
 grind
theorem rE {n k:Nat} {c d:Int} (h:n<k):S n k c d=0:=by
 unfold S
 rw[show n+1-k=0 by omega];rfl
theorem UC {f:Nat->Int} {k m:Nat} (h:f (k+m)=0):sm f k (m+1)=sm f k m:=by
 show sm f k m+f (k+m)=_
 rw[h];omega
theorem Kr (n k:Nat) (c d:Int):S (n+1) (k+1) c d=c*S n k c d+d*S n (k+1) c d:=by
 rcases Nat.lt_or_ge n k with h|h
 · rw[rE (by omega),rE (by omega),rE (by omega)];simp
 · unfold S
   rw[Nat.add_sub_add_right,←qI];rw [uN (g:=fun i=>c*tm n c d i+d*(fun i=>tm n c d (i+1)) i) (fun i h1 h2=>Ut n i c d (by omega))];rw [Jf,qI];have e:n+1-k=(n+1-(k+1))+1:=by omega
   rw[e,UC (f:=tm n c d) (k:=k+1) (KE (by omega))]
theorem DI:∀(n:Nat) (c d:Int),S n 0 c d=(c+d) ^ n
 | 0,c,d=>by
  show 0+tm 0 c d 0=_
  simp[tm,ch]
 | n+1,c,d=>by
  have h:=Kr n 0 c d
  have h1:S (n+1) 0 c d=tm (n+1) c d 0+S (n+1) 1 c d:=by
   unfold S;exact kQ _ 0 _
  have h2:S n 0 c d=tm n c d 0+S n 1 c d:=by
   unfold S;exact kQ _ 0 _
  rw[h1,h,Us,Int.pow_succ,←DI n c d,h2];simp only[Nat.zero_add]
  grind
theorem VK {n k:Nat} {c d:Int} (h:k<=n):S n k c d-S n (k+1) c d=tm n c d k:=by
 unfold S
 rw[show n+1-k=(n+1-(k+1))+1 by omega,kQ];omega
theorem Ci {n i:Nat} {c d:Int} (hc:0<=c) (hd:0<=d):0<=tm n c d i:=by
 unfold tm
 exact Int.mul_nonneg (Int.natCast_nonneg _) (Int.mul_nonneg (Int.pow_nonneg hc) (Int.pow_nonneg hd))
theorem TK {n k:Nat} {c d:Int} (hc:0<=c) (hd:0<=d):0<=S n k c d:=wG fun i=>Ci hc hd
theorem TL {n k:Nat} {c d:Int} (hc:0<=c) (hd:0<=d):S n (k+1) c d<=S n k c d:=by
 rcases Nat.lt_or_ge n k with h|h
 · rw[rE h,rE (by omega)];exact Int.le_refl _
 · have:=VK (c:=c) (d:=d) h;have:=Ci (n:=n) (i:=k) hc hd;omega
theorem Za {n:Nat} {c d:Int} (hc:0<=c) (hd:0<=d):∀ {k l:Nat},k<=l->S n l c d<=S n k c d
 | k,l,h=>by
  obtain⟨m,rfl⟩:=Nat.le.dest h;clear h
  induction m with
  | zero=>exact Int.le_refl _
  | succ m ih=>exact Int.le_trans (TL hc hd) ih
theorem Au {c d c' d':Int} (hc:0<=c) (hd:0<=d) (hd':0<=d') (hcc:c<=c') (hs:c+d=c'+d'):∀(n k:Nat),S n k c d<=S n k c' d'
 | 0,0=>by rw[DI,DI,hs];exact Int.le_refl _
 | 0,k+1=>by rw[rE (by omega),rE (by omega)];exact Int.le_refl _
 | n+1,0=>by rw[DI,DI,hs];exact Int.le_refl _
 | n+1,k+1=>by
  rw[Kr,Kr];have h1:=Int.mul_le_mul_of_nonneg_left (Au hc hd hd' hcc hs n k) (show 0<=c' by omega);have h2:=Int.mul_le_mul_of_nonneg_left (Au hc hd hd' hcc hs n (k+1)) hd';have h3:=Int.mul_le_mul_of_nonneg_left (TL (n:=n) (k:=k) hc hd) (show 0<=c'-c by omega);obtain rfl:d=c'+d'-c:=by omega
  generalize S n k c (c'+d'-c)=X at *;generalize S n (k+1) c (c'+d'-c)=Y at *;have e1:c*X+(c'+d'-c)*Y=c*X+c'*Y+d'*Y-c*Y:=by grind
  have e2:(c'-c)*Y=c'*Y-c*Y:=by grind
  have e3:(c'-c)*X=c'*X-c*X:=by grind
  omega
theorem CG (f:Nat->Int) (N:Nat):∀(m a b:Nat),a+b+m=N+1->sm (fun i=>f (N-i)) a m=sm f b m
 | 0,a,b,h=>rfl
 | m+1,a,b,h=>by
  rw[kQ f b m,←CG f N m a (b+1) (by omega)]
  show _+f (N-(a+m))=_
  rw[show N-(a+m)=b by omega];omega
theorem FU (f:Nat->Int) (k:Nat) (a:Nat):∀b,sm f k (a+b)=sm f k a+sm f (k+a) b
 | 0=>by show sm f k a=sm f k a+0;omega
 | b+1=>by
  show sm f k (a+b)+f (k+(a+b))=sm f k a+(sm f (k+a) b+f (k+a+b))
  rw[FU f k a b,show k+(a+b)=k+a+b by omega];omega
def vt (a b m i:Nat):Int:=(ch a i:Int)*(ch b (m-i):Int)
theorem KO {f:Nat->Int} {k:Nat}:∀ {m:Nat},(∀i,k<=i->i<k+m->f i=0)->sm f k m=0
 | 0,_=>rfl
 | m+1,h=>by
  show sm f k m+f (k+m)=0
  rw[KO (m:=m) (fun i h1 h2=>h i h1 (by omega)),h _ (by omega) (by omega)];rfl
theorem I4 (b:Nat):∀(a m:Nat),sm (vt a b m) 0 (m+1)=(ch (a+b) m:Int)
 | 0,m=>by
  rw[kQ,KO (fun i h1 h2=>by unfold vt;rw[sF (by omega)];simp)]
  unfold vt
  rw[jE,Nat.sub_zero,Nat.zero_add];simp
 | a+1,0=>by
  show 0+vt (a+1) b 0 0=_
  unfold vt
  rw[jE,jE,jE];rfl
 | a+1,m+1=>by
  rw[kQ,←qI]
  have e:sm (fun i=>vt (a+1) b (m+1) (i+1)) 0 (m+1)=sm (fun i=>1*vt a b m i+1*(fun i=>vt a b (m+1) (i+1)) i) 0 (m+1):=uN fun i h1 h2=>by
   show vt (a+1) b (m+1) (i+1)=1*vt a b m i+1*vt a b (m+1) (i+1)
   unfold vt
   rw[pU,Nat.add_sub_add_right]
   push_cast
   grind
  rw[e,Jf,I4 b a m,qI];have h2:=I4 b a (m+1);rw [kQ]at h2;rw [show a+1+b=(a+b)+1 by omega,pU]
  push_cast
  have h3:vt (a+1) b (m+1) 0=vt a b (m+1) 0:=by unfold vt;rw[jE,jE]
  rw[h3,←h2]
  show _+(_+1*sm (vt a b (m+1)) (0+1) (m+1))=_
  omega
def H (t m d k:Nat):Int:=sm (vt m (t-m) d) k (d+1-k)
theorem H_all {t m d:Nat} (h:m<=t):H t m d 0=(ch t d:Int):=by
 unfold H
 rw[Nat.sub_zero,I4,show m+(t-m)=t by omega]
theorem MH {a b m i:Nat} (h:i<=m):vt b a m (m-i)=vt a b m i:=by
 unfold vt
 rw[show m-(m-i)=i by omega,Int.mul_comm]
theorem TQ {t m d k:Nat} (h:m<=t) (hk:k<=d+1):H t m d k+H t (t-m) d (d+1-k)=(ch t d:Int):=by
 rw[←H_all h]
 unfold H
 rw[show t-(t-m)=m by omega];have e1:=FU (vt m (t-m) d) 0 k (d+1-k);rw [show k+(d+1-k)=d+1-0 by omega,Nat.zero_add]at e1;rw [e1];have e2:=CG (vt m (t-m) d) d k (d+1-k) 0 (by omega)
 rw[←e2,show d+1-(d+1-k)=k by omega,uN (f:=vt (t-m) m d) (g:=fun i=>vt m (t-m) d (d-i)) (fun i h1 h2=>by
  have:=MH (a:=t-m) (b:=m) (m:=d) (i:=i) (by omega)
  exact this.symm)]
 omega
def fc:Nat->Nat
 | 0=>1
 | n+1=>(n+1)*fc n
end Tb
namespace Tb
def ones (s:Nat):Nat->Nat
 | 0=>0
 | n+1=>ones s n+s / 2 ^ n % 2
end Tb
namespace Tb
theorem wL {a b D:Int} (h:0<D):Rat.divInt a D<=Rat.divInt b D↔a<=b:=by
 rw[Rat.le_iff_sub_nonneg,Rat.divInt_sub_divInt _ _ (by omega) (by omega),←Int.sub_mul,Rat.divInt_mul_right (by omega),Rat.divInt_nonneg_iff_of_pos_right h];omega
theorem UN {a b D:Int} (h:D≠0):Rat.divInt a D+Rat.divInt b D=Rat.divInt (a+b) D:=by
 rw[Rat.divInt_add_divInt _ _ h h,←Int.add_mul,Rat.divInt_mul_right h]
def Pq (n k:Nat) (c d:Int):Rat:=Rat.divInt (S n k c d) ((c+d) ^ n)
def Hq (t m d k:Nat):Rat:=Rat.divInt (H t m d k) (ch t d:Int)
section
variable {n k:Nat} {c d:Int} (hc:0<=c) (hd:0<=d) (h1:1<=c+d)
include h1
theorem den_pos:0<(c+d) ^ n:=Int.pow_pos (by omega)
theorem Zc:Pq n 0 c d=1:=by
 unfold Pq
 rw[DI];exact Rat.divInt_self' (by have:=den_pos h1 (n:=n);omega)
omit h1 in
theorem VL (h:n<k):Pq n k c d=0:=by
 unfold Pq
 rw[rE h,Rat.zero_divInt]
include hc hd
theorem VN {l:Nat} (h:k<=l):Pq n l c d<=Pq n k c d:=(wL (den_pos h1)).2 (Za hc hd h)
theorem Ou {c' d':Int} (hd':0<=d') (hcc:c<=c') (hs:c+d=c'+d'):Pq n k c d<=Pq n k c' d':=by
 unfold Pq
 rw[←hs];exact (wL (den_pos h1)).2 (Au hc hd hd' hcc hs n k)
theorem Fa:0<=Pq n k c d:=by
 unfold Pq
 rw[Rat.divInt_nonneg_iff_of_pos_right (den_pos h1)];exact TK hc hd
theorem Xi:Pq n k c d<=1:=by
 have:=VN (n:=n) hc hd h1 (Nat.zero_le k);rw [Zc h1]at this;exact this
end
theorem Ox {t m d k:Nat} (h:m<=t) (hd:d<=t) (hk:k<=d+1):Hq t m d k+Hq t (t-m) d (d+1-k)=1:=by
 have hp:=Ah hd
 unfold Hq
 rw[UN (by omega),TQ h hk];exact Rat.divInt_self' (by omega)
structure Le (n:Nat) (c d:Int) (level:Rat) (k:Nat):Prop where
 le:Pq n k c d<=level
 lt:∀j,j<k->level<Pq n j c d
theorem Le.unique {n:Nat} {c d:Int} {level:Rat} {k l:Nat} (h1:Le n c d level k) (h2:Le n c d level l):k=l:=by
 rcases Nat.lt_trichotomy k l with h|h|h
 · exact absurd h1.le (Rat.not_le.2 (h2.lt k h))
 · exact h
 · exact absurd h2.le (Rat.not_le.2 (h1.lt l h))
theorem Le.level {n:Nat} {c d:Int} {lo hi:Rat} {k l:Nat} (h1:Le n c d lo k) (h2:Le n c d hi l) (h:lo<=hi):l<=k:=by
 rcases Nat.lt_or_ge k l with hk|hk
 · exact absurd (Rat.le_trans h1.le h) (Rat.not_le.2 (h2.lt k hk))
 · exact hk
theorem Le.chance {n:Nat} {c d c' d':Int} (hc:0<=c) (hd:0<=d) (hp:1<=c+d) (hd':0<=d') (hcc:c<=c') (hs:c+d=c'+d') {level:Rat} {k l:Nat} (h1:Le n c d level k) (h2:Le n c' d' level l):k<=l:=by
 rcases Nat.lt_or_ge l k with hk|hk
 · exact absurd (Rat.le_trans (Ou hc hd hp hd' hcc hs) h2.le) (Rat.not_le.2 (h1.lt l hk))
 · exact hk
end Tb
namespace Go.Proofs.YtelljijajgiabaaGreatDoor
open Go.RowKit
abbrev aW (f:FuncId) (args:Array Value) (w:World) (v:Value):Prop:=Calls Tryz.prog f args w fun e w'=>e=.returned v/\Below w.heap.size w w'
theorem Y7 (a b:List UInt8):((⟨a.toArray⟩:ByteArray)++⟨b.toArray⟩)=⟨(a++b).toArray⟩:=by
 apply ByteArray.ext
 simp
theorem Y6 (l:List UInt8) (a b:Nat):(⟨l.toArray⟩:ByteArray).extract a b=⟨((l.drop a).take (b-a)).toArray⟩:=by
 rw[Lib.extract_eq]
theorem cu {k:IntKind} {a b:Int} (h:a=b):Ending.returned (.int k a)=.returned (.int k b):=by rw[h]
theorem aH {a b:Bool} (h:a=b):Ending.returned (.bool a)=.returned (.bool b):=by rw[h]
theorem gq (a:World):Below a.heap.size a a:=Below.refl _ _
theorem aj {a W w1:World} (h:Below a.heap.size a W) (hb:Below W.heap.size W w1):Below a.heap.size a w1:=h.trans (hb.mono h.size)
theorem bNew {a W:World} (h:Below a.heap.size a W) (o:Obj):Below a.heap.size a (W.alloc o):=h.alloc h.size o
theorem gu {a W:World} (h:Below a.heap.size a W) (d:Nat) (os:Array Obj):Below a.heap.size a (Sort.grow (redrawn W d) os):=aj h (below_regrown W d os)
theorem aJ {a W:World} (h:Below a.heap.size a W) {p:Addr} (hp:a.heap.size<=p.block) (u:Value):Below a.heap.size a (W.setCell p u):=h.setCell hp u
theorem aB {P:Program} {f:FuncId} {args:Array Value} {w:World} {v:Value} (h:Calls P f args w fun e w'=>e=.returned v/\w=w'):Calls P f args w fun e w'=>e=.returned v/\Below w.heap.size w w' :=
 h.mono fun _ _ h=>⟨h.1,h.2 ▸ Below.refl _ _⟩
theorem below_drewN {B:Nat} {a w:World} (h:Below B a w) (n:Nat):Below B a (w.drewN n):=⟨h.os,h.tape,h.output,h.size,h.block⟩
theorem Y5 (l:List UInt8) (k:Nat) (h:k<(⟨l.toArray⟩:ByteArray).size):(⟨l.toArray⟩:ByteArray)[k]'h=l[k]'(show k<l.length from h):=rfl
attribute [go_sem] Y7 Y6 Y5
def At {α:Type} (size:Nat) (f:α->List Value) (w:World) (B:Nat) (A:Option Addr) (p:List α):Prop :=
 0<p.length->∃b off,A=some ⟨b,off,none⟩/\b<B/\∀i c,p[i]? = some c->∀j u,(f c)[j]? = some u->w.cell? ⟨b,off+i*size+j,none⟩=some u
section
variable {α:Type} {size:Nat} {f:α->List Value} {w w':World} {B B':Nat} {A:Option Addr} {p:List α}
theorem At.keep (h:At size f w B A p) (hk:∀b o,b<B->w'.cell? ⟨b,o,none⟩=w.cell? ⟨b,o,none⟩):At size f w' B A p:=fun h0=>by
 obtain⟨b,off,e,hb,hc⟩:=h h0;exact ⟨b,off,e,hb,fun i c hi j u hj=>(hk b _ hb).trans (hc i c hi j u hj)⟩
theorem At.below (h:At size f w B A p) (hb:Below B w w'):At size f w' B A p:=h.keep fun b o hlt=>hb.cell (p:=⟨b,o,none⟩) hlt
theorem At.more (h:At size f w B A p) (hB:B<=B'):At size f w B' A p:=fun h0=>by
 obtain⟨b,off,e,hb,hc⟩:=h h0;exact ⟨b,off,e,by omega,hc⟩
theorem At.take (h:At size f w B A p) (n:Nat):At size f w B A (p.take n):=fun h0=>by
 obtain⟨b,off,e,hb,hc⟩:=h (by simp at h0;omega);refine ⟨b,off,e,hb,fun i c hi=>hc i c ?_⟩;rw [List.getElem?_take]at hi
 split at hi
 · exact hi
 · cases hi
theorem At.nil:At size f w B A ([]:List α):=fun h=>by simp at h
end
section
variable {P:Program} {ops:Array Oper} {md:Region.Mode} {C:World->Prop}
def GZ (P:Program) (md:Region.Mode) (ops:Array Oper) (C:World->Prop) (n:Nat) (L:Array Bool->Act->Prop):Nat->Array Bool->Act->Prop
 | 0,listed,a=>L listed a
 | f+1,listed,a=>Region.ready md ops listed≠[]/\∀i∈Region.ready md ops listed,i<n/\qOp P ops C i (GZ P md ops C n L f (listed.setIfInBounds i true)) a
theorem vS {n g:Nat} {L:Array Bool->Act->Prop} {Q':Exit->Act->World->Prop} (hL:∀listed a w,C w->L listed a->wpAny P md ops Q' g listed a w) :
 ∀(f:Nat) (listed:Array Bool) (a:Act) (w:World),C w->GZ P md ops C n L f listed a->wpAny P md ops Q' (f+g) listed a w
 | 0,listed,a,w,hC,h=>by rw[Nat.zero_add];exact hL _ _ _ hC h
 | f+1,listed,a,w,hC,h=>by
  rw[show f+1+g=(f+g)+1 by omega];exact ⟨fun h0=>absurd h0 h.1,fun i hi=>wpOp_of_qOp hC (fun a' w' hw' h'=>vS hL f _ a' w' hw' h') (h.2 i hi).2⟩
theorem GY {n i:Nat} {oi:Oper} {v:Value} {L:Array Bool->Act->Prop} (hi:ops[i]? = some oi) (hsel:∀(j:Nat) (o:Oper) cs b,ops[j]? = some o->o.op≠.select cs b)
 (hs:Region.sinkB md ops n=true) (hc:Region.chainB md ops n=true) (hn:n<ops.size) (hin:i<n) (hdone:∀listed a,L listed a->∀j∈Region.ready md ops listed,n<=j) :
 ∀(f:Nat) (listed:Array Bool) (a:Act),HeadInv md ops n listed ->
  (∀j oj,ops[j]? = some oj->j≠i->listed.getD j true=false->(∀e∈oj.after,Region.binds md e=true->e.on≠i)->oi.apart ops oj=true) ->
  i∈Region.ready md ops listed->YieldsIn P ops C oi v a ->
  GZ P md ops C n L f (listed.setIfInBounds i true) (a.put oi.dst v)->GZ P md ops C n L (f+1) listed a:=by
 intro f
 induction f with
 | zero =>
  intro listed a inv _ hr hy H;have hun:=(mem_ready.1 hr).1;refine ⟨List.ne_nil_of_mem hr,fun j hj=>?_⟩
  have hjn:j<n:=by
   rcases Nat.lt_or_ge j n with h|h
   · exact h
   · exact absurd hj (tail_waits hs hc hn inv _ i rfl hin hun j h)
  refine⟨hjn,?_⟩;by_cases hji:j=i
  · subst hji;exact hy.qOp hi H
  · have:=hdone _ _ H j (ready_mono hj hji);omega
 | succ f ih =>
  intro listed a inv hfree hr hy H;have hun:=(mem_ready.1 hr).1;refine ⟨List.ne_nil_of_mem hr,fun j hj=>?_⟩
  have hjn:j<n:=by
   rcases Nat.lt_or_ge j n with h|h
   · exact h
   · exact absurd hj (tail_waits hs hc hn inv _ i rfl hin hun j h)
  refine⟨hjn,?_⟩;by_cases hji:j=i
  · subst hji;exact hy.qOp hi H
  · have h1:=(H.2 j (ready_mono hj hji)).2;obtain ⟨hjun,oj,hoj,hall⟩:=mem_ready.1 hj
    have hnot:∀e∈oj.after,Region.binds md e=true->e.on≠i:=fun e he hb heq=>by
     have h1:=hall e he hb;rw [heq,getD_both hun]at h1;cases h1
    have h2:=qOp_put hoj (hfree j oj hoj hji hjun hnot) (fun cs b=>hsel i oi cs b hi) (fun cs b=>hsel j oj cs b hoj) hy h1
    have hfree':∀k ok,ops[k]? = some ok->k≠i->(listed.setIfInBounds j true).getD k true=false ->
     (∀e∈ok.after,Region.binds md e=true->e.on≠i)->oi.apart ops ok=true:=fun k ok hk hki hun' hno=>by
     refine hfree k ok hk hki ?_ hno;by_cases hjk:j=k
     · subst hjk;exact hjun
     · rw[getD_set_ne true hjk]at hun';exact hun'
    refine qOp_mono (fun a' h3=>ih (listed.setIfInBounds j true) a' (inv.set hj hjn) hfree' (ready_mono hr (Ne.symm hji)) h3.1 ?_) h2;rw [Array.setIfInBounds_comm _ _ hji];exact h3.2
theorem Dj {n g:Nat} {Lq:Act->Prop} (hsel:Region.noSelect ops=true) (hs:Region.sinkB md ops n=true) (hc:Region.chainB md ops n=true) (hn:n<ops.size) :
 ∀(l:List Oper) (k:Nat) (listed:Array Bool) (a:Act),(∀j,j<l.length->l[j]? = ops[k+j]?)->k+l.length=n->HeadInv md ops n listed ->
 Region.lexHead md ops g l.length k listed=true->wpQuiet P ops C Lq l a ->
 GZ P md ops C n (fun listed' a'=>Region.seqB md ops g n listed'=true/\Lq a') l.length listed a
 | [],k,listed,a,_,hk,_,hB,h=>by
  obtain rfl:k=n:=by simpa using hk
  exact⟨by simpa [Region.lexHead] using hB,h⟩
 | o :: l,k,listed,a,hl,hk,inv,hB,h=>by
  have h0:ops[k]? = some o:=by simpa using (hl 0 (by simp)).symm
  simp only[List.length_cons,Region.lexHead,Bool.and_eq_true]at hB;obtain ⟨⟨hr,hf⟩,hB'⟩:=hB;have hkn:k<n:=by simp only[List.length_cons]at hk;omega
  have hr':k∈Region.ready md ops listed:=by simpa using hr
  have hst:qOp P ops C k (wpQuiet P ops C Lq l) a:=by unfold qOp;simp only[h0];exact h
  obtain⟨v,hy,hK⟩:=yieldsIn_of_qOp h0 hst
  exact GY h0 (Region.noSelect_spec hsel) hs hc hn hkn (fun listed' a' hL=>seqB_ready hL.1) l.length listed a inv (Region.free_spec h0 hf) hr' hy
   (Dj hsel hs hc hn l (k+1) _ _ (fun j hj=>by have:=hl (j+1) (by simp;omega);simpa [Nat.add_assoc,Nat.add_comm 1 j] using this) (by simp only[List.length_cons]at hk;omega) (inv.set hr' hkn) hB' hK)
theorem Ap {Q:Exit->Act->World->Prop} {a:Act} {w:World} {l:List Oper} (n:Nat) (hB:Region.lexTailB .any l.toArray n=true)
 (h:wpQuiet P l.toArray (fun w'=>∃p:Regrown,w'=Sort.grow (redrawn w p.d) p.os) (fun a'=>∀w',(∃p:Regrown,w'=Sort.grow (redrawn w p.d) p.os)->wpList P l.toArray Q (l.drop n) a' w') (l.take n) a) :
 wpAny P .any l.toArray Q l.toArray.size (Array.replicate l.toArray.size false) a { w with drawn:=w.drawn+1 }:=by
 simp only[Region.lexTailB,Bool.and_eq_true,decide_eq_true_eq]at hB;obtain ⟨⟨⟨⟨hsel,hn⟩,hs⟩,hc⟩,hlex⟩:=hB;have hn':n<l.length:=by simpa using hn
 have htl:(l.take n).length=n:=by simp;omega
 have hdl:(l.drop n).length=l.toArray.size-n:=by simp
 have inv0:HeadInv .any l.toArray n (Array.replicate l.toArray.size false) :=
  ⟨by simp,fun j oj _ hl=>(by rw[getD_replicate_false]at hl;cases hl),fun t _ ht=>getD_in (by simpa using ht) (getD_replicate_false _ _)⟩
 have H:=Dj (md:=.any) (g:=l.toArray.size-n) hsel hs hc hn (l.take n) 0 _ a (fun j hj=>by
  have hj':j<n:=by rw[htl]at hj;exact hj
  simp[hj']) (by simpa using htl) inv0 (by rw[htl];exact hlex) h
 have:=vS (C:=fun w'=>∃p:Regrown,w'=Sort.grow (redrawn w p.d) p.os) (Q':=Q) (g:=l.toArray.size-n) (fun listed a' w' hC hL=>by
  have:=wpAny_of_seq (md:=.any) (Q':=Q) (l.drop n) n listed a' w' (fun j=>by simp[List.getElem?_drop]) (by rw[hdl];exact hL.1) (hL.2 w' hC)
  rwa [hdl]at this) _ _ _ _ ⟨⟨w.drawn+1,#[]⟩,by rw[Sort.grow_empty]⟩ H
 rw[htl,show n+(l.toArray.size-n)=l.toArray.size by omega]at this;exact this
theorem fD {id:Nat} {Q:Exit->Act->World->Prop} {a:Act} {w:World} {l:List Oper} (n:Nat) (hm:P.follows .mixedOrders=true) (hB:Region.lexTailB .any l.toArray n=true)
 (h:wpQuiet P l.toArray (fun w'=>∃p:Regrown,w'=Sort.grow (redrawn w p.d) p.os) (fun a'=>∀w',(∃p:Regrown,w'=Sort.grow (redrawn w p.d) p.os)->wpList P l.toArray Q (l.drop n) a' w') (l.take n) a):(Code.region id l.toArray true).wp P Q a w :=
 wp_region_any hm (Ap n hB h)
end
def Env (w : World) : Prop := Lib.TabIs Tryz.prog w "internal/strconv.uint64pow10" .u64 Lib.pow10Tab
theorem Env.below {w w':World} (h:Env w) (hb:Below w.heap.size w w'):Env w':=by
 unfold Env Lib.TabIs at *
 unfold World.var? at *
 cases hg : Tryz.prog.globalNamed "internal/strconv.uint64pow10" with
 | none=>rw[hg]at h;cases h
 | some g =>
  rw[hg]at h;simp only[Option.bind_some]at h ⊢
  have hlt:g<w.heap.size:=by
   rcases Nat.lt_or_ge g w.heap.size with h1|h1
   · exact h1
   · rw[Array.getElem?_eq_none h1]at h;cases h
  rw[hb.block g hlt];exact h
theorem Env.drewN {w:World} (h:Env w) (n:Nat):Env (w.drewN n):=h.below (below_drewN (Below.refl _ _) n)
theorem Env.regrown {w:World} (h:Env w) (d:Nat) (os:Array Obj):Env (Sort.grow (redrawn w d) os):=h.below (below_regrown w d os)
theorem below_grow (w:World) (k:Nat) (os:Array Obj):Below w.heap.size w (Sort.grow (w.drewN k) os):=below_regrown w _ os
theorem TJ (s cs:List UInt8) (w:World) (hs:s.length<=1000000) (hc:cs.length<=1000) (ha:∀b∈cs,b.toNat<128) :
 aW 177 #[.string ⟨s.toArray⟩,.string ⟨cs.toArray⟩] w (.string ⟨(Lib.trimS s cs).toArray⟩):=by
 refine (Any.strings_Trim_laid Tryz.laysTrim (by kernel_rfl) ⟨s.toArray⟩ ⟨cs.toArray⟩ w (show s.length<=_ by omega) (show cs.length< _ by omega) (fun j b hb=>ha b ?_)).mono fun e w' h=>h
 exact List.mem_of_getElem? hb
theorem Kt (s:List UInt8) (c:Int) (w:World) (h0:0<=c) (hc:c<=1000000) (hs:s.length<=1000000) :
 aW 146 #[.string ⟨s.toArray⟩,.int .i64 c] w (.string ⟨(Lib.repeatL s c.toNat).toArray⟩):=by
 obtain⟨c,rfl⟩:=Int.eq_ofNat_of_zero_le h0;have:s.length*c<=1000000*1000000:=Nat.mul_le_mul hs (by omega);exact Tryz.strings_Repeat ⟨s.toArray⟩ c w (by omega) (show s.length*c<=_ by omega)
theorem IK (n:Int) (w:World) (h0: -9223372036854775808<=n) (h1:n<=9223372036854775807) (hE:Env w) :
 aW 95 #[.int .i64 n] w (.string ⟨(Lib.itoa n).toArray⟩) :=
 (Tryz.strconv_Itoa n h0 h1 w hE).mono fun _ _ ⟨he,k,os,hw⟩=>⟨he,by rw[hw];exact below_grow w k os⟩
theorem TU (s:List UInt8) (v:Int) (w:World) (hs:s.length<=1000000) (h:Lib.atoiAll s=.ok v) :
 aW 179 #[.string ⟨s.toArray⟩] w (.tuple #[.int .i64 v,.nilIface]) :=
 (Tryz.strconv_Atoi_ok ⟨s.toArray⟩ (show s.length<=_ by omega) v h w).mono fun _ _ ⟨he,hw⟩=>⟨he,by
  rcases hw with rfl|⟨t,rfl⟩
  · exact Below.refl _ _
  · exact Lib.bytesWorld_below _ _ _⟩
theorem FI (s cs:List UInt8):Lib.trimS s cs=[]↔∀b∈s,b∈cs:=by
 have hd:∀l:List UInt8,l.dropWhile (cs.contains ·)=[]↔∀b∈l,b∈cs:=by
  intro l
  induction l with
  | nil=>simp
  | cons x l ih =>
   rw[List.dropWhile_cons];by_cases hx:x∈cs
   · simp[hx];simpa using ih
   · simp[hx]
 unfold Lib.trimS Lib.trimLeftS
 rw[hd]
 unfold Lib.trimRightS
 constructor
 · intro h b hb;by_cases hall:∀b∈s,b∈cs
   · exact hall b hb
   · have hne:s.reverse.dropWhile (cs.contains ·)≠[]:=fun he=>hall (fun b hb=>((hd s.reverse).1 he) b (by simpa using hb))
     obtain⟨x,l,hl⟩:=List.exists_cons_of_ne_nil hne;have hx:=h x (by rw[hl];simp);have:cs.contains x=true:=by simpa using hx
     have h2:=List.head?_dropWhile_not (cs.contains ·) s.reverse;rw [hl]at h2;simp at h2
     exact absurd hx h2
 · intro h b hb
   exact h b (by
    have:=(List.dropWhile_suffix (cs.contains ·) (l:=s.reverse)).subset (by simpa using hb)
    simpa using this)
def numOf (s:List UInt8):Nat:=s.foldl (fun n c=>10*n+(c.toNat-48)) 0
def nK (n:Nat) (s:List UInt8):Nat:=s.foldl (fun n c=>10*n+(c.toNat-48)) n
theorem zy:∀(s:List UInt8) (n:Nat),(∀c∈s,c.toNat<=57)->nK n s<(n+1)*10 ^ s.length
 | [],n,_=>by simp[nK]
 | c :: s,n,h=>by
  have h1:=zy s (10*n+(c.toNat-48)) (fun d hd=>h d (by simp[hd]));have h2:=h c (by simp);have h3:(10*n+(c.toNat-48)+1)*10 ^ s.length<=((n+1)*10)*10 ^ s.length:=Nat.mul_le_mul_right _ (by omega)
  show nK (10*n+(c.toNat-48)) s< _
  rw[List.length_cons,Nat.pow_succ,Nat.mul_comm (10 ^ s.length) 10,←Nat.mul_assoc];omega
theorem Qi (s:List UInt8) (h:∀c∈s,c.toNat<=57):numOf s<10 ^ s.length:=by
 have:=zy s 0 h
 show nK 0 s< _
 simpa using this
theorem zA:∀(s:List UInt8) (n:Nat),n<=nK n s
 | [],n=>Nat.le_refl _
 | c :: s,n=>Nat.le_trans (by omega) (zA s (10*n+(c.toNat-48)))
theorem uU:∀(s:List UInt8) (n:Nat),(∀c∈s,48<=c.toNat/\c.toNat<=57)->nK n s<1000000000000000000->Lib.parseUint10 n s=.ok (nK n s)
 | [],n,_,_=>rfl
 | c :: s,n,h,hb=>by
  have hc:=h c (by simp);have hge:=zA s (10*n+(c.toNat-48));have hb':nK (10*n+(c.toNat-48)) s<1000000000000000000:=hb;have e:n*10+(c.toNat-48)=10*n+(c.toNat-48):=by omega
  rw[Lib.parseUint10,if_pos hc,if_neg (by omega),if_neg (by omega),e];exact uU s _ (fun d hd=>h d (by simp[hd])) hb'
theorem Iw (s:List UInt8) (h:∀c∈s,48<=c.toNat/\c.toNat<=57) (hne:s≠[]) (hl:s.length<=18):Lib.atoiAll s=.ok (numOf s:Int):=by
 have hlt:=Qi s (fun c hc=>(h c hc).2);have h18:10 ^ s.length<=10 ^ 18:=Nat.pow_le_pow_right (by decide) hl;have hp:=uU s 0 h (by show numOf s< _;omega)
 match s,hne with
 | c :: r,_ =>
  have hc:=h c (by simp);have hm:Lib.parseMag (c :: r)=.ok (numOf (c :: r)):=by unfold Lib.parseMag;rw[if_neg (by simp)];exact hp
  have e1:(if c.toNat=43∨c.toNat=45 then r else c :: r)=c :: r:=if_neg (by omega);have hb:numOf (c :: r)<1000000000000000000:=by omega
  rw[Lib.atoiAll];simp only[e1,hm];rw [if_neg (by omega),if_neg (by omega),if_neg (by omega)]
end Go.Proofs.YtelljijajgiabaaGreatDoor
namespace Ig
def aT:List Int->Int
 | []=>0
 | g :: l=>g+10000*aT l
def Gr (l:List Int):Prop:=∀g∈l,0<=g/\g<10000
def grp (n:Nat):List Int:=if h:n=0 then [] else ((n % 10000:Nat):Int) :: grp (n / 10000)
 termination_by n
 decreasing_by omega
theorem aP:grp 0=[]:=by rw[grp,dif_pos rfl]
theorem dQ {n:Nat} (h:n≠0):grp n=((n % 10000:Nat):Int) :: grp (n / 10000):=by rw[grp,dif_neg h]
theorem bY (n:Nat):aT (grp n)=n:=by
 induction n using Nat.strongRecOn with
 | _ n ih =>
  by_cases h:n=0
  · subst h;rw[aP];rfl
  · rw[dQ h,aT,ih (n / 10000) (by omega)];omega
theorem dn (n:Nat):Gr (grp n):=by
 induction n using Nat.strongRecOn with
 | _ n ih =>
  by_cases h:n=0
  · subst h;rw[aP];intro g hg;cases hg
  · rw[dQ h];intro g hg
    rcases List.mem_cons.1 hg with rfl|hg
    · omega
    · exact ih (n / 10000) (by omega) g hg
theorem r_ {n:Nat}:grp n=[]↔n=0:=by
 constructor
 · intro h;by_cases h0:n=0
   · exact h0
   · rw[dQ h0]at h;cases h
 · rintro rfl;exact aP
theorem fU {l:List Int} (h:Gr l):0<=aT l:=by
 induction l with
 | nil=>exact Int.le_refl _
 | cons g l ih =>
  have h1:=h g (by simp);have h2:=ih (fun x hx=>h x (by simp[hx]))
  unfold aT;omega
theorem dF (a b:List Int):aT (a++b)=aT a+10000 ^ a.length*aT b:=by
 induction a with
 | nil=>simp[aT]
 | cons g a ih =>
  rw[List.cons_append,aT,ih,aT,List.length_cons,Int.pow_succ];rw [Int.mul_add,←Int.mul_assoc,Int.mul_comm 10000 (10000 ^ a.length)];omega
theorem nN {l:List Int} (h:Gr l):aT l<10000 ^ l.length:=by
 induction l with
 | nil=>decide
 | cons g l ih =>
  have h1:=h g (by simp);have h2:=ih (fun x hx=>h x (by simp[hx]));rw [aT,List.length_cons,Int.pow_succ];omega
theorem w_:∀ {l:List Int},Gr l->l.getLast? ≠ some 0->l=grp (aT l).toNat
 | [],_,_=>by rw[aT];exact aP.symm
 | g :: l,h,ht=>by
  have h1:=h g (by simp);have h2:Gr l:=fun x hx=>h x (by simp[hx])
  have h3:=fU h2
  have ht2:l.getLast? ≠ some 0:=by
   cases l with
   | nil=>simp
   | cons a l=>simpa [List.getLast?_cons_cons] using ht
  have ih:=w_ h2 ht2
  have hne:(aT (g :: l)).toNat≠0:=by
   rw[aT];intro h0;have hl0:aT l=0:=by omega
   rw[hl0]at ih;rw [show (0:Int).toNat=0 from rfl,aP]at ih;subst ih;have hg:g=0:=by omega
   subst hg;simp at ht
  rw[dQ hne];have e1:((aT (g :: l)).toNat / 10000)=(aT l).toNat:=by rw[aT];omega
  have e2:(((aT (g :: l)).toNat % 10000:Nat):Int)=g:=by rw[aT];omega
  rw[e1,e2,←ih]
def bf (l:List Int):List Int:=(l.reverse.dropWhile (·==0)).reverse
theorem fB (l:List Int):bf (l++[0])=bf l:=by simp[bf]
theorem jR {l:List Int} {g:Int} (h:g≠0):bf (l++[g])=l++[g]:=by simp[bf,h]
theorem mD (l:List Int):l=[]∨∃m g,l=m++[g]:=by
 rcases List.eq_nil_or_concat l with h|⟨m,g,h⟩
 · exact .inl h
 · exact .inr ⟨m,g,by simpa using h⟩
theorem nY:∀(n:Nat) {l:List Int},l.length=n->Gr l->bf l=grp (aT l).toNat
 | 0,l,hn,_=>by
  obtain rfl:l=[]:=List.length_eq_zero_iff.1 hn;exact aP.symm
 | n+1,l,hn,h=>by
  rcases mD l with rfl|⟨m,g,rfl⟩
  · simp at hn
  · have hm:Gr m:=fun x hx=>h x (by simp[hx])
    by_cases hg:g=0
    · subst hg;rw [fB,nY n (by simpa using hn) hm,dF];simp [aT]
    · rw[jR hg];exact w_ h (by simp[hg])
theorem kN {l:List Int} (h:Gr l):bf l=grp (aT l).toNat:=nY _ rfl h
theorem xX (n:Nat):(grp n).getLast? ≠ some 0:=by
 induction n using Nat.strongRecOn with
 | _ n ih =>
  by_cases h:n=0
  · subst h;rw[aP];simp
  · rw[dQ h]
    cases hl:grp (n / 10000) with
    | nil =>
     have h0:=r_.1 hl;simp;omega
    | cons a l =>
     rw[List.getLast?_cons_cons,←hl];exact ih (n / 10000) (by omega)
theorem fG {n k:Nat} (h:n<10000 ^ k):(grp n).length<=k:=by
 induction k generalizing n with
 | zero =>
  have:n=0:=by simpa using h
  subst this;rw[aP];simp
 | succ k ih =>
  by_cases h0:n=0
  · subst h0;rw[aP];simp
  · rw[dQ h0,List.length_cons]
    have:n / 10000<10000 ^ k:=by
     rw[Nat.pow_succ]at h;exact Nat.div_lt_of_lt_mul (by rw[Nat.mul_comm];exact h)
    have:=ih this;omega
theorem iZ (n:Nat):n<10000 ^ (grp n).length:=by
 have h1:=nN (dn n);rw [bY]at h1;have h2:((10000 ^ (grp n).length:Nat):Int)=(10000:Int) ^ (grp n).length:=by simp
 omega
def bW (l:List Int) (i:Nat):Int:=l[i]?.getD 0
theorem dS {l:List Int} {i:Nat} (h:i<l.length):bW l i=l[i]:=by simp[bW,h]
theorem jF {l:List Int} {i:Nat} (h:l.length<=i):bW l i=0:=by simp[bW,h]
theorem yO (l:List Int) (k:Nat):aT (l.take (k+1))=aT (l.take k)+10000 ^ k*bW l k:=by
 by_cases h:k<l.length
 · rw[List.take_succ_eq_append_getElem h,dF,dS h];simp [aT,Nat.min_eq_left (Nat.le_of_lt h)]
 · rw[List.take_of_length_le (by omega),List.take_of_length_le (by omega),jF (by omega)];simp
def dI (d:Nat->Int):Nat->Int
 | 0=>0
 | n+1=>dI d n+10000 ^ n*d n
structure gG (d:Nat->Int) (i:Nat) (out:List Int) (carry:Int):Prop where
 len:out.length=i
 gr:Gr out
 eq:aT out+10000 ^ i*carry=dI d i
theorem jX (d:Nat->Int):gG d 0 [] 0:=⟨rfl,(fun g h=>by cases h),by simp[aT,dI]⟩
theorem lW {d:Nat->Int} {i:Nat} {out:List Int} {carry:Int} (h:gG d i out carry):gG d (i+1) (out++[(d i+carry) % 10000]) ((d i+carry) / 10000):=by
 refine⟨by simp[h.len],fun g hg=>?_,?_⟩
 · rcases List.mem_append.1 hg with hg|hg
   · exact h.gr g hg
   · obtain rfl:g=(d i+carry) % 10000:=by simpa using hg
     omega
 · rw[dF,h.len,dI,←h.eq,Int.pow_succ];have e:(d i+carry) % 10000+10000*((d i+carry) / 10000)=d i+carry:=by omega
   simp only[aT];rw [Int.mul_zero,Int.add_zero,Int.mul_assoc,Int.add_assoc,←Int.mul_add,e,Int.mul_add];omega
theorem mX {d:Nat->Int} {i:Nat} {out:List Int} {carry:Int} (h:gG d i out carry) (h0:0<=dI d i):0<=carry:=by
 have h1:=nN h.gr;rw [h.len]at h1;have h2:=h.eq
 rcases Int.lt_or_le carry 0 with hc|hc
 · have h3:(10000:Int) ^ i*carry<=10000 ^ i*(-1):=Int.mul_le_mul_of_nonneg_left (by omega) (Int.le_of_lt (Int.pow_pos (by decide)));omega
 · exact hc
theorem qU {d:Nat->Int} {i:Nat} {out:List Int} (h:gG d i out 0):bf out=grp (dI d i).toNat:=by
 rw[kN h.gr];have:=h.eq;rw [Int.mul_zero,Int.add_zero]at this;rw [this]
theorem zW (a b:Nat->Int) (n:Nat):dI (fun i=>a i+b i) n=dI a n+dI b n:=by
 induction n with
 | zero=>rfl
 | succ n ih=>simp only[dI,ih,Int.mul_add];omega
theorem zV (a b:Nat->Int) (n:Nat):dI (fun i=>a i-b i) n=dI a n-dI b n:=by
 induction n with
 | zero=>rfl
 | succ n ih=>simp only[dI,ih,Int.mul_sub];omega
theorem Hz (a:Nat->Int) (c:Int) (n:Nat):dI (fun i=>a i*c) n=dI a n*c:=by
 induction n with
 | zero=>simp[dI]
 | succ n ih=>simp only[dI,ih,Int.add_mul,Int.mul_assoc]
theorem EK (l:List Int) (n:Nat):dI (bW l) n=aT (l.take n):=by
 induction n with
 | zero=>rfl
 | succ n ih=>rw[dI,ih,yO]
theorem oH {l:List Int} {n:Nat} (h:l.length<=n):dI (bW l) n=aT l:=by rw[EK,List.take_of_length_le h]
theorem fK {l:List Int} (h:Gr l) (i:Nat):0<=bW l i/\bW l i<10000:=by
 by_cases hi:i<l.length
 · rw[dS hi];exact h _ (List.getElem_mem hi)
 · rw[jF (by omega)];omega
theorem lS {a b:Nat} (h:(grp a).length<(grp b).length):a<b:=by
 rcases Nat.lt_or_ge a b with h1|h1
 · exact h1
 · have h2:=iZ a;have:b<10000 ^ (grp a).length:=by omega
   have:=fG this;omega
theorem mW {l m:List Int} (hl:Gr l) (hm:Gr m) (hlen:l.length=m.length) (k:Nat) (hk:k<l.length) (hd:l.drop (k+1)=m.drop (k+1)) (hlt:bW l k<bW m k):aT l<aT m:=by
 have e:∀ {x:List Int} (hx:k<x.length),x=x.take k++(bW x k :: x.drop (k+1)):=fun {x} hx=>by
  rw[dS hx,←List.drop_eq_getElem_cons hx,List.take_append_drop]
 rw[e hk,e (show k<m.length by omega),dF,dF,aT,aT,hd];have h1:=nN (l:=l.take k) (fun g hg=>hl g (List.mem_of_mem_take hg));have h2:=fU (l:=m.take k) (fun g hg=>hm g (List.mem_of_mem_take hg));have e1:(l.take k).length=k:=by simp;omega
 have e2:(m.take k).length=k:=by simp;omega
 rw[e1]at h1;rw [e1,e2]
 have h3:(10000:Int) ^ k*(bW l k+10000*aT (m.drop (k+1)))+10000 ^ k<=10000 ^ k*(bW m k+10000*aT (m.drop (k+1))):=by
  have:(10000:Int) ^ k*(bW l k+10000*aT (m.drop (k+1)))+10000 ^ k=10000 ^ k*(bW l k+10000*aT (m.drop (k+1))+1):=by rw[Int.mul_add (10000 ^ k) (_+_) 1,Int.mul_one]
  rw[this];exact Int.mul_le_mul_of_nonneg_left (by omega) (Int.le_of_lt (Int.pow_pos (by decide)))
 omega
end Ig
namespace Ig
def dg (k:Nat):UInt8:=UInt8.ofNat (48+k)
theorem dW {n:Nat} (h:n<10):Go.Lib.decDigits n=[dg n]:=by rw[Go.Lib.decDigits,dif_pos h];rfl
theorem fO {n:Nat} (h:¬n<10):Go.Lib.decDigits n=Go.Lib.decDigits (n / 10)++[dg (n % 10)]:=by rw[Go.Lib.decDigits,dif_neg h];rfl
def four (g:Nat):List UInt8:=[dg (g / 1000),dg (g / 100 % 10),dg (g / 10 % 10),dg (g % 10)]
theorem P8 {g:Nat} (h:g<10000):List.replicate (4-Go.Lib.nDigits g) 48++Go.Lib.decDigits g=four g:=by
 have z:dg 0=48:=rfl;by_cases h1:g<10
 · rw[Go.Lib.nDigits_small h1,dW h1,four,show g / 1000=0 by omega,show g / 100 % 10=0 by omega,show g / 10 % 10=0 by omega,show g % 10=g by omega,z];rfl
 · by_cases h2:g<100
   · rw[Go.Lib.nDigits_big h1,Go.Lib.nDigits_small (by omega),fO h1,dW (by omega),four,show g / 1000=0 by omega,show g / 100 % 10=0 by omega,show g / 10 % 10=g / 10 by omega,z];rfl
   · by_cases h3:g<1000
     · rw[Go.Lib.nDigits_big h1,Go.Lib.nDigits_big (by omega),Go.Lib.nDigits_small (by omega),fO h1,fO (by omega),dW (by omega),four,show g / 1000=0 by omega,show g / 100 % 10=g / 10 / 10 by omega,z];rfl
     · rw[Go.Lib.nDigits_big h1,Go.Lib.nDigits_big (by omega),Go.Lib.nDigits_big (by omega),Go.Lib.nDigits_small (by omega),fO h1,fO (by omega),fO (by omega),dW (by omega),four,show g / 1000=g / 10 / 10 / 10 by omega,show g / 100 % 10=g / 10 / 10 % 10 by omega];rfl
theorem J4 {n:Nat} (h:10000<=n):Go.Lib.decDigits n=Go.Lib.decDigits (n / 10000)++four (n % 10000):=by
 rw[fO (by omega),fO (show ¬n / 10<10 by omega),fO (show ¬n / 10 / 10<10 by omega),fO (show ¬n / 10 / 10 / 10<10 by omega),four];rw [show n / 10 / 10 / 10 / 10=n / 10000 by omega,show n / 10 / 10 / 10 % 10=n % 10000 / 1000 by omega,show n / 10 / 10 % 10=n % 10000 / 100 % 10 by omega,show n / 10 % 10=n % 10000 / 10 % 10 by omega,show n % 10=n % 10000 % 10 by omega];simp
theorem jC (n:Nat):(Go.Lib.decDigits n).length=Go.Lib.nDigits n:=by
 induction n using Nat.strongRecOn with
 | _ n ih =>
  by_cases h:n<10
  · rw[dW h,Go.Lib.nDigits_small h];rfl
  · rw[fO h,Go.Lib.nDigits_big h,List.length_append,ih (n / 10) (by omega)];rfl
theorem JB (n:Nat):1<=Go.Lib.nDigits n:=by
 by_cases h:n<10
 · rw[Go.Lib.nDigits_small h];omega
 · rw[Go.Lib.nDigits_big h];omega
theorem GH {n k:Nat} (hk:1<=k):Go.Lib.nDigits n<=k↔n<10 ^ k:=by
 induction k generalizing n with
 | zero=>omega
 | succ k ih =>
  by_cases h:n<10
  · rw[Go.Lib.nDigits_small h];have:10 ^ 1<=10 ^ (k+1):=Nat.pow_le_pow_right (by decide) (by omega)
    constructor
    · intro _;omega
    · intro _;omega
  · rw[Go.Lib.nDigits_big h];by_cases hk0:k=0
    · subst hk0;have:=JB (n / 10);simp;omega
    · have:=ih (n:=n / 10) (by omega);rw [Nat.pow_succ];omega
def xR (c:UInt8):Bool:=decide (48<=c.toNat)&&decide (c.toNat<=57)
theorem qW {k:Nat} (h:k<10):(dg k).toNat=48+k:=by
 have:∀k:Fin 10,(dg k.val).toNat=48+k.val:=by decide
 exact this ⟨k,h⟩
theorem QG {k:Nat} (h:k<10):xR (dg k)=true:=by simp[xR,qW h];omega
theorem pR (n:Nat):(Go.Lib.decDigits n).all xR=true:=by
 induction n using Nat.strongRecOn with
 | _ n ih =>
  by_cases h:n<10
  · rw[dW h];simp[QG h]
  · rw[fO h,List.all_append,ih (n / 10) (by omega)];simp[QG (show n % 10<10 by omega)]
theorem Aa (n:Nat):Go.Lib.decDigits n≠[]:=by
 intro h;have:=jC n;rw [h]at this;have:=JB n;simp at *;omega
theorem Sm {n:Nat} (h:n≠0):(Go.Lib.decDigits n).head? ≠ some 48:=by
 induction n using Nat.strongRecOn with
 | _ n ih =>
  by_cases h1:n<10
  · rw[dW h1];intro he;simp at he
    have:=qW h1;rw [he]at this;have:(48:UInt8).toNat=48:=rfl;omega
  · rw[fO h1]
    cases hd:Go.Lib.decDigits (n / 10) with
    | nil=>exact absurd hd (Aa _)
    | cons a l =>
     have:=ih (n / 10) (by omega) (by omega);rw [hd]at this;simpa using this
def nv (s:List UInt8):Nat:=s.foldl (fun n c=>10*n+(c.toNat-48)) 0
theorem yK (s:List UInt8) (c:UInt8):nv (s++[c])=10*nv s+(c.toNat-48):=by simp[nv,List.foldl_append]
theorem Eh (n:Nat):nv (Go.Lib.decDigits n)=n:=by
 induction n using Nat.strongRecOn with
 | _ n ih =>
  by_cases h:n<10
  · rw[dW h];simp[nv,qW h]
  · rw[fO h,yK,ih (n / 10) (by omega),qW (show n % 10<10 by omega)];omega
theorem Vu {a b:Nat} (h:Go.Lib.decDigits a=Go.Lib.decDigits b):a=b:=by rw[←Eh a,h,Eh]
theorem J3:∀(k:Nat) {s:List UInt8},s.length=k->s≠[]->s.all xR=true->(s=[48]∨s.head? ≠ some 48)->Go.Lib.decDigits (nv s)=s
 | 0,s,hk,hne,_,_=>absurd (List.length_eq_zero_iff.1 hk) hne
 | k+1,s,hk,hne,hd,hz=>by
  rcases List.eq_nil_or_concat s with h|⟨m,c,h⟩
  · exact absurd h hne
  · obtain rfl:s=m++[c]:=by simpa using h
    rw[List.all_append,Bool.and_eq_true]at hd;have hc:48<=c.toNat/\c.toNat<=57:=by simpa [xR] using hd.2
    have hcd:dg (c.toNat-48)=c:=by
     apply UInt8.toNat_inj.1
     rw[qW (by omega)];omega
    by_cases hm:m=[]
    · subst hm;rw [yK];simp only[nv,List.foldl_nil,Nat.mul_zero,Nat.zero_add,List.nil_append];rw [dW (by omega),hcd]
    · have hz2:m.head? ≠ some 48:=by
       rcases hz with h|h
       · have:(m++[c]).length=1:=by rw[h];rfl
         simp at this
         exact absurd this hm
       · cases m with
         | nil=>exact absurd rfl hm
         | cons a l=>simpa using h
      have ih:=J3 k (s:=m) (by simpa using hk) hm hd.1 (.inr hz2)
      have hpos:nv m≠0:=by
       intro h0;rw [h0,dW (by decide)]at ih;rw [←ih]at hz2;exact hz2 rfl
      rw[yK,fO (by omega),show (10*nv m+(c.toNat-48)) / 10=nv m by omega,ih,show (10*nv m+(c.toNat-48)) % 10=c.toNat-48 by omega,hcd]
def iw (s:List UInt8):List UInt8:=if [45].isPrefixOf s then s.drop 1 else s
def bF (s:List UInt8):Bool:= !(iw s).isEmpty&&decide ((iw s).length<=200)&&(iw s).all xR&&(s==[48]|| !((iw s).head? == some 48))
def fits (z:Int):Prop:=z.natAbs<10 ^ 200
theorem itoa_nonneg {z:Int} (h:0<=z):Go.Lib.itoa z=Go.Lib.decDigits z.natAbs:=by
 unfold Go.Lib.itoa
 rw[if_neg (by omega),show z.toNat=z.natAbs by omega]
theorem itoa_neg {z:Int} (h:z<0):Go.Lib.itoa z=45 :: Go.Lib.decDigits z.natAbs:=by
 unfold Go.Lib.itoa
 rw[if_pos h]
theorem ug (n:Nat):[45].isPrefixOf (Go.Lib.decDigits n)=false:=by
 cases hd:Go.Lib.decDigits n with
 | nil=>rfl
 | cons a l =>
  have h:=pR n;rw [hd,List.all_cons,Bool.and_eq_true]at h
  have ha:48<=a.toNat:=by
   have:=h.1;simp [xR]at this
   omega
  have hne:¬(45:UInt8)=a:=by
   rintro rfl;have:(45:UInt8).toNat=45:=rfl;omega
  simp[List.isPrefixOf,hne]
theorem rJ (z:Int):iw (Go.Lib.itoa z)=Go.Lib.decDigits z.natAbs:=by
 unfold iw
 by_cases h:0<=z
 · rw[itoa_nonneg h,ug];rfl
 · rw[itoa_neg (by omega)];rfl
theorem bQ {z:Int} (h:fits z):bF (Go.Lib.itoa z)=true:=by
 unfold bF
 rw[rJ,pR];have h1:(Go.Lib.decDigits z.natAbs).length<=200:=by rw[jC,GH (by decide)];exact h
 have h2:=Aa z.natAbs
 have h3:(Go.Lib.itoa z==[48]|| !((Go.Lib.decDigits z.natAbs).head? == some 48))=true:=by
  by_cases hz:z=0
  · subst hz;rw [itoa_nonneg (by decide),show (0:Int).natAbs=0 from rfl,dW (by decide)];rfl
  · have:=Sm (n:=z.natAbs) (by omega);rw [Bool.or_eq_true];right;simpa using this
 rw[h3];simp [h2,h1]
theorem jm {s:List UInt8} (h:bF s=true):∃z,s=Go.Lib.itoa z/\fits z:=by
 simp only[bF,Bool.and_eq_true,Bool.or_eq_true,decide_eq_true_eq,Bool.not_eq_true',beq_iff_eq]at h;obtain ⟨⟨⟨h1,h2⟩,h3⟩,h4⟩:=h
 have hne:iw s≠[]:=by
  intro he;rw[he]at h1;cases h1
 by_cases hs:[45].isPrefixOf s=true
 · have hu:iw s=s.drop 1:=by unfold iw;rw[if_pos hs]
   have hcons:s=45 :: iw s:=by
    rw[hu]
    cases s with
    | nil=>cases hs
    | cons a l =>
     simp[List.isPrefixOf]at hs
     rw[←hs];rfl
   have hhd:(iw s).head? ≠ some 48:=by
    rcases h4 with h4|h4
    · rw[h4]at hcons;cases hcons
    · simpa using h4
   have hd:=J3 _ rfl hne h3 (.inr hhd)
   have hpos:nv (iw s)≠0:=by
    intro h0;rw [h0,dW (by decide)]at hd;rw [←hd]at hhd;exact hhd rfl
   refine⟨-(nv (iw s):Int),?_,?_⟩
   · rw[itoa_neg (by omega),Int.natAbs_neg,Int.natAbs_natCast,hd];exact hcons
   · unfold fits
     rw[Int.natAbs_neg,Int.natAbs_natCast,←GH (by decide),←jC,hd];exact h2
 · have hu:iw s=s:=by unfold iw;rw[if_neg hs]
   rw[hu]at h2 h3 hne h4
   have hd:=J3 _ rfl hne h3 (by
    rcases h4 with h4|h4
    · exact .inl h4
    · exact .inr (by simpa using h4))
   refine⟨(nv s:Int),?_,?_⟩
   · rw[itoa_nonneg (by omega),Int.natAbs_natCast,hd]
   · unfold fits
     rw[Int.natAbs_natCast,←GH (by decide),←jC,hd];exact h2
theorem dH {a b:Int} (h:Go.Lib.itoa a=Go.Lib.itoa b):a=b:=by
 have h1:a.natAbs=b.natAbs:=Vu (by rw[←rJ,h,rJ]);by_cases ha:0<=a <;> by_cases hb:0<=b
 · omega
 · rw[itoa_nonneg ha,itoa_neg (by omega)]at h;have:=ug a.natAbs;rw [h]at this;simp[List.isPrefixOf]at this
 · rw[itoa_neg (by omega),itoa_nonneg hb]at h;have:=ug b.natAbs;rw [←h]at this;simp[List.isPrefixOf]at this
 · omega
end Ig
namespace Ig
theorem wZ {v:Nat} (h:v≠0):(0:Int) :: grp v=grp (10000*v):=by
 rw[dQ (n:=10000*v) (by omega),show 10000*v % 10000=0 by omega,show 10000*v / 10000=v by omega];rfl
theorem jh {v:Nat}:(grp v).length=0↔v=0:=by rw[List.length_eq_zero_iff,r_]
def from_ (l:List Int) (i:Nat):Int:=aT (l.drop i)
theorem lT {l:List Int} {i:Nat} (h:i<l.length):from_ l i=l[i]+10000*from_ l (i+1):=by
 unfold from_
 rw[List.drop_eq_getElem_cons h];rfl
theorem oD (l:List Int):from_ l 0=aT l:=rfl
theorem qR {l:List Int} {i:Nat} (h:l.length<=i):from_ l i=0:=by unfold from_;rw[List.drop_eq_nil_of_le h];rfl
theorem qQ {l:List Int} (h:Gr l) (i:Nat):0<=from_ l i:=fU fun g hg=>h g (List.mem_of_mem_drop hg)
theorem vM {g R M:Nat} (hM:0<M) (hg:g<10000):(g+10000*(R % M)) / M<10000/\(g+10000*R) / M=(g+10000*(R % M)) / M+10000*(R / M)/\(g+10000*R) % M=(g+10000*(R % M)) % M:=by
 have h1:=Nat.mod_lt R hM;have h2:=Nat.mod_add_div R M;refine ⟨?_,?_,?_⟩
 · rw[Nat.div_lt_iff_lt_mul hM];have:10000*(R % M)+10000<=10000*M:=by omega
   omega
 · have e:g+10000*R=(g+10000*(R % M))+M*(10000*(R / M)):=by
    conv=>lhs;rw[←h2]
    rw[Nat.mul_add,←Nat.mul_assoc,←Nat.mul_assoc,Nat.mul_comm M 10000];omega
   rw[e,Nat.add_mul_div_left _ _ hM]
 · have e:g+10000*R=(g+10000*(R % M))+M*(10000*(R / M)):=by
    conv=>lhs;rw[←h2]
    rw[Nat.mul_add,←Nat.mul_assoc,←Nat.mul_assoc,Nat.mul_comm M 10000];omega
   rw[e,Nat.add_mul_mod_self_left]
theorem Dv {R M d:Nat} (hM:0<M):M*(d+1)<=R↔d<R / M:=by
 rw[Nat.lt_iff_add_one_le,Nat.le_div_iff_mul_le hM,Nat.mul_comm]
def dX (a b:Nat):Int:=if a<b then -1 else if a=b then 0 else 1
theorem kK {a b:Nat} (h:a<b):dX a b= -1:=by unfold dX;rw[if_pos h]
theorem nR (a:Nat):dX a a=0:=by unfold dX;rw[if_neg (by omega),if_pos rfl]
theorem kL {a b:Nat} (h:b<a):dX a b=1:=by unfold dX;rw[if_neg (by omega),if_neg (by omega)]
theorem ER {a b:Nat} (h:(grp a).length≠(grp b).length):dX a b=if (grp a).length<(grp b).length then -1 else 1:=by
 by_cases h1:(grp a).length<(grp b).length
 · rw[if_pos h1,kK (lS h1)]
 · rw[if_neg h1,kL (lS (by omega))]
theorem J7 {a b:Nat} (hlen:(grp a).length=(grp b).length) (k:Nat) (hk:k<(grp a).length) (hd:(grp a).drop (k+1)=(grp b).drop (k+1)) (hne:bW (grp a) k≠bW (grp b) k):dX a b=if bW (grp a) k<bW (grp b) k then -1 else 1:=by
 have va:=bY a;have vb:=bY b;by_cases h:bW (grp a) k<bW (grp b) k
 · have:=mW (dn a) (dn b) hlen k hk hd h;rw [if_pos h,kK (by omega)]
 · have:=mW (dn b) (dn a) hlen.symm k (by omega) hd.symm (by omega);rw [if_neg h,kL (by omega)]
theorem Ae {a b:Nat} (h:grp a=grp b):dX a b=0:=by
 have va:=bY a;have vb:=bY b;rw [h,vb]at va;have:a=b:=by omega
 subst this;exact nR a
theorem mZ {d:Nat->Int} {n m:Nat} (h:∀i,n<=i->d i=0) (hm:n<=m):dI d m=dI d n:=by
 induction m with
 | zero =>
  have:n=0:=by omega
  subst this;rfl
 | succ m ih =>
  by_cases hn:n=m+1
  · subst hn;rfl
  · rw[dI,h m (by omega),ih (by omega)];simp
end Ig
namespace Go.Proofs.YtelljijajgiabaaGreatDoor
open Go.RowKit
structure Kp (p:Prop):Prop where
 out:p
def Bx (w:World) (g:Nat) (t:TypeId) (cs:Array Value):Prop:=w.heap[g]? = some (.cells cs t (0,0))
section
variable {w w':World} {g:Nat} {t:TypeId} {cs:Array Value}
theorem Bx.lt (h:Bx w g t cs):g<w.heap.size:=by
 rcases Nat.lt_or_ge g w.heap.size with h1|h1
 · exact h1
 · unfold Bx at h;rw[Array.getElem?_eq_none h1]at h;cases h
theorem Bx.mk (w:World) (t:TypeId) (cs:Array Value):Bx (w.alloc (.cells cs t)) w.heap.size t cs:=by
 show (w.heap.push _)[w.heap.size]? = _
 simp
theorem Bx.new (h:Bx w g t cs) (o:Obj):Bx (w.alloc o) g t cs:=(Below.heap_alloc w o g h.lt).trans h
theorem Bx.below {B:Nat} (h:Bx w g t cs) (hb:Below B w w') (hg:g<B):Bx w' g t cs:=(hb.block g hg).trans h
theorem Bx.call (h:Bx w g t cs) (hb:Below w.heap.size w w'):Bx w' g t cs:=h.below hb h.lt
theorem Bx.again (h:Bx w g t cs) (d:Nat) (os:Array Obj):Bx (Sort.grow (redrawn w d) os) g t cs:=h.call (below_regrown w d os)
theorem Bx.drewN (h:Bx w g t cs) (n:Nat):Bx (w.drewN n) g t cs:=h
theorem Bx.cell (h:Bx w g t cs) (i:Nat) {v:Value} (hv:cs[i]? = some v):w.cell? ⟨g,i,none⟩=some v:=by
 unfold Bx at h
 simp[World.cell?,h,hv]
theorem Bx.frozen (h:Bx w g t cs) (i:Nat):w.frozen? ⟨g,i,none⟩=false:=by
 unfold Bx at h
 simp[World.frozen?,h]
theorem Bx.p3 {w:World} {g:Nat} {t:TypeId} {x0 x1 x2:Value} {l:List Value} (h:Bx w g t (x0 :: x1 :: x2 :: l).toArray):w.cell? ⟨g,0,none⟩=some x0/\w.cell? ⟨g,1,none⟩=some x1/\w.cell? ⟨g,2,none⟩=some x2:=⟨h.cell 0 rfl,h.cell 1 rfl,h.cell 2 rfl⟩
theorem Bx.p4 {w:World} {g:Nat} {t:TypeId} {x0 x1 x2 x3:Value} {l:List Value} (h:Bx w g t (x0 :: x1 :: x2 :: x3 :: l).toArray):w.cell? ⟨g,0,none⟩=some x0/\w.cell? ⟨g,1,none⟩=some x1/\w.cell? ⟨g,2,none⟩=some x2/\w.cell? ⟨g,3,none⟩=some x3:=⟨h.cell 0 rfl,h.cell 1 rfl,h.cell 2 rfl,h.cell 3 rfl⟩
theorem Bx.p5 {w:World} {g:Nat} {t:TypeId} {x0 x1 x2 x3 x4:Value} {l:List Value} (h:Bx w g t (x0 :: x1 :: x2 :: x3 :: x4 :: l).toArray):w.cell? ⟨g,0,none⟩=some x0/\w.cell? ⟨g,1,none⟩=some x1/\w.cell? ⟨g,2,none⟩=some x2/\w.cell? ⟨g,3,none⟩=some x3/\w.cell? ⟨g,4,none⟩=some x4:=⟨h.cell 0 rfl,h.cell 1 rfl,h.cell 2 rfl,h.cell 3 rfl,h.cell 4 rfl⟩
theorem Bx.p6 {w:World} {g:Nat} {t:TypeId} {x0 x1 x2 x3 x4 x5:Value} {l:List Value} (h:Bx w g t (x0 :: x1 :: x2 :: x3 :: x4 :: x5 :: l).toArray):w.cell? ⟨g,0,none⟩=some x0/\w.cell? ⟨g,1,none⟩=some x1/\w.cell? ⟨g,2,none⟩=some x2/\w.cell? ⟨g,3,none⟩=some x3/\w.cell? ⟨g,4,none⟩=some x4/\w.cell? ⟨g,5,none⟩=some x5:=⟨h.cell 0 rfl,h.cell 1 rfl,h.cell 2 rfl,h.cell 3 rfl,h.cell 4 rfl,h.cell 5 rfl⟩
theorem Bx.p7 {w:World} {g:Nat} {t:TypeId} {x0 x1 x2 x3 x4 x5 x6:Value} {l:List Value} (h:Bx w g t (x0 :: x1 :: x2 :: x3 :: x4 :: x5 :: x6 :: l).toArray):w.cell? ⟨g,0,none⟩=some x0/\w.cell? ⟨g,1,none⟩=some x1/\w.cell? ⟨g,2,none⟩=some x2/\w.cell? ⟨g,3,none⟩=some x3/\w.cell? ⟨g,4,none⟩=some x4/\w.cell? ⟨g,5,none⟩=some x5/\w.cell? ⟨g,6,none⟩=some x6:=⟨h.cell 0 rfl,h.cell 1 rfl,h.cell 2 rfl,h.cell 3 rfl,h.cell 4 rfl,h.cell 5 rfl,h.cell 6 rfl⟩
theorem Bx.p8 {w:World} {g:Nat} {t:TypeId} {x0 x1 x2 x3 x4 x5 x6 x7:Value} {l:List Value} (h:Bx w g t (x0 :: x1 :: x2 :: x3 :: x4 :: x5 :: x6 :: x7 :: l).toArray):w.cell? ⟨g,0,none⟩=some x0/\w.cell? ⟨g,1,none⟩=some x1/\w.cell? ⟨g,2,none⟩=some x2/\w.cell? ⟨g,3,none⟩=some x3/\w.cell? ⟨g,4,none⟩=some x4/\w.cell? ⟨g,5,none⟩=some x5/\w.cell? ⟨g,6,none⟩=some x6/\w.cell? ⟨g,7,none⟩=some x7:=⟨h.cell 0 rfl,h.cell 1 rfl,h.cell 2 rfl,h.cell 3 rfl,h.cell 4 rfl,h.cell 5 rfl,h.cell 6 rfl,h.cell 7 rfl⟩
theorem Bx.p9 {w:World} {g:Nat} {t:TypeId} {x0 x1 x2 x3 x4 x5 x6 x7 x8:Value} {l:List Value} (h:Bx w g t (x0 :: x1 :: x2 :: x3 :: x4 :: x5 :: x6 :: x7 :: x8 :: l).toArray):w.cell? ⟨g,0,none⟩=some x0/\w.cell? ⟨g,1,none⟩=some x1/\w.cell? ⟨g,2,none⟩=some x2/\w.cell? ⟨g,3,none⟩=some x3/\w.cell? ⟨g,4,none⟩=some x4/\w.cell? ⟨g,5,none⟩=some x5/\w.cell? ⟨g,6,none⟩=some x6/\w.cell? ⟨g,7,none⟩=some x7/\w.cell? ⟨g,8,none⟩=some x8:=⟨h.cell 0 rfl,h.cell 1 rfl,h.cell 2 rfl,h.cell 3 rfl,h.cell 4 rfl,h.cell 5 rfl,h.cell 6 rfl,h.cell 7 rfl,h.cell 8 rfl⟩
theorem Bx.p10 {w:World} {g:Nat} {t:TypeId} {x0 x1 x2 x3 x4 x5 x6 x7 x8 x9:Value} {l:List Value} (h:Bx w g t (x0 :: x1 :: x2 :: x3 :: x4 :: x5 :: x6 :: x7 :: x8 :: x9 :: l).toArray):w.cell? ⟨g,0,none⟩=some x0/\w.cell? ⟨g,1,none⟩=some x1/\w.cell? ⟨g,2,none⟩=some x2/\w.cell? ⟨g,3,none⟩=some x3/\w.cell? ⟨g,4,none⟩=some x4/\w.cell? ⟨g,5,none⟩=some x5/\w.cell? ⟨g,6,none⟩=some x6/\w.cell? ⟨g,7,none⟩=some x7/\w.cell? ⟨g,8,none⟩=some x8/\w.cell? ⟨g,9,none⟩=some x9:=⟨h.cell 0 rfl,h.cell 1 rfl,h.cell 2 rfl,h.cell 3 rfl,h.cell 4 rfl,h.cell 5 rfl,h.cell 6 rfl,h.cell 7 rfl,h.cell 8 rfl,h.cell 9 rfl⟩
theorem Bx.set (h:Bx w g t cs) (i:Nat) (u:Value):Bx (w.setCell ⟨g,i,none⟩ u) g t (cs.setIfInBounds i u):=by
 unfold Bx at h ⊢
 simp[World.setCell,Array.getElem?_modify,h]
theorem Bx.far (h:Bx w g t cs) {p:Addr} (hp:g≠p.block) (u:Value):Bx (w.setCell p u) g t cs:=(Below.heap_setCell w p u g hp).trans h
end
def I64 (x:Int):Prop:= -9223372036854775808<=x/\x<=9223372036854775807
theorem ah (w:World) (o:Obj):(w.alloc o).heap.size=w.heap.size+1:=by
 show (w.heap.push o).size=_
 simp
def aO (c:Int):List Value:=[.int .i64 c]
theorem wV:∃i z,Tryz.prog.info? 3=some i/\i.zero=some z/\i.size=1/\z.cells.size=1/\i.bytes=8:=by
 have h:(Tryz.prog.info? 3).map (fun i=>(i.size,i.bytes,i.zero.map (·.cells.size)))=some (1,8,some 1):=by kernel_rfl
 cases hi:Tryz.prog.info? 3 with
 | none=>rw[hi]at h;cases h
 | some i =>
  rw[hi]at h;simp only[Option.map_some,Option.some.injEq,Prod.mk.injEq]at h;obtain ⟨h1,h2,h3⟩:=h
  cases hz:i.zero with
  | none=>rw[hz]at h3;cases h3
  | some z=>rw[hz]at h3;exact⟨i,z,rfl,hz,h1,by simpa using h3,h2⟩
theorem au (W:World) (o:Obj):Below W.heap.size W (W.alloc o):=(Below.refl W.heap.size W).alloc (Nat.le_refl _) o
theorem jH {α:Type} (a:α):∃b,Kp (a=b):=⟨a,⟨rfl⟩⟩
theorem nC (s:List UInt8) (w:World):Calls Tryz.prog 176 #[.string ⟨s.toArray⟩,.string ⟨#[45]⟩] w fun e w'=>e=.returned (.string ⟨(Ig.iw s).toArray⟩)/\w=w' :=
 (Tryz.strings_TrimPrefix ⟨s.toArray⟩ ⟨#[45]⟩ w).mono fun e w' ⟨h1,h2⟩=>⟨by
  rw[h1]
  have:Lib.trimPrefix s [45]=Ig.iw s:=by
   unfold Lib.trimPrefix Ig.iw
   rfl
  simp only[this],h2.symm⟩
def Uu:List UInt8:=[48,49,50,51,52,53,54,55,56,57]
theorem U4 (b:UInt8):b∈Uu↔Ig.xR b=true:=by
 have:∀b:Fin 256,(UInt8.ofNat b.val)∈Uu↔Ig.xR (UInt8.ofNat b.val)=true:=by decide +kernel
 have h:=this ⟨b.toNat,b.toNat_lt⟩;simpa using h
theorem H7 (s:List UInt8):(Lib.trimS s Uu).isEmpty=s.all Ig.xR:=by
 rw[Bool.eq_iff_iff,List.isEmpty_iff,FI];simp only[List.all_eq_true,U4]
theorem nM (s:List UInt8) (hs:s.length<=1000000) (w:World) :
 aW 134 #[.string ⟨s.toArray⟩] w (.bool (Ig.bF s)):=by
 have hT:=fun w0=>nC s w0
 have hul:(Ig.iw s).length<=1000000:=by
  unfold Ig.iw
  split
  · rw[List.length_drop];omega
  · omega
 have hD:=fun w0=>TJ (Ig.iw s) Uu w0 hul (by decide) (by decide)
 have hdt:=H7 (Ig.iw s);have hdef:Kp (Ig.bF s=(!(Ig.iw s).isEmpty&&decide ((Ig.iw s).length<=200)&&(Ig.iw s).all Ig.xR&&(s==[48]|| !((Ig.iw s).head? == some 48)))):=⟨rfl⟩
 generalize Ig.iw s=d at *;by_cases h0:d=[]
 · subst h0;have hfin:Kp (Ig.bF s=false):=⟨by rw[hdef.out];rfl⟩
   clear hdt hdef hD
   go_enter Tryz.func134,Tryz.ntmps134
   go_wp2_with (go_at_call 176;refine (hT _).mono ?_;rintro _ _ ⟨rfl,rfl⟩)
   go_ret;exact ⟨aH hfin.out.symm,Below.refl _ _⟩
 · have e0:d.isEmpty=false:=by simpa using h0
   by_cases hl:d.length<=200
   · have t1:decide ((d.length:Int) > 200)=false:=by simp;omega
     cases hdd:d.all Ig.xR
     · have hfin:Kp (Ig.bF s=false):=⟨by rw[hdef.out,hdd];simp⟩
       rw[hdd]at hdt;clear hdef h0 hdd
       go_enter Tryz.func134,Tryz.ntmps134
       go_wp2_with (first
        | (go_at_call 176;refine (hT _).mono ?_;rintro _ _ ⟨rfl,rfl⟩)
        | (go_at_call 177;refine (hD _).mono ?_;rintro _ w1 ⟨rfl,hb⟩))
       go_ret;exact ⟨aH hfin.out.symm,hb⟩
     · rw[hdd]at hdt;by_cases hz:s=[48]
       · have hfin:Kp (Ig.bF s=true):=⟨by rw[hdef.out,hdd,e0,decide_eq_true hl,hz];rfl⟩
         subst hz;clear hdef h0 hdd
         go_enter Tryz.func134,Tryz.ntmps134
         go_wp2_with (first
          | (go_at_call 176;refine (hT _).mono ?_;rintro _ _ ⟨rfl,rfl⟩)
          | (go_at_call 177;refine (hD _).mono ?_;rintro _ w1 ⟨rfl,hb⟩))
         go_ret;exact ⟨aH hfin.out.symm,hb⟩
       · have hpos:0<d.length:=by
          cases d with
          | nil=>exact absurd rfl h0
          | cons a l=>simp
         have hhd:d.head? = some d[0]:=by
          cases d with
          | nil=>exact absurd rfl h0
          | cons a l=>rfl
         have hzb:(s==[48])=false:=by simpa using hz
         by_cases hc:d[0]=48
         · have hfin:Kp (Ig.bF s=false):=⟨by rw[hdef.out,hdd,e0,hhd,hc,hzb];simp⟩
           have t2:(((d[0].toNat:Nat):Int) != 48)=false:=by rw[hc];rfl
           clear hdef h0 hdd hhd hc
           go_enter Tryz.func134,Tryz.ntmps134
           go_wp2_with (first
            | (go_at_call 176;refine (hT _).mono ?_;rintro _ _ ⟨rfl,rfl⟩)
            | (go_at_call 177;refine (hD _).mono ?_;rintro _ w1 ⟨rfl,hb⟩))
           go_ret;exact ⟨aH hfin.out.symm,hb⟩
         · have hfin:Kp (Ig.bF s=true):=⟨by rw[hdef.out,hdd,e0,hhd,hzb,decide_eq_true hl];simp[hc]⟩
           have hne:¬d[0].toNat=48:=fun h=>hc (by apply UInt8.toNat_inj.1;exact h)
           have t2:(((d[0].toNat:Nat):Int) != 48)=true:=by simp;omega
           clear hdef h0 hdd hhd hc
           go_enter Tryz.func134,Tryz.ntmps134
           go_wp2_with (first
            | (go_at_call 176;refine (hT _).mono ?_;rintro _ _ ⟨rfl,rfl⟩)
            | (go_at_call 177;refine (hD _).mono ?_;rintro _ w1 ⟨rfl,hb⟩))
           go_ret;exact ⟨aH hfin.out.symm,hb⟩
   · have t1:decide ((d.length:Int) > 200)=true:=by simp;omega
     have hfin:Kp (Ig.bF s=false):=⟨by rw[hdef.out,decide_eq_false hl];simp⟩
     clear hdt hdef hD h0
     go_enter Tryz.func134,Tryz.ntmps134
     go_wp2_with (go_at_call 176;refine (hT _).mono ?_;rintro _ _ ⟨rfl,rfl⟩)
     go_ret;exact ⟨aH hfin.out.symm,Below.refl _ _⟩
end Go.Proofs.YtelljijajgiabaaGreatDoor

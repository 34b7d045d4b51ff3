import Init.Data.Int.Pow
import Derived.Test.YtohgjenaclfegaaGreatDoorQR01
import Derived.Test.YtohgjenaclfegaaGreatDoorQK03
import Derived.Lib.QuietBelow
import Derived.BigQuiet
set_option linter.unusedVariables false
set_option linter.unusedSimpArgs false
set_option maxRecDepth 100000
set_option maxHeartbeats 8000000
namespace Tb
def ch:Nat->Nat->Nat
 | _,0=>1
 | 0,_+1=>0
 | n+1,k+1=>ch n k+ch n (k+1)
theorem rZ (n:Nat):ch n 0=1:=by cases n <;> rfl
theorem r_ (n k:Nat):ch (n+1) (k+1)=ch n k+ch n (k+1):=rfl
theorem pY:∀ {n k:Nat},n<k->ch n k=0
 | 0,k+1,_=>rfl
 | n+1,k+1,h=>by rw[r_,pY (by omega),pY (by omega)]
def sm (f:Nat->Int) (k:Nat):Nat->Int
 | 0=>0
 | m+1=>sm f k m+f (k+m)
theorem zB {f g:Nat->Int} {k:Nat}:∀ {m:Nat},(∀i,k<=i->i<k+m->f i=g i)->sm f k m=sm g k m
 | 0,_=>rfl
 | m+1,h=>by
  show sm f k m+f (k+m)=sm g k m+g (k+m)
  rw[zB (m:=m) (fun i h1 h2=>h i h1 (by omega)),h (k+m) (by omega) (by omega)]
theorem oJ (f:Nat->Int) (k:Nat):∀m,sm f k (m+1)=f k+sm f (k+1) m
 | 0=>by show 0+f (k+0)=f k+0;rw[Nat.add_zero];omega
 | m+1=>by
  show sm f k (m+1)+f (k+(m+1))=f k+(sm f (k+1) m+f (k+1+m))
  rw[oJ f k m,show k+(m+1)=k+1+m by omega];omega
theorem Jm (c d:Int) (f g:Nat->Int) (k:Nat):∀m,sm (fun i=>c*f i+d*g i) k m=c*sm f k m+d*sm g k m
 | 0=>by show (0:Int)=c*0+d*0;simp
 | m+1=>by
  show sm (fun i=>c*f i+d*g i) k m+(c*f (k+m)+d*g (k+m))=c*(sm f k m+f (k+m))+d*(sm g k m+g (k+m))
  rw[Jm c d f g k m,Int.mul_add,Int.mul_add];omega
theorem sS (f:Nat->Int) (k:Nat):∀m,sm (fun i=>f (i+1)) k m=sm f (k+1) m
 | 0=>rfl
 | m+1=>by
  show sm (fun i=>f (i+1)) k m+f (k+m+1)=sm f (k+1) m+f (k+1+m)
  rw[sS f k m,show k+m+1=k+1+m by omega]
def tm (n:Nat) (c d:Int) (i:Nat):Int:=(ch n i:Int)*(c ^ i*d ^ (n-i))
def S (n k:Nat) (c d:Int):Int:=sm (tm n c d) k (n+1-k)
theorem ED {n i:Nat} {c d:Int} (h:n<i):tm n c d i=0:=by
 unfold tm;rw[pY h];simp
theorem OA (n i:Nat) (c d:Int) (h:i<=n):tm (n+1) c d (i+1)=c*tm n c d i+d*tm n c d (i+1):=by
 unfold tm
 rw[r_,Nat.add_sub_add_right]
 rcases Nat.lt_or_ge i n with h1|h1
 · rw[show n-i=(n-(i+1))+1 by omega,Int.pow_succ,Int.pow_succ]
   push_cast
   grind
 · have:i=n:=by omega
   subst this;rw [pY (Nat.lt_succ_self i)];simp only[Nat.sub_self,Int.pow_zero,Int.pow_succ]
   push_cast
   grind
theorem Oz (n:Nat) (c d:Int):tm (n+1) c d 0=d*tm n c d 0:=by
 unfold tm
 rw[rZ,rZ,Nat.sub_zero,Nat.sub_zero,Int.pow_succ];simp only[Int.pow_zero]
 grind
theorem l7 {n k:Nat} {c d:Int} (h:n<k):S n k c d=0:=by
 unfold S
 rw[show n+1-k=0 by omega];rfl
theorem OL {f:Nat->Int} {k m:Nat} (h:f (k+m)=0):sm f k (m+1)=sm f k m:=by
 show sm f k m+f (k+m)=_
 rw[h];omega
theorem yX (n k:Nat) (c d:Int):S (n+1) (k+1) c d=c*S n k c d+d*S n (k+1) c d:=by
 rcases Nat.lt_or_ge n k with h|h
 · rw[l7 (by omega),l7 (by omega),l7 (by omega)];simp
 · unfold S
   rw[Nat.add_sub_add_right,←sS];rw [zB (g:=fun i=>c*tm n c d i+d*(fun i=>tm n c d (i+1)) i) (fun i h1 h2=>OA n i c d (by omega))];rw [Jm,sS];have e:n+1-k=(n+1-(k+1))+1:=by omega
   rw[e,OL (f:=tm n c d) (k:=k+1) (ED (by omega))]
theorem xG:∀(n:Nat) (c d:Int),S n 0 c d=(c+d) ^ n
 | 0,c,d=>by
  show 0+tm 0 c d 0=_
  simp[tm,ch]
 | n+1,c,d=>by
  have h:=yX n 0 c d
  have h1:S (n+1) 0 c d=tm (n+1) c d 0+S (n+1) 1 c d:=by
   unfold S;exact oJ _ 0 _
  have h2:S n 0 c d=tm n c d 0+S n 1 c d:=by
   unfold S;exact oJ _ 0 _
  rw[h1,h,Oz,Int.pow_succ,←xG n c d,h2];simp only[Nat.zero_add]
  grind
theorem Qp {n k:Nat} {c d:Int} (h:k<=n):S n k c d-S n (k+1) c d=tm n c d k:=by
 unfold S
 rw[show n+1-k=(n+1-(k+1))+1 by omega,oJ];omega
theorem FX {n i:Nat} {c d:Int} (hc:0<=c) (hd:0<=d):0<=tm n c d i:=by
 unfold tm
 exact Int.mul_nonneg (Int.natCast_nonneg _) (Int.mul_nonneg (Int.pow_nonneg hc) (Int.pow_nonneg hd))
theorem UU {n k:Nat} {c d:Int} (hc:0<=c) (hd:0<=d):S n (k+1) c d<=S n k c d:=by
 rcases Nat.lt_or_ge n k with h|h
 · rw[l7 h,l7 (by omega)];exact Int.le_refl _
 · have:=Qp (c:=c) (d:=d) h;have:=FX (n:=n) (i:=k) hc hd;omega
theorem uT {c d c' d':Int} (hc:0<=c) (hd:0<=d) (hd':0<=d') (hcc:c<=c') (hs:c+d=c'+d'):∀(n k:Nat),S n k c d<=S n k c' d'
 | 0,0=>by rw[xG,xG,hs];exact Int.le_refl _
 | 0,k+1=>by rw[l7 (by omega),l7 (by omega)];exact Int.le_refl _
 | n+1,0=>by rw[xG,xG,hs];exact Int.le_refl _
 | n+1,k+1=>by
  rw[yX,yX];have h1:=Int.mul_le_mul_of_nonneg_left (uT hc hd hd' hcc hs n k) (show 0<=c' by omega);have h2:=Int.mul_le_mul_of_nonneg_left (uT hc hd hd' hcc hs n (k+1)) hd';have h3:=Int.mul_le_mul_of_nonneg_left (UU (n:=n) (k:=k) hc hd) (show 0<=c'-c by omega);obtain rfl:d=c'+d'-c:=by omega
  generalize S n k c (c'+d'-c)=X at *;generalize S n (k+1) c (c'+d'-c)=Y at *;have e1:c*X+(c'+d'-c)*Y=c*X+c'*Y+d'*Y-c*Y:=by grind
  have e2:(c'-c)*Y=c'*Y-c*Y:=by grind
  have e3:(c'-c)*X=c'*X-c*X:=by grind
  omega
def vt (a b m i:Nat):Int:=(ch a i:Int)*(ch b (m-i):Int)
def H (t m d k:Nat):Int:=sm (vt m (t-m) d) k (d+1-k)
end Tb
namespace Tb
def ones (s:Nat):Nat->Nat
 | 0=>0
 | n+1=>ones s n+s / 2 ^ n % 2
def cnt (P:Nat->Bool):Nat->Nat
 | 0=>0
 | N+1=>cnt P N+if P N then 1 else 0
end Tb
namespace Tb
theorem SH {a b D:Int} (h:0<D):Rat.divInt a D<=Rat.divInt b D↔a<=b:=by
 rw[Rat.le_iff_sub_nonneg,Rat.divInt_sub_divInt _ _ (by omega) (by omega),←Int.sub_mul,Rat.divInt_mul_right (by omega),Rat.divInt_nonneg_iff_of_pos_right h];omega
theorem OZ {a b D:Int} (h:D≠0):Rat.divInt a D+Rat.divInt b D=Rat.divInt (a+b) D:=by
 rw[Rat.divInt_add_divInt _ _ h h,←Int.add_mul,Rat.divInt_mul_right h]
def Pq (n k:Nat) (c d:Int):Rat:=Rat.divInt (S n k c d) ((c+d) ^ n)
section
variable {n k:Nat} {c d:Int} (hc:0<=c) (hd:0<=d) (h1:1<=c+d)
include h1
theorem den_pos:0<(c+d) ^ n:=Int.pow_pos (by omega)
theorem NJ:Pq n 0 c d=1:=by
 unfold Pq
 rw[xG];exact Rat.divInt_self' (by have:=den_pos h1 (n:=n);omega)
omit h1 in
theorem FM (h:n<k):Pq n k c d=0:=by
 unfold Pq
 rw[l7 h,Rat.zero_divInt]
theorem Qq:Pq (n+1) (k+1) c d=Rat.divInt c (c+d)*Pq n k c d+Rat.divInt d (c+d)*Pq n (k+1) c d:=by
 unfold Pq
 have e:(c+d)*(c+d) ^ n=(c+d) ^ (n+1):=by rw[Int.pow_succ,Int.mul_comm]
 rw[Rat.divInt_mul_divInt,Rat.divInt_mul_divInt,e,OZ (by have:=den_pos h1 (n:=n+1);omega),yX]
include hc hd
theorem Iz {c' d':Int} (hd':0<=d') (hcc:c<=c') (hs:c+d=c'+d'):Pq n k c d<=Pq n k c' d':=by
 unfold Pq
 rw[←hs];exact (SH (den_pos h1)).2 (uT hc hd hd' hcc hs n k)
end
structure Le (n:Nat) (c d:Int) (level:Rat) (k:Nat):Prop where
 le:Pq n k c d<=level
 lt:∀j,j<k->level<Pq n j c d
theorem Le.level {n:Nat} {c d:Int} {lo hi:Rat} {k l:Nat} (h1:Le n c d lo k) (h2:Le n c d hi l) (h:lo<=hi):l<=k:=by
 rcases Nat.lt_or_ge k l with hk|hk
 · exact absurd (Rat.le_trans h1.le h) (Rat.not_le.2 (h2.lt k hk))
 · exact hk
theorem Le.chance {n:Nat} {c d c' d':Int} (hc:0<=c) (hd:0<=d) (hp:1<=c+d) (hd':0<=d') (hcc:c<=c') (hs:c+d=c'+d') {level:Rat} {k l:Nat} (h1:Le n c d level k) (h2:Le n c' d' level l):k<=l:=by
 rcases Nat.lt_or_ge l k with hk|hk
 · exact absurd (Rat.le_trans (Iz hc hd hp hd' hcc hs) h2.le) (Rat.not_le.2 (h1.lt l hk))
 · exact hk
end Tb
namespace Tb
end Tb
namespace Go.Proofs.YtohgjenaclfegaaGreatDoor
open Go.RowKit Go.Shelf
section
variable (a b:Rat) (w:World)
def Uo (a b:Rat):Prop:=Ig.fits (a.num*b.den)/\Ig.fits (b.num*a.den)/\Ig.fits (a.num*b.den+b.num*a.den)/\Ig.fits ((a.den:Int)*b.den)
end
section
variable (a b:Rat) (w:World)
end
end Go.Proofs.YtohgjenaclfegaaGreatDoor
namespace Tb
theorem Nr:∀n k:Nat,ch n k<=2 ^ n
 | 0,0=>by decide
 | 0,k+1=>by show 0<=_;omega
 | n+1,0=>by show 1<=_;exact Nat.one_le_two_pow
 | n+1,k+1=>by
  have h1:=Nr n k;have h2:=Nr n (k+1);rw [r_,Nat.pow_succ];omega
theorem Ox:2 ^ 101<10 ^ 31:=by decide
theorem Bd {n:Nat} (h:n<=101) (k:Nat):Rq.Sz 31 (ch n k:Int):=by
 unfold Rq.Sz
 rw[Int.natAbs_natCast];exact Nat.lt_of_le_of_lt (Nat.le_trans (Nr n k) (Nat.pow_le_pow_right (by decide) h)) Ox
theorem iH {c:Int} (h0:0<=c) (h1:c<=1000) (n:Nat):Rq.Sz (3*n+1) (c ^ n):=by
 unfold Rq.Sz
 rw[Int.natAbs_pow];have h2:c.natAbs ^ n<=1000 ^ n:=Nat.pow_le_pow_left (by omega) n;have h3:1000 ^ n=10 ^ (3*n):=by rw[show (1000:Nat)=10 ^ 3 from rfl,←Nat.pow_mul]
 rw[h3]at h2;exact Nat.lt_of_le_of_lt h2 (Nat.pow_lt_pow_right (by decide) (by omega))
theorem Jo {f:Nat->Int} {j k:Nat} (hf:∀i,Rq.Sz j (f i)):∀m,(sm f k m).natAbs<=m*10 ^ j
 | 0=>by simp[sm]
 | m+1=>by
  have h:=Jo (k:=k) hf m;have h2:=hf (k+m)
  unfold Rq.Sz at h2
  show (sm f k m+f (k+m)).natAbs<=_
  rw[Nat.add_mul];omega
theorem Jl {f:Nat->Int} {j:Nat} (k:Nat) (hf:∀i,Rq.Sz j (f i)) {m:Nat} (hm:m<=999):Rq.Sz (j+3) (sm f k m):=by
 have h:=Jo (k:=k) hf m
 unfold Rq.Sz
 have h2:m*10 ^ j<10 ^ 3*10 ^ j:=Nat.mul_lt_mul_of_pos_right (show m<10 ^ 3 by omega) (Nat.pow_pos (by decide));rw [Nat.pow_add,Nat.mul_comm (10 ^ j)];exact Nat.lt_of_le_of_lt h h2
theorem QB {n:Nat} {c d:Int} (hn:n<=50) (hc:0<=c) (hc1:c<=1000) (hd:0<=d) (hd1:d<=1000) (i:Nat):Rq.Sz 183 (tm n c d i):=by
 rcases Nat.lt_or_ge n i with h|h
 · rw[ED h];exact Rq.Sz.mono (show Rq.Sz 1 0 from Rq.OE) (by decide)
 · unfold tm
   have h1:=Bd (show n<=101 by omega) i;have h2:=(iH hc hc1 i).mul (iH hd hd1 (n-i));exact (h1.mul h2).mono (by omega)
end Tb
namespace Tb
def lt (l:List Int) (x:Int):Nat:=l.countP fun y=>decide (y<x)
def cw (l:List Int) (s w:Int):Nat:=l.countP fun y=>decide (s<=y)&&decide (y<s+w)
theorem QU (s w:Int) (hw:0<=w):∀l:List Int,lt l (s+w)=lt l s+cw l s w
 | []=>rfl
 | y :: l=>by
  have ih:=QU s w hw l
  unfold lt cw at *
  rw[List.countP_cons,List.countP_cons,List.countP_cons,ih];by_cases h1:y<s
  · have a1:decide (y<s+w)=true:=by simp;omega
    have a2:decide (y<s)=true:=by simp;omega
    have a3:decide (s<=y)=false:=by simp;omega
    rw[a1,a2,a3];simp;omega
  · have a2:decide (y<s)=false:=by simp;omega
    have a3:decide (s<=y)=true:=by simp;omega
    rw[a2,a3];by_cases h2:y<s+w
    · have a1:decide (y<s+w)=true:=by simp;omega
      rw[a1];simp;omega
    · have a1:decide (y<s+w)=false:=by simp;omega
      rw[a1];simp
def So (l:List Int):Prop:=l.Pairwise (·<=·)
theorem lt_iff:∀ {l:List Int} (h:So l) (x:Int) (i:Nat) (hi:i<l.length),l[i]<x↔i<lt l x
 | y :: l,h,x,i,hi=>by
  obtain⟨h1,h2⟩:=List.pairwise_cons.1 h
  have e:lt (y :: l) x=lt l x+if y<x then 1 else 0:=by
   unfold lt;rw[List.countP_cons];simp
  by_cases hy:y<x
  · rw[if_pos hy]at e
    cases i with
    | zero=>simp only[List.getElem_cons_zero];omega
    | succ i =>
     have:=lt_iff h2 x i (by simpa using hi);simp only[List.getElem_cons_succ];omega
  · rw[if_neg hy]at e
    have h0:lt l x=0:=by
     unfold lt
     rw[List.countP_eq_zero];intro z hz;have:=h1 z hz;simp;omega
    have hle:∀z∈y :: l,¬z<x:=fun z hz=>by
     rcases List.mem_cons.1 hz with rfl|hz
     · exact hy
     · have:=h1 z hz;omega
    have:=hle _ (List.getElem_mem hi);omega
theorem Jk {l:List Int} (h:So l) {i j:Nat} (hij:i<=j) (hj:j<l.length):l[i]'(by omega)<=l[j]:=by
 rcases Nat.lt_or_ge i j with h1|h1
 · exact List.pairwise_iff_getElem.1 h i j (by omega) hj h1
 · have:i=j:=by omega
   subst this;exact Int.le_refl _
theorem VI {l:List Int} (h:So l) {i:Nat} (hi:i<l.length):lt l l[i]<=i:=by
 have:=(lt_iff h l[i] i hi)
 have:¬i<lt l l[i]:=fun h1=>by have:=this.2 h1;omega
 omega
structure Bw (l:List Int) (w:Int) (k:Nat) (best at_:Int):Prop where
 z:k=0->best=0/\at_=0
 wh:0<k->∃(j:Nat) (hj:j<l.length),j<k/\l[j]=at_/\(cw l at_ w:Int)=best
 le:∀(j:Nat) (hj:j<l.length),j<k->(cw l l[j] w:Int)<=best/\(l[j]<at_->(cw l l[j] w:Int)<best)
theorem Bw.start (l:List Int) (w:Int):Bw l w 0 0 0:=⟨fun _=>⟨rfl,rfl⟩,fun h=>by omega,fun j hj h=>by omega⟩
theorem Ut {l:List Int} {w:Int} (hw:1<=w) {i:Nat} (hi:i<l.length):0<cw l l[i] w:=by
 unfold cw
 rw[List.countP_pos_iff];exact ⟨l[i],List.getElem_mem hi,by simp;omega⟩
theorem Bw.next {l:List Int} {w:Int} (hs:So l) (hw:1<=w) {k:Nat} {best at_:Int} (h:Bw l w k best at_) (hk:k<l.length) :
 (best<(cw l l[k] w:Int)->Bw l w (k+1) (cw l l[k] w) l[k])/\(¬best<(cw l l[k] w:Int)->Bw l w (k+1) best at_):=by
 constructor
 · intro hb;refine ⟨fun h=>by omega,fun _=>⟨k,hk,by omega,rfl,rfl⟩,fun j hj hjk=>?_⟩
   rcases Nat.lt_or_ge j k with h1|h1
   · have:=h.le j hj h1;omega
   · have:j=k:=by omega
     subst this;omega
 · intro hb
   have hk0:0<k:=by
    rcases Nat.eq_zero_or_pos k with h0|h0
    · have:=(h.z h0).1;have:=Ut (l:=l) hw hk;omega
    · exact h0
   refine⟨fun h=>by omega,fun _=>?_,fun j hj hjk=>?_⟩
   · obtain⟨j,hj,h1,h2,h3⟩:=h.wh hk0;exact ⟨j,hj,by omega,h2,h3⟩
   · rcases Nat.lt_or_ge j k with h1|h1
     · exact h.le j hj h1
     · have:j=k:=by omega
       subst this;obtain ⟨m,hm,h1,h2,h3⟩:=h.wh hk0;have:=Jk hs (show m<=j by omega) hj;omega
theorem Bw.step {l:List Int} {w:Int} (hs:So l) (hw:1<=w) {k:Nat} {best at_:Int} (h:Bw l w k best at_) (hk:k<l.length) :
 (best<(lt l (l[k]+w):Int)-k->Bw l w (k+1) ((lt l (l[k]+w):Int)-k) l[k])/\(¬best<(lt l (l[k]+w):Int)-k->Bw l w (k+1) best at_):=by
 have e:=QU l[k] w (by omega) l;have hle:=VI hs hk;obtain ⟨n1,n2⟩:=h.next hs hw hk;by_cases hf:lt l l[k]=k
 · have e2:(lt l (l[k]+w):Int)-k=(cw l l[k] w:Int):=by omega
   rw[e2];exact ⟨n1,n2⟩
 · -- the same time stands before it
   have hlt:lt l l[k]<k:=by omega
   have hj:lt l l[k]<l.length:=by omega
   have h1:¬l[lt l l[k]]<l[k]:=fun h0=>by have:=(lt_iff hs l[k] _ hj).1 h0;omega
   have h2:=Jk hs (show lt l l[k]<=k by omega) hk;have h3:l[lt l l[k]]=l[k]:=by omega
   have h4:=(h.le _ hj hlt).1;rw [h3]at h4;exact ⟨fun h0=>by omega,fun _=>n2 (by omega)⟩
theorem Fp {l:List Int} {s s' w w':Int} (h:∀y∈l,s<=y->y<s+w->s'<=y/\y<s'+w'):cw l s w<=cw l s' w':=by
 unfold cw
 refine List.countP_mono_left fun y hy h1=>?_
 simp only[Bool.and_eq_true,decide_eq_true_eq]at *;exact h y hy h1.1 h1.2
theorem Bw.all {l:List Int} {w best at_:Int} (hs:So l) (h:Bw l w l.length best at_) (h0:0<l.length) (s:Int):(cw l s w:Int)<=best:=by
 rcases Nat.lt_or_ge (lt l s) l.length with h1|h1
 · have h2:=(h.le _ h1 h1).1;have h3:¬l[lt l s]<s:=fun h0=>by have:=(lt_iff hs s _ h1).1 h0;omega
   have:cw l s w<=cw l l[lt l s] w:=Fp fun y hy y1 y2=>by
    obtain⟨j,hj,rfl⟩:=List.mem_iff_getElem.1 hy;have h4:¬j<lt l s:=fun h5=>by have:=(lt_iff hs s j hj).2 h5;omega
    have:=Jk hs (show lt l s<=j by omega) hj;omega
   omega
 · have:cw l s w=0:=by
    unfold cw
    rw[List.countP_eq_zero];intro y hy;obtain ⟨j,hj,rfl⟩:=List.mem_iff_getElem.1 hy;have:=(lt_iff hs s j hj).2 (by omega);simp;omega
   obtain⟨i,hi,i1,i2,i3⟩:=h.wh h0;omega
theorem Bw.wide {l:List Int} {w w' b1 a1 b2 a2:Int} (hs:So l) (h1:Bw l w l.length b1 a1) (h2:Bw l w' l.length b2 a2) (hw:w<=w') (h0:0<l.length):b1<=b2:=by
 obtain⟨i,hi,i1,i2,i3⟩:=h1.wh h0;have e1:=h2.all hs h0 a1;have:cw l a1 w<=cw l a1 w':=Fp fun y _ _ _=>by omega
 omega
theorem Bw.more {l m:List Int} {w t b1 a1 b2 a2:Int} (hs:So l) (hm:So m) (h1:Bw l w l.length b1 a1) (h2:Bw m w m.length b2 a2) (hlen:m.length=l.length+1) (h0:0<l.length)
 (hc:∀s,cw m s w=cw l s w+if s<=t/\t<s+w then 1 else 0):b1<=b2/\b2<=b1+1:=by
 obtain⟨i,hi,i1,i2,i3⟩:=h1.wh h0;obtain ⟨j,hj,j1,j2,j3⟩:=h2.wh (by omega);have e1:=h2.all hm (by omega) a1;have e2:=h1.all hs h0 a2;have f1:=hc a1;have f2:=hc a2
 constructor
 · split at f1 <;> omega
 · split at f2 <;> omega
end Tb
namespace Tb
end Tb
namespace Tb
end Tb
namespace Go.Proofs.YtohgjenaclfegaaGreatDoor
open Go.RowKit
theorem pq (n lo hi:Int) (w:World) :
 Calls Tryz.prog 70 #[.int .i64 n,.int .i64 lo,.int .i64 hi] w fun e w'=>e=.returned (.bool (Tp.within n lo hi))/\w=w':=by
 by_cases h1:lo<=n <;> by_cases h2:n<=hi
 all_goals
  go_enter Tryz.func70,Tryz.ntmps70
  go_wp2;go_ret;exact ⟨by simp[Tp.within, *] <;> omega,rfl⟩
open Go.RowKit Go.Shelf
def Ix (z:Int) (s:List UInt8):Prop:=Kp (Lib.itoa z=s)
theorem Ix.ex (z:Int):∃s,Ix z s:=⟨_,⟨rfl⟩⟩
theorem JD {x y z:Int} {sx sy sz:List UInt8} (w:World) (hx:Ix x sx) (hy:Ix y sy) (hz:Ix z sz) (h:Kp (x+y=z)) {j k l:Nat} (fx:Rq.Sz j x) (fy:Rq.Sz k y) (fz:Rq.Sz l z) (hj:j<=200) (hk:k<=200) (hl:l<=200) (hE:Env w) :
 bP 169 #[.string ⟨sx.toArray⟩,.string ⟨sy.toArray⟩] w (.string ⟨sz.toArray⟩):=by
 have hC:=QA x y w (fx.fits hj) (fy.fits hk) hE;rw [h.out,Ig.eU (fz.fits hl),Ig.eX (fz.fits hl),hx.out,hy.out,hz.out]at hC;clear fx fy fz hx hy hz h
 go_enter Tryz.func169,Tryz.ntmps169
 go_wp2_with fail;refine hC.mono ?_;rintro _ w1 ⟨rfl,hb⟩;clear hC;go_wp2;go_ret;exact ⟨rfl,hb⟩
theorem xQ {x y z:Int} {sx sy sz:List UInt8} (w:World) (hx:Ix x sx) (hy:Ix y sy) (hz:Ix z sz) (h:Kp (x*y=z)) {j k l:Nat} (fx:Rq.Sz j x) (fy:Rq.Sz k y) (fz:Rq.Sz l z) (hj:j<=200) (hk:k<=200) (hl:l<=200) (hE:Env w) :
 bP 117 #[.string ⟨sx.toArray⟩,.string ⟨sy.toArray⟩] w (.string ⟨sz.toArray⟩):=by
 have hC:=Qr x y w (fx.fits hj) (fy.fits hk) hE;rw [h.out,Ig.eU (fz.fits hl),Ig.eX (fz.fits hl),hx.out,hy.out,hz.out]at hC;clear fx fy fz hx hy hz h
 go_enter Tryz.func117,Tryz.ntmps117
 go_wp2_with fail;refine hC.mono ?_;rintro _ w1 ⟨rfl,hb⟩;clear hC;go_wp2;go_ret;exact ⟨rfl,hb⟩
end Go.Proofs.YtohgjenaclfegaaGreatDoor

import Derived.Test.YtohgjenaclfegaaGreatDoorQI03
set_option linter.unusedVariables false
set_option linter.unusedSimpArgs false
set_option maxRecDepth 100000
set_option maxHeartbeats 8000000
namespace Dx
open Ig (eH kN pX kP)
def dn (l:List Int) (i:Nat):Int:=l[i]?.getD 0
theorem fO {l:List Int} {i:Nat} (h:i<l.length):dn l i=l[i]:=by simp[dn,h]
theorem ji {l:List Int} {i:Nat} (h:l.length<=i):dn l i=0:=by simp[dn,h]
theorem rX (l:List Int) (k:Nat):aK (l.take (k+1))=aK (l.take k)+10 ^ k*dn l k:=by
 by_cases h:k<l.length
 · rw[List.take_succ_eq_append_getElem h,cO,fO h];simp [aK,Nat.min_eq_left (Nat.le_of_lt h)]
 · rw[List.take_of_length_le (by omega),List.take_of_length_le (by omega),ji (by omega)];simp
def bU (d:Nat->Int):Nat->Int
 | 0=>0
 | n+1=>bU d n+10 ^ n*d n
structure gQ (d:Nat->Int) (i:Nat) (out:List Int) (carry:Int):Prop where
 len:out.length=i
 gr:Gr out
 eq:aK out+10 ^ i*carry=bU d i
theorem kJ (d:Nat->Int):gQ d 0 [] 0:=⟨rfl,(fun g h=>by cases h),by simp[aK,bU]⟩
theorem mY {d:Nat->Int} {i:Nat} {out:List Int} {carry:Int} (h:gQ d i out carry):gQ d (i+1) (out++[(d i+carry) % 10]) ((d i+carry) / 10):=by
 refine⟨by simp[h.len],fun g hg=>?_,?_⟩
 · rcases List.mem_append.1 hg with hg|hg
   · exact h.gr g hg
   · obtain rfl:g=(d i+carry) % 10:=by simpa using hg
     omega
 · rw[cO,h.len,bU,←h.eq,Int.pow_succ];have e:(d i+carry) % 10+10*((d i+carry) / 10)=d i+carry:=by omega
   simp only[aK];rw [Int.mul_zero,Int.add_zero,Int.mul_assoc,Int.add_assoc,←Int.mul_add,e,Int.mul_add];omega
theorem kK {d:Nat->Int} {i:Nat} {out:List Int} {carry:Int} (h:gQ d i out carry) (h0:0<=bU d i):0<=carry:=by
 have h1:=kG h.gr;rw [h.len]at h1;have h2:=h.eq
 rcases Int.lt_or_le carry 0 with hc|hc
 · have h3:(10:Int) ^ i*carry<=10 ^ i*(-1):=Int.mul_le_mul_of_nonneg_left (by omega) (Int.le_of_lt (Int.pow_pos (by decide)));omega
 · exact hc
theorem pU {d:Nat->Int} {i:Nat} {out:List Int} (h:gQ d i out 0):bg out=grp (bU d i).toNat:=by
 rw[iT h.gr];have:=h.eq;rw [Int.mul_zero,Int.add_zero]at this;rw [this]
theorem AV (a b:Nat->Int) (n:Nat):bU (fun i=>a i+b i) n=bU a n+bU b n:=by
 induction n with
 | zero=>rfl
 | succ n ih=>simp only[bU,ih,Int.mul_add];omega
theorem AO (a b:Nat->Int) (n:Nat):bU (fun i=>a i-b i) n=bU a n-bU b n:=by
 induction n with
 | zero=>rfl
 | succ n ih=>simp only[bU,ih,Int.mul_sub];omega
theorem AP (a:Nat->Int) (c:Int) (n:Nat):bU (fun i=>a i*c) n=bU a n*c:=by
 induction n with
 | zero=>simp[bU]
 | succ n ih=>simp only[bU,ih,Int.add_mul,Int.mul_assoc]
theorem yJ (l:List Int) (n:Nat):bU (dn l) n=aK (l.take n):=by
 induction n with
 | zero=>rfl
 | succ n ih=>rw[bU,ih,rX]
theorem AU {l:List Int} {n:Nat} (h:l.length<=n):bU (dn l) n=aK l:=by rw[yJ,List.take_of_length_le h]
theorem fP {l:List Int} (h:Gr l) (i:Nat):0<=dn l i/\dn l i<10:=by
 by_cases hi:i<l.length
 · rw[fO hi];exact h _ (List.getElem_mem hi)
 · rw[ji (by omega)];omega
theorem iM {a b:Nat} (h:(grp a).length<(grp b).length):a<b:=by
 rcases Nat.lt_or_ge a b with h1|h1
 · exact h1
 · have h2:=jd a;have:b<10 ^ (grp a).length:=by omega
   have:=iw this;omega
theorem jc {l m:List Int} (hl:Gr l) (hm:Gr m) (hlen:l.length=m.length) (k:Nat) (hk:k<l.length) (hd:l.drop (k+1)=m.drop (k+1)) (hlt:dn l k<dn m k):aK l<aK m:=by
 have e:∀ {x:List Int} (hx:k<x.length),x=x.take k++(dn x k :: x.drop (k+1)):=fun {x} hx=>by
  rw[fO hx,←List.drop_eq_getElem_cons hx,List.take_append_drop]
 rw[e hk,e (show k<m.length by omega),cO,cO,aK,aK,hd];have h1:=kG (l:=l.take k) (fun g hg=>hl g (List.mem_of_mem_take hg));have h2:=eG (l:=m.take k) (fun g hg=>hm g (List.mem_of_mem_take hg));have e1:(l.take k).length=k:=by simp;omega
 have e2:(m.take k).length=k:=by simp;omega
 rw[e1]at h1;rw [e1,e2]
 have h3:(10:Int) ^ k*(dn l k+10*aK (m.drop (k+1)))+10 ^ k<=10 ^ k*(dn m k+10*aK (m.drop (k+1))):=by
  have:(10:Int) ^ k*(dn l k+10*aK (m.drop (k+1)))+10 ^ k=10 ^ k*(dn l k+10*aK (m.drop (k+1))+1):=by rw[Int.mul_add (10 ^ k) (_+_) 1,Int.mul_one]
  rw[this];exact Int.mul_le_mul_of_nonneg_left (by omega) (Int.le_of_lt (Int.pow_pos (by decide)))
 omega
theorem qG {v:Nat} (h:v≠0):(0:Int) :: grp v=grp (10*v):=by
 rw[dO (n:=10*v) (by omega),show 10*v % 10=0 by omega,show 10*v / 10=v by omega];rfl
theorem fK {v:Nat}:(grp v).length=0↔v=0:=by rw[List.length_eq_zero_iff,pO]
def from_ (l:List Int) (i:Nat):Int:=aK (l.drop i)
theorem iO {l:List Int} {i:Nat} (h:i<l.length):from_ l i=l[i]+10*from_ l (i+1):=by
 unfold from_
 rw[List.drop_eq_getElem_cons h];rfl
theorem jT (l:List Int):from_ l 0=aK l:=rfl
theorem lU {l:List Int} {i:Nat} (h:l.length<=i):from_ l i=0:=by unfold from_;rw[List.drop_eq_nil_of_le h];rfl
theorem lT {l:List Int} (h:Gr l) (i:Nat):0<=from_ l i:=eG fun g hg=>h g (List.mem_of_mem_drop hg)
theorem uD {g R M:Nat} (hM:0<M) (hg:g<10):(g+10*(R % M)) / M<10/\(g+10*R) / M=(g+10*(R % M)) / M+10*(R / M)/\(g+10*R) % M=(g+10*(R % M)) % M:=by
 have h1:=Nat.mod_lt R hM;have h2:=Nat.mod_add_div R M;refine ⟨?_,?_,?_⟩
 · rw[Nat.div_lt_iff_lt_mul hM];have:10*(R % M)+10<=10*M:=by omega
   omega
 · have e:g+10*R=(g+10*(R % M))+M*(10*(R / M)):=by
    conv=>lhs;rw[←h2]
    rw[Nat.mul_add,←Nat.mul_assoc,←Nat.mul_assoc,Nat.mul_comm M 10];omega
   rw[e,Nat.add_mul_div_left _ _ hM]
 · have e:g+10*R=(g+10*(R % M))+M*(10*(R / M)):=by
    conv=>lhs;rw[←h2]
    rw[Nat.mul_add,←Nat.mul_assoc,←Nat.mul_assoc,Nat.mul_comm M 10];omega
   rw[e,Nat.add_mul_mod_self_left]
theorem xk {R M d:Nat} (hM:0<M):M*(d+1)<=R↔d<R / M:=by
 rw[Nat.lt_iff_add_one_le,Nat.le_div_iff_mul_le hM,Nat.mul_comm]
theorem Fz {a b:Nat} (h:(grp a).length≠(grp b).length):eH a b=if (grp a).length<(grp b).length then -1 else 1:=by
 by_cases h1:(grp a).length<(grp b).length
 · rw[if_pos h1,kN (iM h1)]
 · rw[if_neg h1,kP (iM (by omega))]
theorem Na {a b:Nat} (hlen:(grp a).length=(grp b).length) (k:Nat) (hk:k<(grp a).length) (hd:(grp a).drop (k+1)=(grp b).drop (k+1)) (hne:dn (grp a) k≠dn (grp b) k):eH a b=if dn (grp a) k<dn (grp b) k then -1 else 1:=by
 have va:=bZ a;have vb:=bZ b;by_cases h:dn (grp a) k<dn (grp b) k
 · have:=jc (dB a) (dB b) hlen k hk hd h;rw [if_pos h,kN (by omega)]
 · have:=jc (dB b) (dB a) hlen.symm k (by omega) hd.symm (by omega);rw [if_neg h,kP (by omega)]
theorem A_ {a b:Nat} (h:grp a=grp b):eH a b=0:=by
 have va:=bZ a;have vb:=bZ b;rw [h,vb]at va;have:a=b:=by omega
 subst this;exact pX a
theorem jf {d:Nat->Int} {n m:Nat} (h:∀i,n<=i->d i=0) (hm:n<=m):bU d m=bU d n:=by
 induction m with
 | zero =>
  have:n=0:=by omega
  subst this;rfl
 | succ m ih =>
  by_cases hn:n=m+1
  · subst hn;rfl
  · rw[bU,h m (by omega),ih (by omega)];simp
end Dx
namespace Dx
theorem yS {l:List Int} {j:Nat} {v:Int} (h:j<l.length) (t:Nat):dn (l.set j v) t=if t=j then v else dn l t:=by
 unfold dn
 rw[List.getElem?_set];by_cases ht:j=t
 · subst ht;rw[if_pos rfl,if_pos h,if_pos rfl];rfl
 · rw[if_neg ht,if_neg (fun e=>ht e.symm)]
theorem Aj:∀ {l:List Int} {j:Nat} {v:Int},j<l.length->aK (l.set j v)=aK l+10 ^ j*(v-dn l j)
 | [],j,v,h=>absurd h (Nat.not_lt_zero _)
 | a :: l,0,v,_=>by
  show v+10*aK l=a+10*aK l+10 ^ 0*(v-a)
  simp;omega
 | a :: l,j+1,v,h=>by
  have ih:=Aj (l:=l) (j:=j) (v:=v) (by simpa using h)
  show a+10*aK (l.set j v)=a+10*aK l+10 ^ (j+1)*(v-dn l j)
  rw[ih,Int.pow_succ,Int.mul_add,Int.mul_comm (10 ^ j) 10,Int.mul_assoc];omega
structure UO (C0 C:List Int) (i:Nat) (x:Int) (m:List Int) (k:Nat) (c:Int):Prop where
 len:C.length=C0.length
 gr:Gr C
 eq:aK C+10 ^ (i+k)*c=aK C0+10 ^ i*(x*aK (m.take k))
 same:∀t,i+k<=t->dn C t=dn C0 t
 c0:0<=c
 c9:c<=9
theorem Dy {x y:Int} (hx:0<=x/\x<10) (hy:0<=y/\y<10):0<=x*y/\x*y<=81:=by
 refine⟨Int.mul_nonneg hx.1 hy.1,?_⟩;have h1:x*y<=9*y:=Int.mul_le_mul_of_nonneg_right (by omega) hy.1;omega
theorem UO.start {C0:List Int} (h:Gr C0) (i:Nat) (x:Int) (m:List Int):UO C0 C0 i x m 0 0:=⟨rfl,h,by simp[aK],fun _ _=>rfl,by omega,by omega⟩
theorem UO.step {C0 C m:List Int} {i k:Nat} {x c:Int} (h:UO C0 C i x m k c) (hx:0<=x/\x<10) (hm:Gr m) (hk:i+k<C.length):UO C0 (C.set (i+k) ((dn C (i+k)+c+x*dn m k) % 10)) i x m (k+1) ((dn C (i+k)+c+x*dn m k) / 10):=by
 have hC:=fP h.gr (i+k);have hy:=fP hm k;have hxy:=Dy hx hy;have h0:=h.c0;have h9:=h.c9;refine ⟨by rw[List.length_set,h.len],fun g hg=>?_,?_,fun t ht=>?_,by omega,by omega⟩
 · rcases List.mem_or_eq_of_mem_set hg with h1|h1
   · exact h.gr g h1
   · subst h1;omega
 · rw[Aj hk,rX];have he:=h.eq;have e1:(10:Int) ^ (i+(k+1))=10 ^ (i+k)*10:=by rw[←Nat.add_assoc,Int.pow_succ]
   have e2:(10:Int) ^ (i+k)=10 ^ i*10 ^ k:=Int.pow_add _ _ _;generalize dn C (i+k)=u at *;generalize dn m k=y at *;have e3:(u+c+x*y) % 10-u+10*((u+c+x*y) / 10)=c+x*y:=by omega
   have e4:aK C+10 ^ (i+k)*((u+c+x*y) % 10-u)+10 ^ (i+(k+1))*((u+c+x*y) / 10)=aK C+10 ^ (i+k)*(c+x*y):=by
    rw[e1,Int.mul_assoc,Int.add_assoc,←Int.mul_add,e3]
   rw[e4,Int.mul_add,←Int.add_assoc,he,e2,Int.mul_add,Int.mul_add,Int.add_assoc]
   congr 2
   rw[Int.mul_assoc,Int.mul_left_comm x (10 ^ k) y]
 · rw[yS hk,if_neg (by omega)];exact h.same t (by omega)
theorem UO.stop {C0 C m:List Int} {i k:Nat} {x:Int} (h:UO C0 C i x m k 0) (hk:m.length<=k):aK C=aK C0+10 ^ i*(x*aK m):=by
 have:=h.eq;rw [List.take_of_length_le hk]at this;omega
end Dx
namespace Dx
def hi (l:List Int) (k:Nat):Nat:=(from_ l k).toNat
theorem EW {l:List Int} (h:Gr l) {k:Nat} (hk:k<l.length):hi l k=(dn l k).toNat+10*hi l (k+1):=by
 have h1:=iO hk;have h2:=lT h (k+1);have h3:=fP h k;rw [←fO hk]at h1
 unfold hi
 omega
theorem Ls {l:List Int} {k:Nat} (hk:l.length<=k):hi l k=0:=by unfold hi;rw[lU hk];rfl
theorem PU (n:Nat):hi (grp n) 0=n:=by
 unfold hi;rw[jT,bZ];exact Int.toNat_natCast n
structure NR (l C:List Int) (k b:Nat):Prop where
 len:C.length=l.length
 gr:Gr C
 low:∀t,t<k->dn C t=0
 val:hi C k=hi l k / b
structure Yl (l C:List Int) (k b t:Nat):Prop where
 len:C.length=l.length
 gr:Gr C
 low:∀u,u<k->dn C u=0
 here:dn C k=t
 val:hi C (k+1)=hi l (k+1) / b
theorem Qk (n t:Nat):dn (List.replicate n 0) t=0:=by
 unfold dn
 rw[List.getElem?_replicate]
 split <;> rfl
theorem NR.start (l:List Int) (b:Nat):NR l (List.replicate l.length 0) l.length b:=by
 refine⟨by simp,fun g hg=>?_,fun t _=>Qk _ _,?_⟩
 · obtain rfl:=List.eq_of_mem_replicate hg;omega
 · rw[Ls (by simp),Ls (Nat.le_refl _),Nat.zero_div]
theorem Yl.step {l C:List Int} {k b t:Nat} (h:Yl l C k b t) (hk:k<C.length) (ht:t+1<10):Yl l (C.set k ((t:Int)+1)) k b (t+1):=by
 refine⟨by rw[List.length_set,h.len],fun g hg=>?_,fun u hu=>?_,?_,?_⟩
 · rcases List.mem_or_eq_of_mem_set hg with h1|h1
   · exact h.gr g h1
   · subst h1;omega
 · rw[yS hk,if_neg (by omega)];exact h.low u hu
 · rw[yS hk,if_pos rfl];omega
 · rw[←h.val]
   unfold hi from_
   rw[List.drop_set_of_lt (by omega)]
theorem Yl.stop {l C:List Int} {k b t:Nat} (h:Yl l C k b t) (hl:Gr l) (hk:k<l.length) (hb:0<b) (ht:t=((dn l k).toNat+10*(hi l (k+1) % b)) / b):NR l C k b:=by
 refine⟨h.len,h.gr,h.low,?_⟩;have hx:=fP hl k;have h1:=uD (g:=(dn l k).toNat) (R:=hi l (k+1)) hb (by omega);rw [EW h.gr (by rw[h.len];exact hk),EW hl hk,h.here,h.val,h1.2.1,ht];rw [Int.toNat_natCast]
theorem NR.fin {a:Nat} {C:List Int} {b:Nat} (h:NR (grp a) C 0 b):Ig.bg C=grp (a / b):=by
 have h1:=h.val;rw [PU]at h1;rw [←FW,iT h.gr,←h1];rfl
end Dx

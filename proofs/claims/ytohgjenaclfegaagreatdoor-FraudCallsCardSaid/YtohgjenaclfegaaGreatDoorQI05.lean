import Derived.Test.YtohgjenaclfegaaGreatDoorQI04
set_option linter.unusedVariables false
set_option linter.unusedSimpArgs false
set_option maxRecDepth 100000
set_option maxHeartbeats 8000000
namespace Dx
open Ig (gq mZ tC m_)
def dN (l:List Int) (i:Nat):Int:=l[i]?.getD 0
theorem ig {l:List Int} {i:Nat} (h:i<l.length):dN l i=l[i]:=by simp[dN,h]
theorem jX {l:List Int} {i:Nat} (h:l.length<=i):dN l i=0:=by simp[dN,h]
theorem wP (l:List Int) (k:Nat):aP (l.take (k+1))=aP (l.take k)+10 ^ k*dN l k:=by
 by_cases h:k<l.length
 · rw[List.take_succ_eq_append_getElem h,dI,ig h];simp [aP,Nat.min_eq_left (Nat.le_of_lt h)]
 · rw[List.take_of_length_le (by omega),List.take_of_length_le (by omega),jX (by omega)];simp
def cZ (d:Nat->Int):Nat->Int
 | 0=>0
 | n+1=>cZ d n+10 ^ n*d n
structure iM (d:Nat->Int) (i:Nat) (out:List Int) (carry:Int):Prop where
 len:out.length=i
 gr:Gr out
 eq:aP out+10 ^ i*carry=cZ d i
theorem mW (d:Nat->Int):iM d 0 [] 0:=⟨rfl,(fun g h=>by cases h),by simp[aP,cZ]⟩
theorem pU {d:Nat->Int} {i:Nat} {out:List Int} {carry:Int} (h:iM d i out carry):iM d (i+1) (out++[(d i+carry) % 10]) ((d i+carry) / 10):=by
 refine⟨by simp[h.len],fun g hg=>?_,?_⟩
 · rcases List.mem_append.1 hg with hg|hg
   · exact h.gr g hg
   · obtain rfl:g=(d i+carry) % 10:=by simpa using hg
     omega
 · rw[dI,h.len,cZ,←h.eq,Int.pow_succ];have e:(d i+carry) % 10+10*((d i+carry) / 10)=d i+carry:=by omega
   simp only[aP];rw [Int.mul_zero,Int.add_zero,Int.mul_assoc,Int.add_assoc,←Int.mul_add,e,Int.mul_add];omega
theorem mX {d:Nat->Int} {i:Nat} {out:List Int} {carry:Int} (h:iM d i out carry) (h0:0<=cZ d i):0<=carry:=by
 have h1:=mV h.gr;rw [h.len]at h1;have h2:=h.eq
 rcases Int.lt_or_le carry 0 with hc|hc
 · have h3:(10:Int) ^ i*carry<=10 ^ i*(-1):=Int.mul_le_mul_of_nonneg_left (by omega) (Int.le_of_lt (Int.pow_pos (by decide)));omega
 · exact hc
theorem sQ {d:Nat->Int} {i:Nat} {out:List Int} (h:iM d i out 0):bK out=grp (cZ d i).toNat:=by
 rw[jF h.gr];have:=h.eq;rw [Int.mul_zero,Int.add_zero]at this;rw [this]
theorem Fz (a b:Nat->Int) (n:Nat):cZ (fun i=>a i+b i) n=cZ a n+cZ b n:=by
 induction n with
 | zero=>rfl
 | succ n ih=>simp only[cZ,ih,Int.mul_add];omega
theorem Fj (a b:Nat->Int) (n:Nat):cZ (fun i=>a i-b i) n=cZ a n-cZ b n:=by
 induction n with
 | zero=>rfl
 | succ n ih=>simp only[cZ,ih,Int.mul_sub];omega
theorem Fp (a:Nat->Int) (c:Int) (n:Nat):cZ (fun i=>a i*c) n=cZ a n*c:=by
 induction n with
 | zero=>simp[cZ]
 | succ n ih=>simp only[cZ,ih,Int.add_mul,Int.mul_assoc]
theorem Dh (l:List Int) (n:Nat):cZ (dN l) n=aP (l.take n):=by
 induction n with
 | zero=>rfl
 | succ n ih=>rw[cZ,ih,wP]
theorem Fv {l:List Int} {n:Nat} (h:l.length<=n):cZ (dN l) n=aP l:=by rw[Dh,List.take_of_length_le h]
theorem iq {l:List Int} (h:Gr l) (i:Nat):0<=dN l i/\dN l i<10:=by
 by_cases hi:i<l.length
 · rw[ig hi];exact h _ (List.getElem_mem hi)
 · rw[jX (by omega)];omega
theorem jA {a b:Nat} (h:(grp a).length<(grp b).length):a<b:=by
 rcases Nat.lt_or_ge a b with h1|h1
 · exact h1
 · have h2:=jQ a;have:b<10 ^ (grp a).length:=by omega
   have:=iZ this;omega
theorem jP {l m:List Int} (hl:Gr l) (hm:Gr m) (hlen:l.length=m.length) (k:Nat) (hk:k<l.length) (hd:l.drop (k+1)=m.drop (k+1)) (hlt:dN l k<dN m k):aP l<aP m:=by
 have e:∀ {x:List Int} (hx:k<x.length),x=x.take k++(dN x k :: x.drop (k+1)):=fun {x} hx=>by
  rw[ig hx,←List.drop_eq_getElem_cons hx,List.take_append_drop]
 rw[e hk,e (show k<m.length by omega),dI,dI,aP,aP,hd];have h1:=mV (l:=l.take k) (fun g hg=>hl g (List.mem_of_mem_take hg));have h2:=f_ (l:=m.take k) (fun g hg=>hm g (List.mem_of_mem_take hg));have e1:(l.take k).length=k:=by simp;omega
 have e2:(m.take k).length=k:=by simp;omega
 rw[e1]at h1;rw [e1,e2]
 have h3:(10:Int) ^ k*(dN l k+10*aP (m.drop (k+1)))+10 ^ k<=10 ^ k*(dN m k+10*aP (m.drop (k+1))):=by
  have:(10:Int) ^ k*(dN l k+10*aP (m.drop (k+1)))+10 ^ k=10 ^ k*(dN l k+10*aP (m.drop (k+1))+1):=by rw[Int.mul_add (10 ^ k) (_+_) 1,Int.mul_one]
  rw[this];exact Int.mul_le_mul_of_nonneg_left (by omega) (Int.le_of_lt (Int.pow_pos (by decide)))
 omega
theorem uM {v:Nat} (h:v≠0):(0:Int) :: grp v=grp (10*v):=by
 rw[fA (n:=10*v) (by omega),show 10*v % 10=0 by omega,show 10*v / 10=v by omega];rfl
theorem h_ {v:Nat}:(grp v).length=0↔v=0:=by rw[List.length_eq_zero_iff,sH]
def from_ (l:List Int) (i:Nat):Int:=aP (l.drop i)
theorem jB {l:List Int} {i:Nat} (h:i<l.length):from_ l i=l[i]+10*from_ l (i+1):=by
 unfold from_
 rw[List.drop_eq_getElem_cons h];rfl
theorem lQ (l:List Int):from_ l 0=aP l:=rfl
theorem oH {l:List Int} {i:Nat} (h:l.length<=i):from_ l i=0:=by unfold from_;rw[List.drop_eq_nil_of_le h];rfl
theorem oG {l:List Int} (h:Gr l) (i:Nat):0<=from_ l i:=f_ fun g hg=>h g (List.mem_of_mem_drop hg)
theorem yK {g R M:Nat} (hM:0<M) (hg:g<10):(g+10*(R % M)) / M<10/\(g+10*R) / M=(g+10*(R % M)) / M+10*(R / M)/\(g+10*R) % M=(g+10*(R % M)) % M:=by
 have h1:=Nat.mod_lt R hM;have h2:=Nat.mod_add_div R M;refine ⟨?_,?_,?_⟩
 · rw[Nat.div_lt_iff_lt_mul hM];have:10*(R % M)+10<=10*M:=by omega
   omega
 · have e:g+10*R=(g+10*(R % M))+M*(10*(R / M)):=by
    conv=>lhs;rw[←h2]
    rw[Nat.mul_add,←Nat.mul_assoc,←Nat.mul_assoc,Nat.mul_comm M 10];omega
   rw[e,Nat.add_mul_div_left _ _ hM]
 · have e:g+10*R=(g+10*(R % M))+M*(10*(R / M)):=by
    conv=>lhs;rw[←h2]
    rw[Nat.mul_add,←Nat.mul_assoc,←Nat.mul_assoc,Nat.mul_comm M 10];omega
   rw[e,Nat.add_mul_mod_self_left]
theorem A_ {R M d:Nat} (hM:0<M):M*(d+1)<=R↔d<R / M:=by
 rw[Nat.lt_iff_add_one_le,Nat.le_div_iff_mul_le hM,Nat.mul_comm]
theorem Kr {a b:Nat} (h:(grp a).length≠(grp b).length):gq a b=if (grp a).length<(grp b).length then -1 else 1:=by
 by_cases h1:(grp a).length<(grp b).length
 · rw[if_pos h1,mZ (jA h1)]
 · rw[if_neg h1,m_ (jA (by omega))]
theorem Sl {a b:Nat} (hlen:(grp a).length=(grp b).length) (k:Nat) (hk:k<(grp a).length) (hd:(grp a).drop (k+1)=(grp b).drop (k+1)) (hne:dN (grp a) k≠dN (grp b) k):gq a b=if dN (grp a) k<dN (grp b) k then -1 else 1:=by
 have va:=dH a;have vb:=dH b;by_cases h:dN (grp a) k<dN (grp b) k
 · have:=jP (dO a) (dO b) hlen k hk hd h;rw [if_pos h,mZ (by omega)]
 · have:=jP (dO b) (dO a) hlen.symm k (by omega) hd.symm (by omega);rw [if_neg h,m_ (by omega)]
theorem FD {a b:Nat} (h:grp a=grp b):gq a b=0:=by
 have va:=dH a;have vb:=dH b;rw [h,vb]at va;have:a=b:=by omega
 subst this;exact tC a
theorem jU {d:Nat->Int} {n m:Nat} (h:∀i,n<=i->d i=0) (hm:n<=m):cZ d m=cZ d n:=by
 induction m with
 | zero =>
  have:n=0:=by omega
  subst this;rfl
 | succ m ih =>
  by_cases hn:n=m+1
  · subst hn;rfl
  · rw[cZ,h m (by omega),ih (by omega)];simp
end Dx
namespace Dx
theorem Du {l:List Int} {j:Nat} {v:Int} (h:j<l.length) (t:Nat):dN (l.set j v) t=if t=j then v else dN l t:=by
 unfold dN
 rw[List.getElem?_set];by_cases ht:j=t
 · subst ht;rw[if_pos rfl,if_pos h,if_pos rfl];rfl
 · rw[if_neg ht,if_neg (fun e=>ht e.symm)]
theorem E5:∀ {l:List Int} {j:Nat} {v:Int},j<l.length->aP (l.set j v)=aP l+10 ^ j*(v-dN l j)
 | [],j,v,h=>absurd h (Nat.not_lt_zero _)
 | a :: l,0,v,_=>by
  show v+10*aP l=a+10*aP l+10 ^ 0*(v-a)
  simp;omega
 | a :: l,j+1,v,h=>by
  have ih:=E5 (l:=l) (j:=j) (v:=v) (by simpa using h)
  show a+10*aP (l.set j v)=a+10*aP l+10 ^ (j+1)*(v-dN l j)
  rw[ih,Int.pow_succ,Int.mul_add,Int.mul_comm (10 ^ j) 10,Int.mul_assoc];omega
structure TIn (C0 C:List Int) (i:Nat) (x:Int) (m:List Int) (k:Nat) (c:Int):Prop where
 len:C.length=C0.length
 gr:Gr C
 eq:aP C+10 ^ (i+k)*c=aP C0+10 ^ i*(x*aP (m.take k))
 same:∀t,i+k<=t->dN C t=dN C0 t
 c0:0<=c
 c9:c<=9
theorem Hz {x y:Int} (hx:0<=x/\x<10) (hy:0<=y/\y<10):0<=x*y/\x*y<=81:=by
 refine⟨Int.mul_nonneg hx.1 hy.1,?_⟩;have h1:x*y<=9*y:=Int.mul_le_mul_of_nonneg_right (by omega) hy.1;omega
theorem TIn.start {C0:List Int} (h:Gr C0) (i:Nat) (x:Int) (m:List Int):TIn C0 C0 i x m 0 0:=⟨rfl,h,by simp[aP],fun _ _=>rfl,by omega,by omega⟩
theorem TIn.step {C0 C m:List Int} {i k:Nat} {x c:Int} (h:TIn C0 C i x m k c) (hx:0<=x/\x<10) (hm:Gr m) (hk:i+k<C.length):TIn C0 (C.set (i+k) ((dN C (i+k)+c+x*dN m k) % 10)) i x m (k+1) ((dN C (i+k)+c+x*dN m k) / 10):=by
 have hC:=iq h.gr (i+k);have hy:=iq hm k;have hxy:=Hz hx hy;have h0:=h.c0;have h9:=h.c9;refine ⟨by rw[List.length_set,h.len],fun g hg=>?_,?_,fun t ht=>?_,by omega,by omega⟩
 · rcases List.mem_or_eq_of_mem_set hg with h1|h1
   · exact h.gr g h1
   · subst h1;omega
 · rw[E5 hk,wP];have he:=h.eq;have e1:(10:Int) ^ (i+(k+1))=10 ^ (i+k)*10:=by rw[←Nat.add_assoc,Int.pow_succ]
   have e2:(10:Int) ^ (i+k)=10 ^ i*10 ^ k:=Int.pow_add _ _ _;generalize dN C (i+k)=u at *;generalize dN m k=y at *;have e3:(u+c+x*y) % 10-u+10*((u+c+x*y) / 10)=c+x*y:=by omega
   have e4:aP C+10 ^ (i+k)*((u+c+x*y) % 10-u)+10 ^ (i+(k+1))*((u+c+x*y) / 10)=aP C+10 ^ (i+k)*(c+x*y):=by
    rw[e1,Int.mul_assoc,Int.add_assoc,←Int.mul_add,e3]
   rw[e4,Int.mul_add,←Int.add_assoc,he,e2,Int.mul_add,Int.mul_add,Int.add_assoc]
   congr 2
   rw[Int.mul_assoc,Int.mul_left_comm x (10 ^ k) y]
 · rw[Du hk,if_neg (by omega)];exact h.same t (by omega)
theorem TIn.stop {C0 C m:List Int} {i k:Nat} {x:Int} (h:TIn C0 C i x m k 0) (hk:m.length<=k):aP C=aP C0+10 ^ i*(x*aP m):=by
 have:=h.eq;rw [List.take_of_length_le hk]at this;omega
end Dx
namespace Dx
def hi (l:List Int) (k:Nat):Nat:=(from_ l k).toNat
theorem JU {l:List Int} (h:Gr l) {k:Nat} (hk:k<l.length):hi l k=(dN l k).toNat+10*hi l (k+1):=by
 have h1:=jB hk;have h2:=oG h (k+1);have h3:=iq h k;rw [←ig hk]at h1
 unfold hi
 omega
theorem QK {l:List Int} {k:Nat} (hk:l.length<=k):hi l k=0:=by unfold hi;rw[oH hk];rfl
theorem VI (n:Nat):hi (grp n) 0=n:=by
 unfold hi;rw[lQ,dH];exact Int.toNat_natCast n
structure TT (l C:List Int) (k b:Nat):Prop where
 len:C.length=l.length
 gr:Gr C
 low:∀t,t<k->dN C t=0
 val:hi C k=hi l k / b
structure DIn (l C:List Int) (k b t:Nat):Prop where
 len:C.length=l.length
 gr:Gr C
 low:∀u,u<k->dN C u=0
 here:dN C k=t
 val:hi C (k+1)=hi l (k+1) / b
theorem Wu (n t:Nat):dN (List.replicate n 0) t=0:=by
 unfold dN
 rw[List.getElem?_replicate]
 split <;> rfl
theorem TT.start (l:List Int) (b:Nat):TT l (List.replicate l.length 0) l.length b:=by
 refine⟨by simp,fun g hg=>?_,fun t _=>Wu _ _,?_⟩
 · obtain rfl:=List.eq_of_mem_replicate hg;omega
 · rw[QK (by simp),QK (Nat.le_refl _),Nat.zero_div]
theorem DIn.step {l C:List Int} {k b t:Nat} (h:DIn l C k b t) (hk:k<C.length) (ht:t+1<10):DIn l (C.set k ((t:Int)+1)) k b (t+1):=by
 refine⟨by rw[List.length_set,h.len],fun g hg=>?_,fun u hu=>?_,?_,?_⟩
 · rcases List.mem_or_eq_of_mem_set hg with h1|h1
   · exact h.gr g h1
   · subst h1;omega
 · rw[Du hk,if_neg (by omega)];exact h.low u hu
 · rw[Du hk,if_pos rfl];omega
 · rw[←h.val]
   unfold hi from_
   rw[List.drop_set_of_lt (by omega)]
theorem DIn.stop {l C:List Int} {k b t:Nat} (h:DIn l C k b t) (hl:Gr l) (hk:k<l.length) (hb:0<b) (ht:t=((dN l k).toNat+10*(hi l (k+1) % b)) / b):TT l C k b:=by
 refine⟨h.len,h.gr,h.low,?_⟩;have hx:=iq hl k;have h1:=yK (g:=(dN l k).toNat) (R:=hi l (k+1)) hb (by omega);rw [JU h.gr (by rw[h.len];exact hk),JU hl hk,h.here,h.val,h1.2.1,ht];rw [Int.toNat_natCast]
theorem TT.fin {a:Nat} {C:List Int} {b:Nat} (h:TT (grp a) C 0 b):Ig.bK C=grp (a / b):=by
 have h1:=h.val;rw [VI]at h1;rw [←KX,jF h.gr,←h1];rfl
end Dx

import Derived.Lib.ItoaNum
import Derived.Lib.AtoiAll
import Derived.Test.YtohgjenaclfegaaGreatDoorQK05
import Derived.IntWalk
set_option linter.unusedVariables false
set_option linter.unusedSimpArgs false
set_option maxRecDepth 100000
set_option maxHeartbeats 8000000
namespace Ig
def aK:List Int->Int
 | []=>0
 | g :: l=>g+10000*aK l
def Gr (l:List Int):Prop:=∀g∈l,0<=g/\g<10000
def grp (n:Nat):List Int:=if h:n=0 then [] else ((n % 10000:Nat):Int) :: grp (n / 10000)
 termination_by n
 decreasing_by omega
theorem aS:grp 0=[]:=by rw[grp,dif_pos rfl]
theorem dO {n:Nat} (h:n≠0):grp n=((n % 10000:Nat):Int) :: grp (n / 10000):=by rw[grp,dif_neg h]
theorem bZ (n:Nat):aK (grp n)=n:=by
 induction n using Nat.strongRecOn with
 | _ n ih =>
  by_cases h:n=0
  · subst h;rw[aS];rfl
  · rw[dO h,aK,ih (n / 10000) (by omega)];omega
theorem dB (n:Nat):Gr (grp n):=by
 induction n using Nat.strongRecOn with
 | _ n ih =>
  by_cases h:n=0
  · subst h;rw[aS];intro g hg;cases hg
  · rw[dO h];intro g hg
    rcases List.mem_cons.1 hg with rfl|hg
    · omega
    · exact ih (n / 10000) (by omega) g hg
theorem pO {n:Nat}:grp n=[]↔n=0:=by
 constructor
 · intro h;by_cases h0:n=0
   · exact h0
   · rw[dO h0]at h;cases h
 · rintro rfl;exact aS
theorem eG {l:List Int} (h:Gr l):0<=aK l:=by
 induction l with
 | nil=>exact Int.le_refl _
 | cons g l ih =>
  have h1:=h g (by simp);have h2:=ih (fun x hx=>h x (by simp[hx]))
  unfold aK;omega
theorem cO (a b:List Int):aK (a++b)=aK a+10000 ^ a.length*aK b:=by
 induction a with
 | nil=>simp[aK]
 | cons g a ih =>
  rw[List.cons_append,aK,ih,aK,List.length_cons,Int.pow_succ];rw [Int.mul_add,←Int.mul_assoc,Int.mul_comm 10000 (10000 ^ a.length)];omega
theorem kG {l:List Int} (h:Gr l):aK l<10000 ^ l.length:=by
 induction l with
 | nil=>decide
 | cons g l ih =>
  have h1:=h g (by simp);have h2:=ih (fun x hx=>h x (by simp[hx]));rw [aK,List.length_cons,Int.pow_succ];omega
theorem uq:∀ {l:List Int},Gr l->l.getLast? ≠ some 0->l=grp (aK l).toNat
 | [],_,_=>by rw[aK];exact aS.symm
 | g :: l,h,ht=>by
  have h1:=h g (by simp);have h2:Gr l:=fun x hx=>h x (by simp[hx])
  have h3:=eG h2
  have ht2:l.getLast? ≠ some 0:=by
   cases l with
   | nil=>simp
   | cons a l=>simpa [List.getLast?_cons_cons] using ht
  have ih:=uq h2 ht2
  have hne:(aK (g :: l)).toNat≠0:=by
   rw[aK];intro h0;have hl0:aK l=0:=by omega
   rw[hl0]at ih;rw [show (0:Int).toNat=0 from rfl,aS]at ih;subst ih;have hg:g=0:=by omega
   subst hg;simp at ht
  rw[dO hne];have e1:((aK (g :: l)).toNat / 10000)=(aK l).toNat:=by rw[aK];omega
  have e2:(((aK (g :: l)).toNat % 10000:Nat):Int)=g:=by rw[aK];omega
  rw[e1,e2,←ih]
def bg (l:List Int):List Int:=(l.reverse.dropWhile (·==0)).reverse
theorem dU (l:List Int):bg (l++[0])=bg l:=by simp[bg]
theorem iR {l:List Int} {g:Int} (h:g≠0):bg (l++[g])=l++[g]:=by simp[bg,h]
theorem j_ (l:List Int):l=[]∨∃m g,l=m++[g]:=by
 rcases List.eq_nil_or_concat l with h|⟨m,g,h⟩
 · exact .inl h
 · exact .inr ⟨m,g,by simpa using h⟩
theorem jJ:∀(n:Nat) {l:List Int},l.length=n->Gr l->bg l=grp (aK l).toNat
 | 0,l,hn,_=>by
  obtain rfl:l=[]:=List.length_eq_zero_iff.1 hn;exact aS.symm
 | n+1,l,hn,h=>by
  rcases j_ l with rfl|⟨m,g,rfl⟩
  · simp at hn
  · have hm:Gr m:=fun x hx=>h x (by simp[hx])
    by_cases hg:g=0
    · subst hg;rw [dU,jJ n (by simpa using hn) hm,cO];simp [aK]
    · rw[iR hg];exact uq h (by simp[hg])
theorem iT {l:List Int} (h:Gr l):bg l=grp (aK l).toNat:=jJ _ rfl h
theorem qR (n:Nat):(grp n).getLast? ≠ some 0:=by
 induction n using Nat.strongRecOn with
 | _ n ih =>
  by_cases h:n=0
  · subst h;rw[aS];simp
  · rw[dO h]
    cases hl:grp (n / 10000) with
    | nil =>
     have h0:=pO.1 hl;simp;omega
    | cons a l =>
     rw[List.getLast?_cons_cons,←hl];exact ih (n / 10000) (by omega)
theorem iw {n k:Nat} (h:n<10000 ^ k):(grp n).length<=k:=by
 induction k generalizing n with
 | zero =>
  have:n=0:=by simpa using h
  subst this;rw[aS];simp
 | succ k ih =>
  by_cases h0:n=0
  · subst h0;rw[aS];simp
  · rw[dO h0,List.length_cons]
    have:n / 10000<10000 ^ k:=by
     rw[Nat.pow_succ]at h;exact Nat.div_lt_of_lt_mul (by rw[Nat.mul_comm];exact h)
    have:=ih this;omega
theorem jd (n:Nat):n<10000 ^ (grp n).length:=by
 have h1:=kG (dB n);rw [bZ]at h1;have h2:((10000 ^ (grp n).length:Nat):Int)=(10000:Int) ^ (grp n).length:=by simp
 omega
def dn (l:List Int) (i:Nat):Int:=l[i]?.getD 0
theorem fO {l:List Int} {i:Nat} (h:i<l.length):dn l i=l[i]:=by simp[dn,h]
theorem ji {l:List Int} {i:Nat} (h:l.length<=i):dn l i=0:=by simp[dn,h]
theorem rX (l:List Int) (k:Nat):aK (l.take (k+1))=aK (l.take k)+10000 ^ k*dn l k:=by
 by_cases h:k<l.length
 · rw[List.take_succ_eq_append_getElem h,cO,fO h];simp [aK,Nat.min_eq_left (Nat.le_of_lt h)]
 · rw[List.take_of_length_le (by omega),List.take_of_length_le (by omega),ji (by omega)];simp
def bU (d:Nat->Int):Nat->Int
 | 0=>0
 | n+1=>bU d n+10000 ^ n*d n
structure gQ (d:Nat->Int) (i:Nat) (out:List Int) (carry:Int):Prop where
 len:out.length=i
 gr:Gr out
 eq:aK out+10000 ^ i*carry=bU d i
theorem kJ (d:Nat->Int):gQ d 0 [] 0:=⟨rfl,(fun g h=>by cases h),by simp[aK,bU]⟩
theorem mY {d:Nat->Int} {i:Nat} {out:List Int} {carry:Int} (h:gQ d i out carry):gQ d (i+1) (out++[(d i+carry) % 10000]) ((d i+carry) / 10000):=by
 refine⟨by simp[h.len],fun g hg=>?_,?_⟩
 · rcases List.mem_append.1 hg with hg|hg
   · exact h.gr g hg
   · obtain rfl:g=(d i+carry) % 10000:=by simpa using hg
     omega
 · rw[cO,h.len,bU,←h.eq,Int.pow_succ];have e:(d i+carry) % 10000+10000*((d i+carry) / 10000)=d i+carry:=by omega
   simp only[aK];rw [Int.mul_zero,Int.add_zero,Int.mul_assoc,Int.add_assoc,←Int.mul_add,e,Int.mul_add];omega
theorem kK {d:Nat->Int} {i:Nat} {out:List Int} {carry:Int} (h:gQ d i out carry) (h0:0<=bU d i):0<=carry:=by
 have h1:=kG h.gr;rw [h.len]at h1;have h2:=h.eq
 rcases Int.lt_or_le carry 0 with hc|hc
 · have h3:(10000:Int) ^ i*carry<=10000 ^ i*(-1):=Int.mul_le_mul_of_nonneg_left (by omega) (Int.le_of_lt (Int.pow_pos (by decide)));omega
 · exact hc
theorem pU {d:Nat->Int} {i:Nat} {out:List Int} (h:gQ d i out 0):bg out=grp (bU d i).toNat:=by
 rw[iT h.gr];have:=h.eq;rw [Int.mul_zero,Int.add_zero]at this;rw [this]
theorem AV (a b:Nat->Int) (n:Nat):bU (fun i=>a i+b i) n=bU a n+bU b n:=by
 induction n with
 | zero=>rfl
 | succ n ih=>simp only[bU,ih,Int.mul_add];omega
theorem AO (a b:Nat->Int) (n:Nat):bU (fun i=>a i-b i) n=bU a n-bU b n:=by
 induction n with
 | zero=>rfl
 | succ n ih=>simp only[bU,ih,Int.mul_sub];omega
theorem AP (a:Nat->Int) (c:Int) (n:Nat):bU (fun i=>a i*c) n=bU a n*c:=by
 induction n with
 | zero=>simp[bU]
 | succ n ih=>simp only[bU,ih,Int.add_mul,Int.mul_assoc]
theorem yJ (l:List Int) (n:Nat):bU (dn l) n=aK (l.take n):=by
 induction n with
 | zero=>rfl
 | succ n ih=>rw[bU,ih,rX]
theorem AU {l:List Int} {n:Nat} (h:l.length<=n):bU (dn l) n=aK l:=by rw[yJ,List.take_of_length_le h]
theorem fP {l:List Int} (h:Gr l) (i:Nat):0<=dn l i/\dn l i<10000:=by
 by_cases hi:i<l.length
 · rw[fO hi];exact h _ (List.getElem_mem hi)
 · rw[ji (by omega)];omega
theorem iM {a b:Nat} (h:(grp a).length<(grp b).length):a<b:=by
 rcases Nat.lt_or_ge a b with h1|h1
 · exact h1
 · have h2:=jd a;have:b<10000 ^ (grp a).length:=by omega
   have:=iw this;omega
theorem jc {l m:List Int} (hl:Gr l) (hm:Gr m) (hlen:l.length=m.length) (k:Nat) (hk:k<l.length) (hd:l.drop (k+1)=m.drop (k+1)) (hlt:dn l k<dn m k):aK l<aK m:=by
 have e:∀ {x:List Int} (hx:k<x.length),x=x.take k++(dn x k :: x.drop (k+1)):=fun {x} hx=>by
  rw[fO hx,←List.drop_eq_getElem_cons hx,List.take_append_drop]
 rw[e hk,e (show k<m.length by omega),cO,cO,aK,aK,hd];have h1:=kG (l:=l.take k) (fun g hg=>hl g (List.mem_of_mem_take hg));have h2:=eG (l:=m.take k) (fun g hg=>hm g (List.mem_of_mem_take hg));have e1:(l.take k).length=k:=by simp;omega
 have e2:(m.take k).length=k:=by simp;omega
 rw[e1]at h1;rw [e1,e2]
 have h3:(10000:Int) ^ k*(dn l k+10000*aK (m.drop (k+1)))+10000 ^ k<=10000 ^ k*(dn m k+10000*aK (m.drop (k+1))):=by
  have:(10000:Int) ^ k*(dn l k+10000*aK (m.drop (k+1)))+10000 ^ k=10000 ^ k*(dn l k+10000*aK (m.drop (k+1))+1):=by rw[Int.mul_add (10000 ^ k) (_+_) 1,Int.mul_one]
  rw[this];exact Int.mul_le_mul_of_nonneg_left (by omega) (Int.le_of_lt (Int.pow_pos (by decide)))
 omega
end Ig
namespace Ig
def dg (k:Nat):UInt8:=UInt8.ofNat (48+k)
theorem eY {n:Nat} (h:n<10):Go.Lib.decDigits n=[dg n]:=by rw[Go.Lib.decDigits,dif_pos h];rfl
theorem dY {n:Nat} (h:¬n<10):Go.Lib.decDigits n=Go.Lib.decDigits (n / 10)++[dg (n % 10)]:=by rw[Go.Lib.decDigits,dif_neg h];rfl
def four (g:Nat):List UInt8:=[dg (g / 1000),dg (g / 100 % 10),dg (g / 10 % 10),dg (g % 10)]
theorem JH {g:Nat} (h:g<10000):List.replicate (4-Go.Lib.nDigits g) 48++Go.Lib.decDigits g=four g:=by
 have z:dg 0=48:=rfl;by_cases h1:g<10
 · rw[Go.Lib.nDigits_small h1,eY h1,four,show g / 1000=0 by omega,show g / 100 % 10=0 by omega,show g / 10 % 10=0 by omega,show g % 10=g by omega,z];rfl
 · by_cases h2:g<100
   · rw[Go.Lib.nDigits_big h1,Go.Lib.nDigits_small (by omega),dY h1,eY (by omega),four,show g / 1000=0 by omega,show g / 100 % 10=0 by omega,show g / 10 % 10=g / 10 by omega,z];rfl
   · by_cases h3:g<1000
     · rw[Go.Lib.nDigits_big h1,Go.Lib.nDigits_big (by omega),Go.Lib.nDigits_small (by omega),dY h1,dY (by omega),eY (by omega),four,show g / 1000=0 by omega,show g / 100 % 10=g / 10 / 10 by omega,z];rfl
     · rw[Go.Lib.nDigits_big h1,Go.Lib.nDigits_big (by omega),Go.Lib.nDigits_big (by omega),Go.Lib.nDigits_small (by omega),dY h1,dY (by omega),dY (by omega),eY (by omega),four,show g / 1000=g / 10 / 10 / 10 by omega,show g / 100 % 10=g / 10 / 10 % 10 by omega];rfl
theorem D_ {n:Nat} (h:10000<=n):Go.Lib.decDigits n=Go.Lib.decDigits (n / 10000)++four (n % 10000):=by
 rw[dY (by omega),dY (show ¬n / 10<10 by omega),dY (show ¬n / 10 / 10<10 by omega),dY (show ¬n / 10 / 10 / 10<10 by omega),four];rw [show n / 10 / 10 / 10 / 10=n / 10000 by omega,show n / 10 / 10 / 10 % 10=n % 10000 / 1000 by omega,show n / 10 / 10 % 10=n % 10000 / 100 % 10 by omega,show n / 10 % 10=n % 10000 / 10 % 10 by omega,show n % 10=n % 10000 % 10 by omega];simp
theorem kM (n:Nat):(Go.Lib.decDigits n).length=Go.Lib.nDigits n:=by
 induction n using Nat.strongRecOn with
 | _ n ih =>
  by_cases h:n<10
  · rw[eY h,Go.Lib.nDigits_small h];rfl
  · rw[dY h,Go.Lib.nDigits_big h,List.length_append,ih (n / 10) (by omega)];rfl
theorem J5 (n:Nat):1<=Go.Lib.nDigits n:=by
 by_cases h:n<10
 · rw[Go.Lib.nDigits_small h];omega
 · rw[Go.Lib.nDigits_big h];omega
theorem J6 {n k:Nat} (hk:1<=k):Go.Lib.nDigits n<=k↔n<10 ^ k:=by
 induction k generalizing n with
 | zero=>omega
 | succ k ih =>
  by_cases h:n<10
  · rw[Go.Lib.nDigits_small h];have:10 ^ 1<=10 ^ (k+1):=Nat.pow_le_pow_right (by decide) (by omega)
    constructor
    · intro _;omega
    · intro _;omega
  · rw[Go.Lib.nDigits_big h];by_cases hk0:k=0
    · subst hk0;have:=J5 (n / 10);simp;omega
    · have:=ih (n:=n / 10) (by omega);rw [Nat.pow_succ];omega
def y8 (c:UInt8):Bool:=decide (48<=c.toNat)&&decide (c.toNat<=57)
theorem yM {k:Nat} (h:k<10):(dg k).toNat=48+k:=by
 have:∀k:Fin 10,(dg k.val).toNat=48+k.val:=by decide
 exact this ⟨k,h⟩
theorem KG {k:Nat} (h:k<10):y8 (dg k)=true:=by simp[y8,yM h];omega
theorem n_ (n:Nat):(Go.Lib.decDigits n).all y8=true:=by
 induction n using Nat.strongRecOn with
 | _ n ih =>
  by_cases h:n<10
  · rw[eY h];simp[KG h]
  · rw[dY h,List.all_append,ih (n / 10) (by omega)];simp[KG (show n % 10<10 by omega)]
theorem D9 (n:Nat):Go.Lib.decDigits n≠[]:=by
 intro h;have:=kM n;rw [h]at this;have:=J5 n;simp at *;omega
theorem MV {n:Nat} (h:n≠0):(Go.Lib.decDigits n).head? ≠ some 48:=by
 induction n using Nat.strongRecOn with
 | _ n ih =>
  by_cases h1:n<10
  · rw[eY h1];intro he;simp at he
    have:=yM h1;rw [he]at this;have:(48:UInt8).toNat=48:=rfl;omega
  · rw[dY h1]
    cases hd:Go.Lib.decDigits (n / 10) with
    | nil=>exact absurd hd (D9 _)
    | cons a l =>
     have:=ih (n / 10) (by omega) (by omega);rw [hd]at this;simpa using this
def nv (s:List UInt8):Nat:=s.foldl (fun n c=>10*n+(c.toNat-48)) 0
theorem EI (s:List UInt8) (c:UInt8):nv (s++[c])=10*nv s+(c.toNat-48):=by simp[nv,List.foldl_append]
theorem Du (n:Nat):nv (Go.Lib.decDigits n)=n:=by
 induction n using Nat.strongRecOn with
 | _ n ih =>
  by_cases h:n<10
  · rw[eY h];simp[nv,yM h]
  · rw[dY h,EI,ih (n / 10) (by omega),yM (show n % 10<10 by omega)];omega
theorem P_ {a b:Nat} (h:Go.Lib.decDigits a=Go.Lib.decDigits b):a=b:=by rw[←Du a,h,Du]
def kX (s:List UInt8):List UInt8:=if [45].isPrefixOf s then s.drop 1 else s
def iQ (s:List UInt8):Bool:= !(kX s).isEmpty&&decide ((kX s).length<=200)&&(kX s).all y8&&(s==[48]|| !((kX s).head? == some 48))
def fits (z:Int):Prop:=z.natAbs<10 ^ 200
theorem itoa_nonneg {z:Int} (h:0<=z):Go.Lib.itoa z=Go.Lib.decDigits z.natAbs:=by
 unfold Go.Lib.itoa
 rw[if_neg (by omega),show z.toNat=z.natAbs by omega]
theorem itoa_neg {z:Int} (h:z<0):Go.Lib.itoa z=45 :: Go.Lib.decDigits z.natAbs:=by
 unfold Go.Lib.itoa
 rw[if_pos h]
theorem nZ (n:Nat):[45].isPrefixOf (Go.Lib.decDigits n)=false:=by
 cases hd:Go.Lib.decDigits n with
 | nil=>rfl
 | cons a l =>
  have h:=n_ n;rw [hd,List.all_cons,Bool.and_eq_true]at h
  have ha:48<=a.toNat:=by
   have:=h.1;simp [y8]at this
   omega
  have hne:¬(45:UInt8)=a:=by
   rintro rfl;have:(45:UInt8).toNat=45:=rfl;omega
  simp[List.isPrefixOf,hne]
theorem mF (z:Int):kX (Go.Lib.itoa z)=Go.Lib.decDigits z.natAbs:=by
 unfold kX
 by_cases h:0<=z
 · rw[itoa_nonneg h,nZ];rfl
 · rw[itoa_neg (by omega)];rfl
theorem jX {z:Int} (h:fits z):iQ (Go.Lib.itoa z)=true:=by
 unfold iQ
 rw[mF,n_];have h1:(Go.Lib.decDigits z.natAbs).length<=200:=by rw[kM,J6 (by decide)];exact h
 have h2:=D9 z.natAbs
 have h3:(Go.Lib.itoa z==[48]|| !((Go.Lib.decDigits z.natAbs).head? == some 48))=true:=by
  by_cases hz:z=0
  · subst hz;rw [itoa_nonneg (by decide),show (0:Int).natAbs=0 from rfl,eY (by decide)];rfl
  · have:=MV (n:=z.natAbs) (by omega);rw [Bool.or_eq_true];right;simpa using this
 rw[h3];simp [h2,h1]
theorem ug {a b:Int} (h:Go.Lib.itoa a=Go.Lib.itoa b):a=b:=by
 have h1:a.natAbs=b.natAbs:=P_ (by rw[←mF,h,mF]);by_cases ha:0<=a <;> by_cases hb:0<=b
 · omega
 · rw[itoa_nonneg ha,itoa_neg (by omega)]at h;have:=nZ a.natAbs;rw [h]at this;simp[List.isPrefixOf]at this
 · rw[itoa_neg (by omega),itoa_nonneg hb]at h;have:=nZ b.natAbs;rw [←h]at this;simp[List.isPrefixOf]at this
 · omega
end Ig
namespace Ig
theorem qG {v:Nat} (h:v≠0):(0:Int) :: grp v=grp (10000*v):=by
 rw[dO (n:=10000*v) (by omega),show 10000*v % 10000=0 by omega,show 10000*v / 10000=v by omega];rfl
theorem fK {v:Nat}:(grp v).length=0↔v=0:=by rw[List.length_eq_zero_iff,pO]
def from_ (l:List Int) (i:Nat):Int:=aK (l.drop i)
theorem iO {l:List Int} {i:Nat} (h:i<l.length):from_ l i=l[i]+10000*from_ l (i+1):=by
 unfold from_
 rw[List.drop_eq_getElem_cons h];rfl
theorem jT (l:List Int):from_ l 0=aK l:=rfl
theorem lU {l:List Int} {i:Nat} (h:l.length<=i):from_ l i=0:=by unfold from_;rw[List.drop_eq_nil_of_le h];rfl
theorem lT {l:List Int} (h:Gr l) (i:Nat):0<=from_ l i:=eG fun g hg=>h g (List.mem_of_mem_drop hg)
theorem uD {g R M:Nat} (hM:0<M) (hg:g<10000):(g+10000*(R % M)) / M<10000/\(g+10000*R) / M=(g+10000*(R % M)) / M+10000*(R / M)/\(g+10000*R) % M=(g+10000*(R % M)) % M:=by
 have h1:=Nat.mod_lt R hM;have h2:=Nat.mod_add_div R M;refine ⟨?_,?_,?_⟩
 · rw[Nat.div_lt_iff_lt_mul hM];have:10000*(R % M)+10000<=10000*M:=by omega
   omega
 · have e:g+10000*R=(g+10000*(R % M))+M*(10000*(R / M)):=by
    conv=>lhs;rw[←h2]
    rw[Nat.mul_add,←Nat.mul_assoc,←Nat.mul_assoc,Nat.mul_comm M 10000];omega
   rw[e,Nat.add_mul_div_left _ _ hM]
 · have e:g+10000*R=(g+10000*(R % M))+M*(10000*(R / M)):=by
    conv=>lhs;rw[←h2]
    rw[Nat.mul_add,←Nat.mul_assoc,←Nat.mul_assoc,Nat.mul_comm M 10000];omega
   rw[e,Nat.add_mul_mod_self_left]
theorem xk {R M d:Nat} (hM:0<M):M*(d+1)<=R↔d<R / M:=by
 rw[Nat.lt_iff_add_one_le,Nat.le_div_iff_mul_le hM,Nat.mul_comm]
def eH (a b:Nat):Int:=if a<b then -1 else if a=b then 0 else 1
theorem kN {a b:Nat} (h:a<b):eH a b= -1:=by unfold eH;rw[if_pos h]
theorem pX (a:Nat):eH a a=0:=by unfold eH;rw[if_neg (by omega),if_pos rfl]
theorem kP {a b:Nat} (h:b<a):eH a b=1:=by unfold eH;rw[if_neg (by omega),if_neg (by omega)]
theorem Fz {a b:Nat} (h:(grp a).length≠(grp b).length):eH a b=if (grp a).length<(grp b).length then -1 else 1:=by
 by_cases h1:(grp a).length<(grp b).length
 · rw[if_pos h1,kN (iM h1)]
 · rw[if_neg h1,kP (iM (by omega))]
theorem Na {a b:Nat} (hlen:(grp a).length=(grp b).length) (k:Nat) (hk:k<(grp a).length) (hd:(grp a).drop (k+1)=(grp b).drop (k+1)) (hne:dn (grp a) k≠dn (grp b) k):eH a b=if dn (grp a) k<dn (grp b) k then -1 else 1:=by
 have va:=bZ a;have vb:=bZ b;by_cases h:dn (grp a) k<dn (grp b) k
 · have:=jc (dB a) (dB b) hlen k hk hd h;rw [if_pos h,kN (by omega)]
 · have:=jc (dB b) (dB a) hlen.symm k (by omega) hd.symm (by omega);rw [if_neg h,kP (by omega)]
theorem A_ {a b:Nat} (h:grp a=grp b):eH a b=0:=by
 have va:=bZ a;have vb:=bZ b;rw [h,vb]at va;have:a=b:=by omega
 subst this;exact pX a
theorem jf {d:Nat->Int} {n m:Nat} (h:∀i,n<=i->d i=0) (hm:n<=m):bU d m=bU d n:=by
 induction m with
 | zero =>
  have:n=0:=by omega
  subst this;rfl
 | succ m ih =>
  by_cases hn:n=m+1
  · subst hn;rfl
  · rw[bU,h m (by omega),ih (by omega)];simp
end Ig
namespace Go.Proofs.YtohgjenaclfegaaGreatDoor
open Go.RowKit
def I64 (x:Int):Prop:= -9223372036854775808<=x/\x<=9223372036854775807
theorem aj (w:World) (o:Obj):(w.alloc o).heap.size=w.heap.size+1:=by
 show (w.heap.push o).size=_
 simp
def aV (c:Int):List Value:=[.int .i64 c]
theorem KJ:∃i z,Tryz.prog.info? 3=some i/\i.zero=some z/\i.size=1/\z.cells.size=1/\i.bytes=8:=by
 have h:(Tryz.prog.info? 3).map (fun i=>(i.size,i.bytes,i.zero.map (·.cells.size)))=some (1,8,some 1):=by kernel_rfl
 cases hi:Tryz.prog.info? 3 with
 | none=>rw[hi]at h;cases h
 | some i =>
  rw[hi]at h;simp only[Option.map_some,Option.some.injEq,Prod.mk.injEq]at h;obtain ⟨h1,h2,h3⟩:=h
  cases hz:i.zero with
  | none=>rw[hz]at h3;cases h3
  | some z=>rw[hz]at h3;exact⟨i,z,rfl,hz,h1,by simpa using h3,h2⟩
theorem aG (W:World) (o:Obj):Below W.heap.size W (W.alloc o):=(Below.refl W.heap.size W).alloc (Nat.le_refl _) o
theorem exK {α:Type} (a:α):∃b,Kp (a=b):=⟨a,⟨rfl⟩⟩
theorem lZ (s:List UInt8) (w:World):Calls Tryz.prog 212 #[.string ⟨s.toArray⟩,.string ⟨#[45]⟩] w fun e w'=>e=.returned (.string ⟨(Ig.kX s).toArray⟩)/\w=w' :=
 (Tryz.strings_TrimPrefix ⟨s.toArray⟩ ⟨#[45]⟩ w).mono fun e w' ⟨h1,h2⟩=>⟨by
  rw[h1]
  have:Lib.trimPrefix s [45]=Ig.kX s:=by
   unfold Lib.trimPrefix Ig.kX
   rfl
  simp only[this],h2.symm⟩
def OC:List UInt8:=[48,49,50,51,52,53,54,55,56,57]
theorem Pg (b:UInt8):b∈OC↔Ig.y8 b=true:=by
 have:∀b:Fin 256,(UInt8.ofNat b.val)∈OC↔Ig.y8 (UInt8.ofNat b.val)=true:=by decide +kernel
 have h:=this ⟨b.toNat,b.toNat_lt⟩;simpa using h
theorem AY (s:List UInt8):(Lib.trimS s OC).isEmpty=s.all Ig.y8:=by
 rw[Bool.eq_iff_iff,List.isEmpty_iff,zo];simp only[List.all_eq_true,Pg]
theorem lK (s:List UInt8) (hs:s.length<=1000000) (w:World) :
 bP 149 #[.string ⟨s.toArray⟩] w (.bool (Ig.iQ s)):=by
 have hT:=fun w0=>lZ s w0
 have hul:(Ig.kX s).length<=1000000:=by
  unfold Ig.kX
  split
  · rw[List.length_drop];omega
  · omega
 have hD:=fun w0=>NH (Ig.kX s) OC w0 hul (by decide) (by decide)
 have hdt:=AY (Ig.kX s);have hdef:Kp (Ig.iQ s=(!(Ig.kX s).isEmpty&&decide ((Ig.kX s).length<=200)&&(Ig.kX s).all Ig.y8&&(s==[48]|| !((Ig.kX s).head? == some 48)))):=⟨rfl⟩
 generalize Ig.kX s=d at *;by_cases h0:d=[]
 · subst h0;have hfin:Kp (Ig.iQ s=false):=⟨by rw[hdef.out];rfl⟩
   clear hdt hdef hD
   go_enter Tryz.func149,Tryz.ntmps149
   go_wp2_with (go_at_call 212;refine (hT _).mono ?_;rintro _ _ ⟨rfl,rfl⟩)
   go_ret;exact ⟨fD hfin.out.symm,Below.refl _ _⟩
 · have e0:d.isEmpty=false:=by simpa using h0
   by_cases hl:d.length<=200
   · have t1:decide ((d.length:Int) > 200)=false:=by simp;omega
     cases hdd:d.all Ig.y8
     · have hfin:Kp (Ig.iQ s=false):=⟨by rw[hdef.out,hdd];simp⟩
       rw[hdd]at hdt;clear hdef h0 hdd
       go_enter Tryz.func149,Tryz.ntmps149
       go_wp2_with (first
        | (go_at_call 212;refine (hT _).mono ?_;rintro _ _ ⟨rfl,rfl⟩)
        | (go_at_call 213;refine (hD _).mono ?_;rintro _ w1 ⟨rfl,hb⟩))
       go_ret;exact ⟨fD hfin.out.symm,hb⟩
     · rw[hdd]at hdt;by_cases hz:s=[48]
       · have hfin:Kp (Ig.iQ s=true):=⟨by rw[hdef.out,hdd,e0,decide_eq_true hl,hz];rfl⟩
         subst hz;clear hdef h0 hdd
         go_enter Tryz.func149,Tryz.ntmps149
         go_wp2_with (first
          | (go_at_call 212;refine (hT _).mono ?_;rintro _ _ ⟨rfl,rfl⟩)
          | (go_at_call 213;refine (hD _).mono ?_;rintro _ w1 ⟨rfl,hb⟩))
         go_ret;exact ⟨fD hfin.out.symm,hb⟩
       · have hpos:0<d.length:=by
          cases d with
          | nil=>exact absurd rfl h0
          | cons a l=>simp
         have hhd:d.head? = some d[0]:=by
          cases d with
          | nil=>exact absurd rfl h0
          | cons a l=>rfl
         have hzb:(s==[48])=false:=by simpa using hz
         by_cases hc:d[0]=48
         · have hfin:Kp (Ig.iQ s=false):=⟨by rw[hdef.out,hdd,e0,hhd,hc,hzb];simp⟩
           have t2:(((d[0].toNat:Nat):Int) != 48)=false:=by rw[hc];rfl
           clear hdef h0 hdd hhd hc
           go_enter Tryz.func149,Tryz.ntmps149
           go_wp2_with (first
            | (go_at_call 212;refine (hT _).mono ?_;rintro _ _ ⟨rfl,rfl⟩)
            | (go_at_call 213;refine (hD _).mono ?_;rintro _ w1 ⟨rfl,hb⟩))
           go_ret;exact ⟨fD hfin.out.symm,hb⟩
         · have hfin:Kp (Ig.iQ s=true):=⟨by rw[hdef.out,hdd,e0,hhd,hzb,decide_eq_true hl];simp[hc]⟩
           have hne:¬d[0].toNat=48:=fun h=>hc (by apply UInt8.toNat_inj.1;exact h)
           have t2:(((d[0].toNat:Nat):Int) != 48)=true:=by simp;omega
           clear hdef h0 hdd hhd hc
           go_enter Tryz.func149,Tryz.ntmps149
           go_wp2_with (first
            | (go_at_call 212;refine (hT _).mono ?_;rintro _ _ ⟨rfl,rfl⟩)
            | (go_at_call 213;refine (hD _).mono ?_;rintro _ w1 ⟨rfl,hb⟩))
           go_ret;exact ⟨fD hfin.out.symm,hb⟩
   · have t1:decide ((d.length:Int) > 200)=true:=by simp;omega
     have hfin:Kp (Ig.iQ s=false):=⟨by rw[hdef.out,decide_eq_false hl];simp⟩
     clear hdt hdef hD h0
     go_enter Tryz.func149,Tryz.ntmps149
     go_wp2_with (go_at_call 212;refine (hT _).mono ?_;rintro _ _ ⟨rfl,rfl⟩)
     go_ret;exact ⟨fD hfin.out.symm,Below.refl _ _⟩
theorem fU (l:List Int) (A:Option Addr) (cap:Nat) (w:World) (hA:At 1 aV w w.heap.size A l) (hn:l.length<=cap) (hl:l.length<=1000000) :
 Calls Tryz.prog 260 #[.slice A l.length cap] w fun e w'=>e=.returned (.slice A (Ig.bg l).length cap)/\w=w':=by
 go_enter Tryz.func260,Tryz.ntmps260
 go_wp2
 go_loop [0] (fun s=>∃k:Nat,k<=l.length/\s=.slice A k cap/\Hid (Ig.bg (l.take k)=Ig.bg l)) (fun s=>match s with|.slice _ k _=>k|_=>0)
 case atStart=>exact⟨l.length,Nat.le_refl _,rfl,Lib.hid (by rw[List.take_length])⟩
 case round =>
  obtain⟨k,hk,rfl,ht⟩:=hrel;by_cases h0:0<k
  · obtain⟨b,off,rfl,hbB,hcell⟩:=hA (by omega);obtain ⟨k,rfl⟩:∃j,k=j+1:=⟨k-1,by omega⟩
    have hck:l[k]? = some l[k]:=List.getElem?_eq_getElem (by omega)
    have c0:w.cell? ⟨b,off+k,none⟩=some (.int .i64 l[k]):=by
     have:=hcell k _ hck 0 _ rfl;simpa using this
    have hsn:=List.take_succ_eq_append_getElem (show k<l.length by omega);by_cases hz:l[k]=0
    · have t1:(l[k]==0)=true:=by simp[hz]
      have hnext:=Lib.hid (show Ig.bg (l.take k)=Ig.bg l by rw[←ht.out,hsn,hz,Ig.dU]);clear hck hcell hsn hz ht;generalize l[k]=g at *;go_wp2;exact ⟨⟨k,by omega,rfl,hnext⟩,Nat.lt_succ_self k⟩
    · have t1:(l[k]==0)=false:=by simp[hz]
      have hfin:Kp ((Ig.bg l).length=k+1):=⟨by rw[←ht.out,hsn,Ig.iR hz];simp;omega⟩
      clear hck hcell hsn hz ht;generalize l[k]=g at *;go_wp2;go_ret;exact ⟨by rw[hfin.out];rfl,rfl⟩
  · obtain rfl:k=0:=by omega
    have hfin:Kp ((Ig.bg l).length=0):=⟨by rw[←ht.out];rfl⟩
    clear ht;go_wp2;go_ret;exact ⟨by rw[hfin.out];rfl,rfl⟩
theorem mG (l:List Int):l.take (Ig.bg l).length=Ig.bg l:=by
 have h:∀n (l:List Int),l.length=n->Ig.bg l <+: l:=by
  intro n
  induction n with
  | zero=>intro l h;rw[List.length_eq_zero_iff.1 h];exact List.prefix_refl _
  | succ n ih =>
   intro l h
   rcases Ig.j_ l with rfl|⟨m,g,rfl⟩
   · exact List.prefix_refl _
   · by_cases hg:g=0
     · subst hg;rw [Ig.dU];exact (ih m (by simpa using h)).trans (List.prefix_append _ _)
     · rw[Ig.iR hg];exact List.prefix_refl _
 exact (List.prefix_iff_eq_take.1 (h _ l rfl)).symm
theorem aB {w:World} {ops:Array Oper} {rest:List Oper} {o:Oper} {a:Act} {Q:Exit->Act->World->Prop} (hgd:o.guard=none) (s y:Operand) (ho:o.op=.call { callee:=.builtin .append,args:=#[s,y],argTypes:=#[297,297] })
 (B cap n m:Nat) (flat news:List Value) (v x:Value) (hes:a.eval s=v) (DN:a.eval y=x) (hv:dI 3 1 B cap n flat v w) (hB:B<=w.heap.size) (hs:Src Tryz.prog 1 297 x m news w) (hcm:cap<=maxLen) (h63:n+m<=2000000)
 (h:∀v' w' cap',Below B w w'->(n=cap->Below w.heap.size w w')->dI 3 1 B cap' (n+m) (flat++news) v' w'->cap'<=maxLen->wpList Tryz.prog ops Q rest (a.put o.dst v') w'):wpList Tryz.prog ops Q (o :: rest) a w:=by
 obtain⟨i,z,hi,hz,hs1,hz1,hby⟩:=KJ;exact jv hgd s y _ _ ho i z 1 B cap n m flat news v x Tryz.underlying297 hi hz hs1 hz1 hes DN hv hB hs hcm (by unfold maxLen;omega) (by rw[hby];omega) h
theorem dR (W:World) (x:Int):Src Tryz.prog 1 297 (.slice (some ⟨W.heap.size,0,none⟩) 1 1) 1 [.int .i64 x] (W.alloc (.cells #[.int .i64 x] 3)) :=
 dI.src (B:=W.heap.size) (cap:=1) (e:=3) (fun u hu=>by simp at hu;subst hu;rfl) Tryz.underlying297 ⟨W.heap.size,_,rfl,Nat.le_refl _,Nat.le_refl _,Bx.mk _ _ _,rfl,rfl⟩
structure aA (W:World) (a:Nat) (v:Value):Prop where
 out:∃(A:Option Addr) (cap:Nat),v=.slice A (Ig.grp a).length cap/\At 1 aV W W.heap.size A (Ig.grp a)/\(Ig.grp a).length<=cap/\cap<=maxLen
theorem aA.call {W W':World} {a:Nat} {v:Value} (h:aA W a v) (hb:Below W.heap.size W W'):aA W' a v:=by
 obtain⟨A,cap,h1,h2,h3,h4⟩:=h.out;exact ⟨A,cap,h1,(h2.below hb).more hb.size,h3,h4⟩
theorem uO (l:List Int) (A:Option Addr) (cap i:Nat) (w:World) (hA:At 1 aV w w.heap.size A l) (hn:l.length<=cap) (hl:l.length<=1000000) (hi:i<=1000000) :
 Calls Tryz.prog 270 #[.slice A l.length cap,.int .i64 i] w fun e w'=>e=.returned (.int .i64 (Ig.dn l i))/\w=w':=by
 by_cases hlt:i<l.length
 · obtain⟨b,off,rfl,hbB,hcell⟩:=hA (by omega);have hck:l[i]? = some l[i]:=List.getElem?_eq_getElem hlt
   have c0:w.cell? ⟨b,off+i,none⟩=some (.int .i64 l[i]):=by
    have:=hcell i _ hck 0 _ rfl;simpa using this
   have hfin:Kp (Ig.dn l i=l[i]):=⟨Ig.fO hlt⟩
   clear hck hcell;generalize l[i]=g at *
   go_enter Tryz.func270,Tryz.ntmps270
   go_wp2;go_ret;exact ⟨gJ hfin.out.symm,rfl⟩
 · have hfin:Kp (Ig.dn l i=0):=⟨Ig.ji (by omega)⟩
   go_enter Tryz.func270,Tryz.ntmps270
   go_wp2;go_ret;exact ⟨gJ hfin.out.symm,rfl⟩
structure Two (B:Nat) (W:World) (b1 b2:Nat) (l m:List Int):Prop where
 out:∃A1 c1 A2 c2,Bx W b1 297 #[.slice A1 l.length c1]/\Bx W b2 297 #[.slice A2 m.length c2]/\At 1 aV W B A1 l/\At 1 aV W B A2 m/\l.length<=c1/\m.length<=c2
 VK:b1<B
 VJ:b2<B
 le:B<=W.heap.size
theorem Two.call {B:Nat} {W W':World} {b1 b2:Nat} {l m:List Int} (h:Two B W b1 b2 l m) (hb:Below B W W'):Two B W' b1 b2 l m:=by
 obtain⟨A1,c1,A2,c2,h1,h2,h3,h4,h5,h6⟩:=h.out;exact ⟨⟨A1,c1,A2,c2,h1.below hb h.VK,h2.below hb h.VJ,h3.below hb,h4.below hb,h5,h6⟩,h.VK,h.VJ,Nat.le_trans h.le hb.size⟩
theorem Dn (B:Nat) (l m:List Int) (b1 b2 i:Nat) (w:World) (h:Two B w b1 b2 l m) (hl:l.length<=100000) (hm:m.length<=100000) (gl:Ig.Gr l) (gm:Ig.Gr m) (hi:i<=1000000) :
 bP 269 #[.int .i64 i,.pointer (some ⟨b1,0,none⟩),.pointer (some ⟨b2,0,none⟩)] w (.int .i64 (Ig.dn l i+Ig.dn m i)):=by
 obtain⟨A1,c1,A2,c2,B1,B2,h3,h4,h5,h6⟩:=h.out;replace h3:=h3.more h.le;replace h4:=h4.more h.le;have x1:=Ig.fP gl i;have x2:=Ig.fP gm i;have k1:=fun d os=>uO l A1 c1 i (Sort.grow (redrawn w d) os) ((h3.below (below_regrown w d os)).more (below_regrown w d os).size) h5 (by omega) hi
 have k2:=fun d os=>uO m A2 c2 i (Sort.grow (redrawn w d) os) ((h4.below (below_regrown w d os)).more (below_regrown w d os).size) h6 (by omega) hi
 have g1:=fun d os=>(B1.again d os).cell 0 rfl
 have g2:=fun d os=>(B2.again d os).cell 0 rfl
 clear h h3 h4 B1 B2;generalize Ig.dn l i=p at *;generalize Ig.dn m i=q at *
 go_enter Tryz.func269,Tryz.ntmps269
 go_wp2;refine wp_region_quiet_below (by kernel_rfl) (by kernel_rfl) ?_
 repeat (go_big_quiet_step (first
  | (go_at_call 270;with_reducible exact Calls.regrown_of (bG (k1 _ _)))
  | (go_at_call 270;with_reducible exact Calls.regrown_of (bG (k2 _ _)))))
 refine wpQuiet_nil ?_;rintro _ ⟨z,rfl⟩;go_wp2;go_ret;exact ⟨rfl,below_regrown w z.d z.os⟩
theorem zT (B:Nat) (l m:List Int) (b1 b2 i:Nat) (w:World) (h:Two B w b1 b2 l m) (hl:l.length<=100000) (hm:m.length<=100000) (gl:Ig.Gr l) (gm:Ig.Gr m) (hi:i<=1000000) :
 bP 271 #[.int .i64 i,.pointer (some ⟨b1,0,none⟩),.pointer (some ⟨b2,0,none⟩)] w (.int .i64 (Ig.dn l i-Ig.dn m i)):=by
 obtain⟨A1,c1,A2,c2,B1,B2,h3,h4,h5,h6⟩:=h.out;replace h3:=h3.more h.le;replace h4:=h4.more h.le;have x1:=Ig.fP gl i;have x2:=Ig.fP gm i;have k1:=fun d os=>uO l A1 c1 i (Sort.grow (redrawn w d) os) ((h3.below (below_regrown w d os)).more (below_regrown w d os).size) h5 (by omega) hi
 have k2:=fun d os=>uO m A2 c2 i (Sort.grow (redrawn w d) os) ((h4.below (below_regrown w d os)).more (below_regrown w d os).size) h6 (by omega) hi
 have g1:=fun d os=>(B1.again d os).cell 0 rfl
 have g2:=fun d os=>(B2.again d os).cell 0 rfl
 clear h h3 h4 B1 B2;generalize Ig.dn l i=p at *;generalize Ig.dn m i=q at *
 go_enter Tryz.func271,Tryz.ntmps271
 go_wp2;refine wp_region_quiet_below (by kernel_rfl) (by kernel_rfl) ?_
 repeat (go_big_quiet_step (first
  | (go_at_call 270;with_reducible exact Calls.regrown_of (bG (k1 _ _)))
  | (go_at_call 270;with_reducible exact Calls.regrown_of (bG (k2 _ _)))))
 refine wpQuiet_nil ?_;rintro _ ⟨z,rfl⟩;go_wp2;go_ret;exact ⟨rfl,below_regrown w z.d z.os⟩
structure xH (B:Nat) (W:World) (b1 b2:Nat) (l:List Int) (n:Int):Prop where
 out:∃A1 c1,Bx W b1 297 #[.slice A1 l.length c1]/\Bx W b2 3 #[.int .i64 n]/\At 1 aV W B A1 l/\l.length<=c1
 VK:b1<B
 VJ:b2<B
 le:B<=W.heap.size
theorem xH.call {B:Nat} {W W':World} {b1 b2:Nat} {l:List Int} {n:Int} (h:xH B W b1 b2 l n) (hb:Below B W W'):xH B W' b1 b2 l n:=by
 obtain⟨A1,c1,h1,h2,h3,h5⟩:=h.out;exact ⟨⟨A1,c1,h1.below hb h.VK,h2.below hb h.VJ,h3.below hb,h5⟩,h.VK,h.VJ,Nat.le_trans h.le hb.size⟩
theorem Nv (B:Nat) (l:List Int) (n:Int) (b1 b2 i:Nat) (w:World) (h:xH B w b1 b2 l n) (hl:l.length<=100000) (gl:Ig.Gr l) (n0:0<=n) (n1:n<=10000) (hi:i<=1000000) :
 bP 292 #[.int .i64 i,.pointer (some ⟨b1,0,none⟩),.pointer (some ⟨b2,0,none⟩)] w (.int .i64 (Ig.dn l i*n)):=by
 obtain⟨A1,c1,B1,B2,h3,h5⟩:=h.out;replace h3:=h3.more h.le;have x1:=Ig.fP gl i;have k1:=fun d os=>uO l A1 c1 i (Sort.grow (redrawn w d) os) ((h3.below (below_regrown w d os)).more (below_regrown w d os).size) h5 (by omega) hi
 have g1:=fun d os=>(B1.again d os).cell 0 rfl
 have g2:=fun d os=>(B2.again d os).cell 0 rfl
 clear h h3 B1 B2;generalize Ig.dn l i=p at *
 have hm:0<=p*n/\p*n<=100000000:=by
  refine⟨Int.mul_nonneg x1.1 n0,?_⟩;have:=Int.mul_le_mul (show p<=10000 by omega) n1 n0 (by omega);omega
 obtain⟨hm0,hm1⟩:=hm
 go_enter Tryz.func292,Tryz.ntmps292
 go_wp2;refine wp_region_quiet_below (by kernel_rfl) (by kernel_rfl) ?_
 repeat (go_big_quiet_step (first
  | (go_at_call 270;with_reducible exact Calls.regrown_of (bG (k1 _ _)))))
 refine wpQuiet_nil ?_;rintro _ ⟨z,rfl⟩;have hw:IntKind.i64.wrap (p*n)=p*n:=IntWalk.i64_in _ (by omega);go_wp2;go_ret;exact ⟨by simp[hw],below_regrown w z.d z.os⟩
theorem yG (n:Nat) (d:Nat->Int) (b1 b2:Nat) (I:World->Prop) (w:World) (hI:∀W W',I W->Below w.heap.size W W'->I W')
 (hcall:∀(W:World) (i:Nat),I W->i<=1000000->bP 269 #[.int .i64 i,.pointer (some ⟨b1,0,none⟩),.pointer (some ⟨b2,0,none⟩)] W (.int .i64 (d i)))
 (hd:∀i,-9999<=d i/\d i<=100000000) (h0:∀i,n<=i->d i=0) (hpos:0<=Ig.bU d n) (hn:n<=100000) (rV:I w) :
 Calls Tryz.prog 268 #[.int .i64 n,.int .i64 0,.func (.func 269) #[] #[.pointer (some ⟨b1,0,none⟩),.pointer (some ⟨b2,0,none⟩)]] w fun e w' =>
  ∃(A:Option Addr) (out:List Int) (cap:Nat),e=.returned (.slice A out.length cap)/\At 1 aV w' w'.heap.size A out/\out.length<=cap/\cap<=maxLen/\out.length<=n+2/\Kp (Ig.bg out=Ig.grp (Ig.bU d n).toNat)/\Below w.heap.size w w':=by
 obtain⟨ti,z,hi,hz,hs1,hz1,hby⟩:=KJ;have hmk:=run_makeSlice (P:=Tryz.prog) (w:=w) 297 3 ti z Tryz.underlying297 hi hz .i64 .i64 0 ((n:Int)+1) (Int.le_refl _) (by omega) (by rw[hs1];omega) (by rw[hby];omega) (by omega);rw [hs1,Nat.mul_one,show ((n:Int)+1).toNat=n+1 by omega,show (0:Int).toNat=0 from rfl]at hmk;have hcs:(madeCells z.cells (n+1)).size=n+1:=by rw[size_madeCells]
 generalize madeCells z.cells (n+1)=cs at *;clear hi hz hs1 hz1 hby
 have hrow:dI 3 1 w.heap.size (n+1) 0 [] (.slice (some ⟨w.heap.size,0,none⟩) 0 (n+1)) (w.alloc (.cells cs 3)) :=
  ⟨w.heap.size,_,rfl,Nat.le_refl _,Nat.zero_le _,Bx.mk _ _ _,by omega,rfl⟩
 have hI1:=hI w _ rV (aG w (.cells cs 3));have hb1:=aG w (.cells cs 3)
 go_enter Tryz.func268,Tryz.ntmps268
 go_wp2;clear hmk rV;generalize (w.alloc (.cells cs 3))=w1 at *
 go_loopw [1,7,8,9] (fun s1 s7 s8 s9 wr=>∃(i cap:Nat) (out:List Int) (carry:Int),s8=.int .i64 i/\s1=.int .i64 carry/\dI 3 1 w.heap.size cap out.length (out.flatMap aV) s7 wr/\cap<=maxLen/\i<=n+2/\ -1<=carry/\carry<=20000/\(i=n+1->carry<=2)/\(i=n+2->carry=0)/\(n<=i->0<=carry)/\Kp (out.length=i)/\out.length<=n+2/\Kp (Ig.gQ d i out carry)/\I wr/\Below w.heap.size w wr)
  (fun s1 s7 s8 s9 _=>(n+3-(intOf s8).toNat))
 case atStart=>exact⟨0,n+1,[],0,rfl,rfl,hrow,by unfold maxLen;omega,by omega,by omega,by omega,by omega,by omega,by omega,⟨rfl⟩,by simp,⟨Ig.kJ d⟩,hI1,hb1⟩
 case round =>
  clear hrow hI1 hb1;obtain ⟨i,cap,out,carry,rfl,rfl,hrow,hcm,hi2,hc1,hc2,hc3,hc4,hc5,hol,KY,hf,dh,hb⟩:=hrel;by_cases hstop:n<=i/\carry=0
  · obtain⟨hni,rfl⟩:=hstop;have t0:decide ((i:Int)<(n:Int))=false:=by simp;omega
    have hnl:¬i<n:=by omega
    have hfin:Kp (Ig.bg out=Ig.grp (Ig.bU d n).toNat):=⟨by rw[Ig.pU hf.out,Ig.jf h0 hni]⟩
    obtain⟨A2,rfl,hA2,hlen2⟩:=dI.at (f:=aV) (fun _=>rfl) hrow;clear hf hcall hI;go_wp2;go_ret;exact ⟨A2,out,cap,rfl,hA2,hlen2,hcm,KY,hfin,hb⟩
  · have hdi:=hd i;have hz0:n<=i->d i=0:=h0 i;have hrun:(i<n∨(¬i<n/\carry≠0)):=by omega
    have hnext:=Ig.mY hf.out;have hcp:n<=i+1->0<=(d i+carry) / 10000:=fun h=>Ig.kK hnext (by rw[Ig.jf h0 h];exact hpos)
    have hns:i≠n+2:=by omega
    have hbig:i<=1000000:=by omega
    have hob:out.length+1<=1000000:=by omega
    have hc:=hcall wr i dh hbig;clear hcall hstop hf;generalize hdd:d i=di at *;have hi9:out.length<=i:=by have:=hol.out;omega
    have uX:Kp (out.length=i):=hol;clear hol
    rcases hrun with hlt|⟨hge,hne⟩
    · have t0:decide ((i:Int)<(n:Int))=true:=by simp;omega
      rcases (show (di+carry<0)∨(0<=di+carry/\di+carry<10000)∨10000<=di+carry by omega) with hs|⟨hs,hs'⟩|hs
      · have t1:decide (di+carry<0)=true:=by simp;omega
        go_wp2_with fail;refine hc.mono ?_;rintro _ w2 ⟨rfl,hb2⟩;replace hrow:=aJ _ _ _ _ _ _ _ _ _ hrow hb2;replace dh:=hI _ _ dh (hb2.mono hb.size);replace hb:=ah hb hb2;clear hc hb2
        go_wp2_with (at_builtin;refine aB rfl (.tmp 37) (.tmp 39) rfl w.heap.size cap out.length 1 (out.flatMap aV) [.int .i64 (di+carry+10000)] _ _ rfl rfl (aJ _ _ _ _ _ _ _ _ _ hrow (aG w2 _)) (by rw[aj];have:=hb.size;omega) (dR w2 _) hcm (by omega) ?_;intro v' w' cap' e1 e2 e3 e4)
        replace dh:=hI _ _ dh (((aG w2 (.cells #[.int .i64 (di+carry+10000)] 3))).mono hb.size);replace dh:=hI _ _ dh e1;have aX:=(bNew hb (.cells #[.int .i64 (di+carry+10000)] 3)).trans e1;refine ⟨⟨i+1,cap',out++[di+carry+10000],(-1),by go_num,rfl,by simpa [aV] using e3,e4,by omega,by omega,by omega,by omega,by omega,?_,⟨by simp;exact uX.out⟩,by simp;omega,⟨?_⟩,dh,aX⟩,by simp[intOf];omega⟩
        · intro h;have:=hcp h;omega
        · have h1:(di+carry) % 10000=di+carry+10000:=by omega
          have h2:(di+carry) / 10000=(-1):=by omega
          rw[h1,h2]at hnext;exact hnext
      · have t1:decide (di+carry<0)=false:=by simp;omega
        have t2:decide (di+carry ≥ 10000)=false:=by simp;omega
        go_wp2_with fail;refine hc.mono ?_;rintro _ w2 ⟨rfl,hb2⟩;replace hrow:=aJ _ _ _ _ _ _ _ _ _ hrow hb2;replace dh:=hI _ _ dh (hb2.mono hb.size);replace hb:=ah hb hb2;clear hc hb2
        go_wp2_with (at_builtin;refine aB rfl (.tmp 37) (.tmp 39) rfl w.heap.size cap out.length 1 (out.flatMap aV) [.int .i64 (di+carry)] _ _ rfl rfl (aJ _ _ _ _ _ _ _ _ _ hrow (aG w2 _)) (by rw[aj];have:=hb.size;omega) (dR w2 _) hcm (by omega) ?_;intro v' w' cap' e1 e2 e3 e4)
        replace dh:=hI _ _ dh (((aG w2 (.cells #[.int .i64 (di+carry)] 3))).mono hb.size);replace dh:=hI _ _ dh e1;have aX:=(bNew hb (.cells #[.int .i64 (di+carry)] 3)).trans e1;refine ⟨⟨i+1,cap',out++[di+carry],0,by go_num,rfl,by simpa [aV] using e3,e4,by omega,by omega,by omega,by omega,by omega,?_,⟨by simp;exact uX.out⟩,by simp;omega,⟨?_⟩,dh,aX⟩,by simp[intOf];omega⟩
        · intro h;have:=hcp h;omega
        · have h1:(di+carry) % 10000=di+carry:=by omega
          have h2:(di+carry) / 10000=0:=by omega
          rw[h1,h2]at hnext;exact hnext
      · have t1:decide (di+carry<0)=false:=by simp;omega
        have t2:decide (di+carry ≥ 10000)=true:=by simp;omega
        go_wp2_with fail;refine hc.mono ?_;rintro _ w2 ⟨rfl,hb2⟩;replace hrow:=aJ _ _ _ _ _ _ _ _ _ hrow hb2;replace dh:=hI _ _ dh (hb2.mono hb.size);replace hb:=ah hb hb2;clear hc hb2
        go_wp2_with (at_builtin;refine aB rfl (.tmp 37) (.tmp 39) rfl w.heap.size cap out.length 1 (out.flatMap aV) [.int .i64 ((di+carry) % 10000)] _ _ rfl rfl (aJ _ _ _ _ _ _ _ _ _ hrow (aG w2 _)) (by rw[aj];have:=hb.size;omega) (dR w2 _) hcm (by omega) ?_;intro v' w' cap' e1 e2 e3 e4)
        replace dh:=hI _ _ dh (((aG w2 (.cells #[.int .i64 ((di+carry) % 10000)] 3))).mono hb.size);replace dh:=hI _ _ dh e1;have aX:=(bNew hb (.cells #[.int .i64 ((di+carry) % 10000)] 3)).trans e1;refine ⟨⟨i+1,cap',out++[(di+carry) % 10000],((di+carry) / 10000),by go_num,rfl,by simpa [aV] using e3,e4,by omega,by omega,by omega,by omega,by omega,?_,⟨by simp;exact uX.out⟩,by simp;omega,⟨?_⟩,dh,aX⟩,by simp[intOf];omega⟩
        · intro h;have:=hcp h;omega
        · have h1:(di+carry) % 10000=(di+carry) % 10000:=by omega
          have h2:(di+carry) / 10000=((di+carry) / 10000):=by omega
          rw[h1,h2]at hnext;exact hnext
    · have t0:decide ((i:Int)<(n:Int))=false:=by simp;omega
      have t9:(carry != 0)=true:=by simp[hne]
      clear hne
      rcases (show (di+carry<0)∨(0<=di+carry/\di+carry<10000)∨10000<=di+carry by omega) with hs|⟨hs,hs'⟩|hs
      · exfalso
        have x1:=hz0 (by omega);have x2:=hc5 (by omega);omega
      · have t1:decide (di+carry<0)=false:=by simp;omega
        have t2:decide (di+carry ≥ 10000)=false:=by simp;omega
        go_wp2_with fail;refine hc.mono ?_;rintro _ w2 ⟨rfl,hb2⟩;replace hrow:=aJ _ _ _ _ _ _ _ _ _ hrow hb2;replace dh:=hI _ _ dh (hb2.mono hb.size);replace hb:=ah hb hb2;clear hc hb2
        go_wp2_with (at_builtin;refine aB rfl (.tmp 37) (.tmp 39) rfl w.heap.size cap out.length 1 (out.flatMap aV) [.int .i64 (di+carry)] _ _ rfl rfl (aJ _ _ _ _ _ _ _ _ _ hrow (aG w2 _)) (by rw[aj];have:=hb.size;omega) (dR w2 _) hcm (by omega) ?_;intro v' w' cap' e1 e2 e3 e4)
        replace dh:=hI _ _ dh (((aG w2 (.cells #[.int .i64 (di+carry)] 3))).mono hb.size);replace dh:=hI _ _ dh e1;have aX:=(bNew hb (.cells #[.int .i64 (di+carry)] 3)).trans e1;refine ⟨⟨i+1,cap',out++[di+carry],0,by go_num,rfl,by simpa [aV] using e3,e4,by omega,by omega,by omega,by omega,by omega,?_,⟨by simp;exact uX.out⟩,by simp;omega,⟨?_⟩,dh,aX⟩,by simp[intOf];omega⟩
        · intro h;have:=hcp h;omega
        · have h1:(di+carry) % 10000=di+carry:=by omega
          have h2:(di+carry) / 10000=0:=by omega
          rw[h1,h2]at hnext;exact hnext
      · have t1:decide (di+carry<0)=false:=by simp;omega
        have t2:decide (di+carry ≥ 10000)=true:=by simp;omega
        go_wp2_with fail;refine hc.mono ?_;rintro _ w2 ⟨rfl,hb2⟩;replace hrow:=aJ _ _ _ _ _ _ _ _ _ hrow hb2;replace dh:=hI _ _ dh (hb2.mono hb.size);replace hb:=ah hb hb2;clear hc hb2
        go_wp2_with (at_builtin;refine aB rfl (.tmp 37) (.tmp 39) rfl w.heap.size cap out.length 1 (out.flatMap aV) [.int .i64 ((di+carry) % 10000)] _ _ rfl rfl (aJ _ _ _ _ _ _ _ _ _ hrow (aG w2 _)) (by rw[aj];have:=hb.size;omega) (dR w2 _) hcm (by omega) ?_;intro v' w' cap' e1 e2 e3 e4)
        replace dh:=hI _ _ dh (((aG w2 (.cells #[.int .i64 ((di+carry) % 10000)] 3))).mono hb.size);replace dh:=hI _ _ dh e1;have aX:=(bNew hb (.cells #[.int .i64 ((di+carry) % 10000)] 3)).trans e1;refine ⟨⟨i+1,cap',out++[(di+carry) % 10000],((di+carry) / 10000),by go_num,rfl,by simpa [aV] using e3,e4,by omega,by omega,by omega,by omega,by omega,?_,⟨by simp;exact uX.out⟩,by simp;omega,⟨?_⟩,dh,aX⟩,by simp[intOf];omega⟩
        · intro h;have:=hcp h;omega
        · have h1:(di+carry) % 10000=(di+carry) % 10000:=by omega
          have h2:(di+carry) / 10000=((di+carry) / 10000):=by omega
          rw[h1,h2]at hnext;exact hnext
theorem vS (n:Nat) (d:Nat->Int) (b1 b2:Nat) (I:World->Prop) (w:World) (hI:∀W W',I W->Below w.heap.size W W'->I W')
 (hcall:∀(W:World) (i:Nat),I W->i<=1000000->bP 271 #[.int .i64 i,.pointer (some ⟨b1,0,none⟩),.pointer (some ⟨b2,0,none⟩)] W (.int .i64 (d i)))
 (hd:∀i,-9999<=d i/\d i<=100000000) (h0:∀i,n<=i->d i=0) (hpos:0<=Ig.bU d n) (hn:n<=100000) (rV:I w) :
 Calls Tryz.prog 268 #[.int .i64 n,.int .i64 0,.func (.func 271) #[] #[.pointer (some ⟨b1,0,none⟩),.pointer (some ⟨b2,0,none⟩)]] w fun e w' =>
  ∃(A:Option Addr) (out:List Int) (cap:Nat),e=.returned (.slice A out.length cap)/\At 1 aV w' w'.heap.size A out/\out.length<=cap/\cap<=maxLen/\out.length<=n+2/\Kp (Ig.bg out=Ig.grp (Ig.bU d n).toNat)/\Below w.heap.size w w':=by
 obtain⟨ti,z,hi,hz,hs1,hz1,hby⟩:=KJ;have hmk:=run_makeSlice (P:=Tryz.prog) (w:=w) 297 3 ti z Tryz.underlying297 hi hz .i64 .i64 0 ((n:Int)+1) (Int.le_refl _) (by omega) (by rw[hs1];omega) (by rw[hby];omega) (by omega);rw [hs1,Nat.mul_one,show ((n:Int)+1).toNat=n+1 by omega,show (0:Int).toNat=0 from rfl]at hmk;have hcs:(madeCells z.cells (n+1)).size=n+1:=by rw[size_madeCells]
 generalize madeCells z.cells (n+1)=cs at *;clear hi hz hs1 hz1 hby
 have hrow:dI 3 1 w.heap.size (n+1) 0 [] (.slice (some ⟨w.heap.size,0,none⟩) 0 (n+1)) (w.alloc (.cells cs 3)) :=
  ⟨w.heap.size,_,rfl,Nat.le_refl _,Nat.zero_le _,Bx.mk _ _ _,by omega,rfl⟩
 have hI1:=hI w _ rV (aG w (.cells cs 3));have hb1:=aG w (.cells cs 3)
 go_enter Tryz.func268,Tryz.ntmps268
 go_wp2;clear hmk rV;generalize (w.alloc (.cells cs 3))=w1 at *
 go_loopw [1,7,8,9] (fun s1 s7 s8 s9 wr=>∃(i cap:Nat) (out:List Int) (carry:Int),s8=.int .i64 i/\s1=.int .i64 carry/\dI 3 1 w.heap.size cap out.length (out.flatMap aV) s7 wr/\cap<=maxLen/\i<=n+2/\ -1<=carry/\carry<=20000/\(i=n+1->carry<=2)/\(i=n+2->carry=0)/\(n<=i->0<=carry)/\Kp (out.length=i)/\out.length<=n+2/\Kp (Ig.gQ d i out carry)/\I wr/\Below w.heap.size w wr)
  (fun s1 s7 s8 s9 _=>(n+3-(intOf s8).toNat))
 case atStart=>exact⟨0,n+1,[],0,rfl,rfl,hrow,by unfold maxLen;omega,by omega,by omega,by omega,by omega,by omega,by omega,⟨rfl⟩,by simp,⟨Ig.kJ d⟩,hI1,hb1⟩
 case round =>
  clear hrow hI1 hb1;obtain ⟨i,cap,out,carry,rfl,rfl,hrow,hcm,hi2,hc1,hc2,hc3,hc4,hc5,hol,KY,hf,dh,hb⟩:=hrel;by_cases hstop:n<=i/\carry=0
  · obtain⟨hni,rfl⟩:=hstop;have t0:decide ((i:Int)<(n:Int))=false:=by simp;omega
    have hnl:¬i<n:=by omega
    have hfin:Kp (Ig.bg out=Ig.grp (Ig.bU d n).toNat):=⟨by rw[Ig.pU hf.out,Ig.jf h0 hni]⟩
    obtain⟨A2,rfl,hA2,hlen2⟩:=dI.at (f:=aV) (fun _=>rfl) hrow;clear hf hcall hI;go_wp2;go_ret;exact ⟨A2,out,cap,rfl,hA2,hlen2,hcm,KY,hfin,hb⟩
  · have hdi:=hd i;have hz0:n<=i->d i=0:=h0 i;have hrun:(i<n∨(¬i<n/\carry≠0)):=by omega
    have hnext:=Ig.mY hf.out;have hcp:n<=i+1->0<=(d i+carry) / 10000:=fun h=>Ig.kK hnext (by rw[Ig.jf h0 h];exact hpos)
    have hns:i≠n+2:=by omega
    have hbig:i<=1000000:=by omega
    have hob:out.length+1<=1000000:=by omega
    have hc:=hcall wr i dh hbig;clear hcall hstop hf;generalize hdd:d i=di at *;have hi9:out.length<=i:=by have:=hol.out;omega
    have uX:Kp (out.length=i):=hol;clear hol
    rcases hrun with hlt|⟨hge,hne⟩
    · have t0:decide ((i:Int)<(n:Int))=true:=by simp;omega
      rcases (show (di+carry<0)∨(0<=di+carry/\di+carry<10000)∨10000<=di+carry by omega) with hs|⟨hs,hs'⟩|hs
      · have t1:decide (di+carry<0)=true:=by simp;omega
        go_wp2_with fail;refine hc.mono ?_;rintro _ w2 ⟨rfl,hb2⟩;replace hrow:=aJ _ _ _ _ _ _ _ _ _ hrow hb2;replace dh:=hI _ _ dh (hb2.mono hb.size);replace hb:=ah hb hb2;clear hc hb2
        go_wp2_with (at_builtin;refine aB rfl (.tmp 37) (.tmp 39) rfl w.heap.size cap out.length 1 (out.flatMap aV) [.int .i64 (di+carry+10000)] _ _ rfl rfl (aJ _ _ _ _ _ _ _ _ _ hrow (aG w2 _)) (by rw[aj];have:=hb.size;omega) (dR w2 _) hcm (by omega) ?_;intro v' w' cap' e1 e2 e3 e4)
        replace dh:=hI _ _ dh (((aG w2 (.cells #[.int .i64 (di+carry+10000)] 3))).mono hb.size);replace dh:=hI _ _ dh e1;have aX:=(bNew hb (.cells #[.int .i64 (di+carry+10000)] 3)).trans e1;refine ⟨⟨i+1,cap',out++[di+carry+10000],(-1),by go_num,rfl,by simpa [aV] using e3,e4,by omega,by omega,by omega,by omega,by omega,?_,⟨by simp;exact uX.out⟩,by simp;omega,⟨?_⟩,dh,aX⟩,by simp[intOf];omega⟩
        · intro h;have:=hcp h;omega
        · have h1:(di+carry) % 10000=di+carry+10000:=by omega
          have h2:(di+carry) / 10000=(-1):=by omega
          rw[h1,h2]at hnext;exact hnext
      · have t1:decide (di+carry<0)=false:=by simp;omega
        have t2:decide (di+carry ≥ 10000)=false:=by simp;omega
        go_wp2_with fail;refine hc.mono ?_;rintro _ w2 ⟨rfl,hb2⟩;replace hrow:=aJ _ _ _ _ _ _ _ _ _ hrow hb2;replace dh:=hI _ _ dh (hb2.mono hb.size);replace hb:=ah hb hb2;clear hc hb2
        go_wp2_with (at_builtin;refine aB rfl (.tmp 37) (.tmp 39) rfl w.heap.size cap out.length 1 (out.flatMap aV) [.int .i64 (di+carry)] _ _ rfl rfl (aJ _ _ _ _ _ _ _ _ _ hrow (aG w2 _)) (by rw[aj];have:=hb.size;omega) (dR w2 _) hcm (by omega) ?_;intro v' w' cap' e1 e2 e3 e4)
        replace dh:=hI _ _ dh (((aG w2 (.cells #[.int .i64 (di+carry)] 3))).mono hb.size);replace dh:=hI _ _ dh e1;have aX:=(bNew hb (.cells #[.int .i64 (di+carry)] 3)).trans e1;refine ⟨⟨i+1,cap',out++[di+carry],0,by go_num,rfl,by simpa [aV] using e3,e4,by omega,by omega,by omega,by omega,by omega,?_,⟨by simp;exact uX.out⟩,by simp;omega,⟨?_⟩,dh,aX⟩,by simp[intOf];omega⟩
        · intro h;have:=hcp h;omega
        · have h1:(di+carry) % 10000=di+carry:=by omega
          have h2:(di+carry) / 10000=0:=by omega
          rw[h1,h2]at hnext;exact hnext
      · have t1:decide (di+carry<0)=false:=by simp;omega
        have t2:decide (di+carry ≥ 10000)=true:=by simp;omega
        go_wp2_with fail;refine hc.mono ?_;rintro _ w2 ⟨rfl,hb2⟩;replace hrow:=aJ _ _ _ _ _ _ _ _ _ hrow hb2;replace dh:=hI _ _ dh (hb2.mono hb.size);replace hb:=ah hb hb2;clear hc hb2
        go_wp2_with (at_builtin;refine aB rfl (.tmp 37) (.tmp 39) rfl w.heap.size cap out.length 1 (out.flatMap aV) [.int .i64 ((di+carry) % 10000)] _ _ rfl rfl (aJ _ _ _ _ _ _ _ _ _ hrow (aG w2 _)) (by rw[aj];have:=hb.size;omega) (dR w2 _) hcm (by omega) ?_;intro v' w' cap' e1 e2 e3 e4)
        replace dh:=hI _ _ dh (((aG w2 (.cells #[.int .i64 ((di+carry) % 10000)] 3))).mono hb.size);replace dh:=hI _ _ dh e1;have aX:=(bNew hb (.cells #[.int .i64 ((di+carry) % 10000)] 3)).trans e1;refine ⟨⟨i+1,cap',out++[(di+carry) % 10000],((di+carry) / 10000),by go_num,rfl,by simpa [aV] using e3,e4,by omega,by omega,by omega,by omega,by omega,?_,⟨by simp;exact uX.out⟩,by simp;omega,⟨?_⟩,dh,aX⟩,by simp[intOf];omega⟩
        · intro h;have:=hcp h;omega
        · have h1:(di+carry) % 10000=(di+carry) % 10000:=by omega
          have h2:(di+carry) / 10000=((di+carry) / 10000):=by omega
          rw[h1,h2]at hnext;exact hnext
    · have t0:decide ((i:Int)<(n:Int))=false:=by simp;omega
      have t9:(carry != 0)=true:=by simp[hne]
      clear hne
      rcases (show (di+carry<0)∨(0<=di+carry/\di+carry<10000)∨10000<=di+carry by omega) with hs|⟨hs,hs'⟩|hs
      · exfalso
        have x1:=hz0 (by omega);have x2:=hc5 (by omega);omega
      · have t1:decide (di+carry<0)=false:=by simp;omega
        have t2:decide (di+carry ≥ 10000)=false:=by simp;omega
        go_wp2_with fail;refine hc.mono ?_;rintro _ w2 ⟨rfl,hb2⟩;replace hrow:=aJ _ _ _ _ _ _ _ _ _ hrow hb2;replace dh:=hI _ _ dh (hb2.mono hb.size);replace hb:=ah hb hb2;clear hc hb2
        go_wp2_with (at_builtin;refine aB rfl (.tmp 37) (.tmp 39) rfl w.heap.size cap out.length 1 (out.flatMap aV) [.int .i64 (di+carry)] _ _ rfl rfl (aJ _ _ _ _ _ _ _ _ _ hrow (aG w2 _)) (by rw[aj];have:=hb.size;omega) (dR w2 _) hcm (by omega) ?_;intro v' w' cap' e1 e2 e3 e4)
        replace dh:=hI _ _ dh (((aG w2 (.cells #[.int .i64 (di+carry)] 3))).mono hb.size);replace dh:=hI _ _ dh e1;have aX:=(bNew hb (.cells #[.int .i64 (di+carry)] 3)).trans e1;refine ⟨⟨i+1,cap',out++[di+carry],0,by go_num,rfl,by simpa [aV] using e3,e4,by omega,by omega,by omega,by omega,by omega,?_,⟨by simp;exact uX.out⟩,by simp;omega,⟨?_⟩,dh,aX⟩,by simp[intOf];omega⟩
        · intro h;have:=hcp h;omega
        · have h1:(di+carry) % 10000=di+carry:=by omega
          have h2:(di+carry) / 10000=0:=by omega
          rw[h1,h2]at hnext;exact hnext
      · have t1:decide (di+carry<0)=false:=by simp;omega
        have t2:decide (di+carry ≥ 10000)=true:=by simp;omega
        go_wp2_with fail;refine hc.mono ?_;rintro _ w2 ⟨rfl,hb2⟩;replace hrow:=aJ _ _ _ _ _ _ _ _ _ hrow hb2;replace dh:=hI _ _ dh (hb2.mono hb.size);replace hb:=ah hb hb2;clear hc hb2
        go_wp2_with (at_builtin;refine aB rfl (.tmp 37) (.tmp 39) rfl w.heap.size cap out.length 1 (out.flatMap aV) [.int .i64 ((di+carry) % 10000)] _ _ rfl rfl (aJ _ _ _ _ _ _ _ _ _ hrow (aG w2 _)) (by rw[aj];have:=hb.size;omega) (dR w2 _) hcm (by omega) ?_;intro v' w' cap' e1 e2 e3 e4)
        replace dh:=hI _ _ dh (((aG w2 (.cells #[.int .i64 ((di+carry) % 10000)] 3))).mono hb.size);replace dh:=hI _ _ dh e1;have aX:=(bNew hb (.cells #[.int .i64 ((di+carry) % 10000)] 3)).trans e1;refine ⟨⟨i+1,cap',out++[(di+carry) % 10000],((di+carry) / 10000),by go_num,rfl,by simpa [aV] using e3,e4,by omega,by omega,by omega,by omega,by omega,?_,⟨by simp;exact uX.out⟩,by simp;omega,⟨?_⟩,dh,aX⟩,by simp[intOf];omega⟩
        · intro h;have:=hcp h;omega
        · have h1:(di+carry) % 10000=(di+carry) % 10000:=by omega
          have h2:(di+carry) / 10000=((di+carry) / 10000):=by omega
          rw[h1,h2]at hnext;exact hnext
theorem DW (n:Nat) (d:Nat->Int) (b1 b2:Nat) (I:World->Prop) (w:World) (hI:∀W W',I W->Below w.heap.size W W'->I W')
 (hcall:∀(W:World) (i:Nat),I W->i<=1000000->bP 292 #[.int .i64 i,.pointer (some ⟨b1,0,none⟩),.pointer (some ⟨b2,0,none⟩)] W (.int .i64 (d i)))
 (hd:∀i,-9999<=d i/\d i<=100000000) (h0:∀i,n<=i->d i=0) (hpos:0<=Ig.bU d n) (hn:n<=100000) (rV:I w) :
 Calls Tryz.prog 268 #[.int .i64 n,.int .i64 0,.func (.func 292) #[] #[.pointer (some ⟨b1,0,none⟩),.pointer (some ⟨b2,0,none⟩)]] w fun e w' =>
  ∃(A:Option Addr) (out:List Int) (cap:Nat),e=.returned (.slice A out.length cap)/\At 1 aV w' w'.heap.size A out/\out.length<=cap/\cap<=maxLen/\out.length<=n+2/\Kp (Ig.bg out=Ig.grp (Ig.bU d n).toNat)/\Below w.heap.size w w':=by
 obtain⟨ti,z,hi,hz,hs1,hz1,hby⟩:=KJ;have hmk:=run_makeSlice (P:=Tryz.prog) (w:=w) 297 3 ti z Tryz.underlying297 hi hz .i64 .i64 0 ((n:Int)+1) (Int.le_refl _) (by omega) (by rw[hs1];omega) (by rw[hby];omega) (by omega);rw [hs1,Nat.mul_one,show ((n:Int)+1).toNat=n+1 by omega,show (0:Int).toNat=0 from rfl]at hmk;have hcs:(madeCells z.cells (n+1)).size=n+1:=by rw[size_madeCells]
 generalize madeCells z.cells (n+1)=cs at *;clear hi hz hs1 hz1 hby
 have hrow:dI 3 1 w.heap.size (n+1) 0 [] (.slice (some ⟨w.heap.size,0,none⟩) 0 (n+1)) (w.alloc (.cells cs 3)) :=
  ⟨w.heap.size,_,rfl,Nat.le_refl _,Nat.zero_le _,Bx.mk _ _ _,by omega,rfl⟩
 have hI1:=hI w _ rV (aG w (.cells cs 3));have hb1:=aG w (.cells cs 3)
 go_enter Tryz.func268,Tryz.ntmps268
 go_wp2;clear hmk rV;generalize (w.alloc (.cells cs 3))=w1 at *
 go_loopw [1,7,8,9] (fun s1 s7 s8 s9 wr=>∃(i cap:Nat) (out:List Int) (carry:Int),s8=.int .i64 i/\s1=.int .i64 carry/\dI 3 1 w.heap.size cap out.length (out.flatMap aV) s7 wr/\cap<=maxLen/\i<=n+2/\ -1<=carry/\carry<=20000/\(i=n+1->carry<=2)/\(i=n+2->carry=0)/\(n<=i->0<=carry)/\Kp (out.length=i)/\out.length<=n+2/\Kp (Ig.gQ d i out carry)/\I wr/\Below w.heap.size w wr)
  (fun s1 s7 s8 s9 _=>(n+3-(intOf s8).toNat))
 case atStart=>exact⟨0,n+1,[],0,rfl,rfl,hrow,by unfold maxLen;omega,by omega,by omega,by omega,by omega,by omega,by omega,⟨rfl⟩,by simp,⟨Ig.kJ d⟩,hI1,hb1⟩
 case round =>
  clear hrow hI1 hb1;obtain ⟨i,cap,out,carry,rfl,rfl,hrow,hcm,hi2,hc1,hc2,hc3,hc4,hc5,hol,KY,hf,dh,hb⟩:=hrel;by_cases hstop:n<=i/\carry=0
  · obtain⟨hni,rfl⟩:=hstop;have t0:decide ((i:Int)<(n:Int))=false:=by simp;omega
    have hnl:¬i<n:=by omega
    have hfin:Kp (Ig.bg out=Ig.grp (Ig.bU d n).toNat):=⟨by rw[Ig.pU hf.out,Ig.jf h0 hni]⟩
    obtain⟨A2,rfl,hA2,hlen2⟩:=dI.at (f:=aV) (fun _=>rfl) hrow;clear hf hcall hI;go_wp2;go_ret;exact ⟨A2,out,cap,rfl,hA2,hlen2,hcm,KY,hfin,hb⟩
  · have hdi:=hd i;have hz0:n<=i->d i=0:=h0 i;have hrun:(i<n∨(¬i<n/\carry≠0)):=by omega
    have hnext:=Ig.mY hf.out;have hcp:n<=i+1->0<=(d i+carry) / 10000:=fun h=>Ig.kK hnext (by rw[Ig.jf h0 h];exact hpos)
    have hns:i≠n+2:=by omega
    have hbig:i<=1000000:=by omega
    have hob:out.length+1<=1000000:=by omega
    have hc:=hcall wr i dh hbig;clear hcall hstop hf;generalize hdd:d i=di at *;have hi9:out.length<=i:=by have:=hol.out;omega
    have uX:Kp (out.length=i):=hol;clear hol
    rcases hrun with hlt|⟨hge,hne⟩
    · have t0:decide ((i:Int)<(n:Int))=true:=by simp;omega
      rcases (show (di+carry<0)∨(0<=di+carry/\di+carry<10000)∨10000<=di+carry by omega) with hs|⟨hs,hs'⟩|hs
      · have t1:decide (di+carry<0)=true:=by simp;omega
        go_wp2_with fail;refine hc.mono ?_;rintro _ w2 ⟨rfl,hb2⟩;replace hrow:=aJ _ _ _ _ _ _ _ _ _ hrow hb2;replace dh:=hI _ _ dh (hb2.mono hb.size);replace hb:=ah hb hb2;clear hc hb2
        go_wp2_with (at_builtin;refine aB rfl (.tmp 37) (.tmp 39) rfl w.heap.size cap out.length 1 (out.flatMap aV) [.int .i64 (di+carry+10000)] _ _ rfl rfl (aJ _ _ _ _ _ _ _ _ _ hrow (aG w2 _)) (by rw[aj];have:=hb.size;omega) (dR w2 _) hcm (by omega) ?_;intro v' w' cap' e1 e2 e3 e4)
        replace dh:=hI _ _ dh (((aG w2 (.cells #[.int .i64 (di+carry+10000)] 3))).mono hb.size);replace dh:=hI _ _ dh e1;have aX:=(bNew hb (.cells #[.int .i64 (di+carry+10000)] 3)).trans e1;refine ⟨⟨i+1,cap',out++[di+carry+10000],(-1),by go_num,rfl,by simpa [aV] using e3,e4,by omega,by omega,by omega,by omega,by omega,?_,⟨by simp;exact uX.out⟩,by simp;omega,⟨?_⟩,dh,aX⟩,by simp[intOf];omega⟩
        · intro h;have:=hcp h;omega
        · have h1:(di+carry) % 10000=di+carry+10000:=by omega
          have h2:(di+carry) / 10000=(-1):=by omega
          rw[h1,h2]at hnext;exact hnext
      · have t1:decide (di+carry<0)=false:=by simp;omega
        have t2:decide (di+carry ≥ 10000)=false:=by simp;omega
        go_wp2_with fail;refine hc.mono ?_;rintro _ w2 ⟨rfl,hb2⟩;replace hrow:=aJ _ _ _ _ _ _ _ _ _ hrow hb2;replace dh:=hI _ _ dh (hb2.mono hb.size);replace hb:=ah hb hb2;clear hc hb2
        go_wp2_with (at_builtin;refine aB rfl (.tmp 37) (.tmp 39) rfl w.heap.size cap out.length 1 (out.flatMap aV) [.int .i64 (di+carry)] _ _ rfl rfl (aJ _ _ _ _ _ _ _ _ _ hrow (aG w2 _)) (by rw[aj];have:=hb.size;omega) (dR w2 _) hcm (by omega) ?_;intro v' w' cap' e1 e2 e3 e4)
        replace dh:=hI _ _ dh (((aG w2 (.cells #[.int .i64 (di+carry)] 3))).mono hb.size);replace dh:=hI _ _ dh e1;have aX:=(bNew hb (.cells #[.int .i64 (di+carry)] 3)).trans e1;refine ⟨⟨i+1,cap',out++[di+carry],0,by go_num,rfl,by simpa [aV] using e3,e4,by omega,by omega,by omega,by omega,by omega,?_,⟨by simp;exact uX.out⟩,by simp;omega,⟨?_⟩,dh,aX⟩,by simp[intOf];omega⟩
        · intro h;have:=hcp h;omega
        · have h1:(di+carry) % 10000=di+carry:=by omega
          have h2:(di+carry) / 10000=0:=by omega
          rw[h1,h2]at hnext;exact hnext
      · have t1:decide (di+carry<0)=false:=by simp;omega
        have t2:decide (di+carry ≥ 10000)=true:=by simp;omega
        go_wp2_with fail;refine hc.mono ?_;rintro _ w2 ⟨rfl,hb2⟩;replace hrow:=aJ _ _ _ _ _ _ _ _ _ hrow hb2;replace dh:=hI _ _ dh (hb2.mono hb.size);replace hb:=ah hb hb2;clear hc hb2
        go_wp2_with (at_builtin;refine aB rfl (.tmp 37) (.tmp 39) rfl w.heap.size cap out.length 1 (out.flatMap aV) [.int .i64 ((di+carry) % 10000)] _ _ rfl rfl (aJ _ _ _ _ _ _ _ _ _ hrow (aG w2 _)) (by rw[aj];have:=hb.size;omega) (dR w2 _) hcm (by omega) ?_;intro v' w' cap' e1 e2 e3 e4)
        replace dh:=hI _ _ dh (((aG w2 (.cells #[.int .i64 ((di+carry) % 10000)] 3))).mono hb.size);replace dh:=hI _ _ dh e1;have aX:=(bNew hb (.cells #[.int .i64 ((di+carry) % 10000)] 3)).trans e1;refine ⟨⟨i+1,cap',out++[(di+carry) % 10000],((di+carry) / 10000),by go_num,rfl,by simpa [aV] using e3,e4,by omega,by omega,by omega,by omega,by omega,?_,⟨by simp;exact uX.out⟩,by simp;omega,⟨?_⟩,dh,aX⟩,by simp[intOf];omega⟩
        · intro h;have:=hcp h;omega
        · have h1:(di+carry) % 10000=(di+carry) % 10000:=by omega
          have h2:(di+carry) / 10000=((di+carry) / 10000):=by omega
          rw[h1,h2]at hnext;exact hnext
    · have t0:decide ((i:Int)<(n:Int))=false:=by simp;omega
      have t9:(carry != 0)=true:=by simp[hne]
      clear hne
      rcases (show (di+carry<0)∨(0<=di+carry/\di+carry<10000)∨10000<=di+carry by omega) with hs|⟨hs,hs'⟩|hs
      · exfalso
        have x1:=hz0 (by omega);have x2:=hc5 (by omega);omega
      · have t1:decide (di+carry<0)=false:=by simp;omega
        have t2:decide (di+carry ≥ 10000)=false:=by simp;omega
        go_wp2_with fail;refine hc.mono ?_;rintro _ w2 ⟨rfl,hb2⟩;replace hrow:=aJ _ _ _ _ _ _ _ _ _ hrow hb2;replace dh:=hI _ _ dh (hb2.mono hb.size);replace hb:=ah hb hb2;clear hc hb2
        go_wp2_with (at_builtin;refine aB rfl (.tmp 37) (.tmp 39) rfl w.heap.size cap out.length 1 (out.flatMap aV) [.int .i64 (di+carry)] _ _ rfl rfl (aJ _ _ _ _ _ _ _ _ _ hrow (aG w2 _)) (by rw[aj];have:=hb.size;omega) (dR w2 _) hcm (by omega) ?_;intro v' w' cap' e1 e2 e3 e4)
        replace dh:=hI _ _ dh (((aG w2 (.cells #[.int .i64 (di+carry)] 3))).mono hb.size);replace dh:=hI _ _ dh e1;have aX:=(bNew hb (.cells #[.int .i64 (di+carry)] 3)).trans e1;refine ⟨⟨i+1,cap',out++[di+carry],0,by go_num,rfl,by simpa [aV] using e3,e4,by omega,by omega,by omega,by omega,by omega,?_,⟨by simp;exact uX.out⟩,by simp;omega,⟨?_⟩,dh,aX⟩,by simp[intOf];omega⟩
        · intro h;have:=hcp h;omega
        · have h1:(di+carry) % 10000=di+carry:=by omega
          have h2:(di+carry) / 10000=0:=by omega
          rw[h1,h2]at hnext;exact hnext
      · have t1:decide (di+carry<0)=false:=by simp;omega
        have t2:decide (di+carry ≥ 10000)=true:=by simp;omega
        go_wp2_with fail;refine hc.mono ?_;rintro _ w2 ⟨rfl,hb2⟩;replace hrow:=aJ _ _ _ _ _ _ _ _ _ hrow hb2;replace dh:=hI _ _ dh (hb2.mono hb.size);replace hb:=ah hb hb2;clear hc hb2
        go_wp2_with (at_builtin;refine aB rfl (.tmp 37) (.tmp 39) rfl w.heap.size cap out.length 1 (out.flatMap aV) [.int .i64 ((di+carry) % 10000)] _ _ rfl rfl (aJ _ _ _ _ _ _ _ _ _ hrow (aG w2 _)) (by rw[aj];have:=hb.size;omega) (dR w2 _) hcm (by omega) ?_;intro v' w' cap' e1 e2 e3 e4)
        replace dh:=hI _ _ dh (((aG w2 (.cells #[.int .i64 ((di+carry) % 10000)] 3))).mono hb.size);replace dh:=hI _ _ dh e1;have aX:=(bNew hb (.cells #[.int .i64 ((di+carry) % 10000)] 3)).trans e1;refine ⟨⟨i+1,cap',out++[(di+carry) % 10000],((di+carry) / 10000),by go_num,rfl,by simpa [aV] using e3,e4,by omega,by omega,by omega,by omega,by omega,?_,⟨by simp;exact uX.out⟩,by simp;omega,⟨?_⟩,dh,aX⟩,by simp[intOf];omega⟩
        · intro h;have:=hcp h;omega
        · have h1:(di+carry) % 10000=(di+carry) % 10000:=by omega
          have h2:(di+carry) / 10000=((di+carry) / 10000):=by omega
          rw[h1,h2]at hnext;exact hnext
end Go.Proofs.YtohgjenaclfegaaGreatDoor

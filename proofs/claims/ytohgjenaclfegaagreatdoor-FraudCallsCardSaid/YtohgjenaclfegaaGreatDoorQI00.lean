import Derived.Lib.ItoaNum
import Derived.Lib.AtoiAll
import Derived.Test.YtohgjenaclfegaaGreatDoorQK03
import Derived.IntWalk
set_option linter.unusedVariables false
set_option linter.unusedSimpArgs false
set_option maxRecDepth 100000
set_option maxHeartbeats 8000000
namespace Ig
def aP:List Int->Int
 | []=>0
 | g :: l=>g+10000*aP l
def Gr (l:List Int):Prop:=∀g∈l,0<=g/\g<10000
def grp (n:Nat):List Int:=if h:n=0 then [] else ((n % 10000:Nat):Int) :: grp (n / 10000)
 termination_by n
 decreasing_by omega
theorem aW:grp 0=[]:=by rw[grp,dif_pos rfl]
theorem fA {n:Nat} (h:n≠0):grp n=((n % 10000:Nat):Int) :: grp (n / 10000):=by rw[grp,dif_neg h]
theorem dH (n:Nat):aP (grp n)=n:=by
 induction n using Nat.strongRecOn with
 | _ n ih =>
  by_cases h:n=0
  · subst h;rw[aW];rfl
  · rw[fA h,aP,ih (n / 10000) (by omega)];omega
theorem dO (n:Nat):Gr (grp n):=by
 induction n using Nat.strongRecOn with
 | _ n ih =>
  by_cases h:n=0
  · subst h;rw[aW];intro g hg;cases hg
  · rw[fA h];intro g hg
    rcases List.mem_cons.1 hg with rfl|hg
    · omega
    · exact ih (n / 10000) (by omega) g hg
theorem sH {n:Nat}:grp n=[]↔n=0:=by
 constructor
 · intro h;by_cases h0:n=0
   · exact h0
   · rw[fA h0]at h;cases h
 · rintro rfl;exact aW
theorem f_ {l:List Int} (h:Gr l):0<=aP l:=by
 induction l with
 | nil=>exact Int.le_refl _
 | cons g l ih =>
  have h1:=h g (by simp);have h2:=ih (fun x hx=>h x (by simp[hx]))
  unfold aP;omega
theorem dI (a b:List Int):aP (a++b)=aP a+10000 ^ a.length*aP b:=by
 induction a with
 | nil=>simp[aP]
 | cons g a ih =>
  rw[List.cons_append,aP,ih,aP,List.length_cons,Int.pow_succ];rw [Int.mul_add,←Int.mul_assoc,Int.mul_comm 10000 (10000 ^ a.length)];omega
theorem mV {l:List Int} (h:Gr l):aP l<10000 ^ l.length:=by
 induction l with
 | nil=>decide
 | cons g l ih =>
  have h1:=h g (by simp);have h2:=ih (fun x hx=>h x (by simp[hx]));rw [aP,List.length_cons,Int.pow_succ];omega
theorem yC:∀ {l:List Int},Gr l->l.getLast? ≠ some 0->l=grp (aP l).toNat
 | [],_,_=>by rw[aP];exact aW.symm
 | g :: l,h,ht=>by
  have h1:=h g (by simp);have h2:Gr l:=fun x hx=>h x (by simp[hx])
  have h3:=f_ h2
  have ht2:l.getLast? ≠ some 0:=by
   cases l with
   | nil=>simp
   | cons a l=>simpa [List.getLast?_cons_cons] using ht
  have ih:=yC h2 ht2
  have hne:(aP (g :: l)).toNat≠0:=by
   rw[aP];intro h0;have hl0:aP l=0:=by omega
   rw[hl0]at ih;rw [show (0:Int).toNat=0 from rfl,aW]at ih;subst ih;have hg:g=0:=by omega
   subst hg;simp at ht
  rw[fA hne];have e1:((aP (g :: l)).toNat / 10000)=(aP l).toNat:=by rw[aP];omega
  have e2:(((aP (g :: l)).toNat % 10000:Nat):Int)=g:=by rw[aP];omega
  rw[e1,e2,←ih]
def bK (l:List Int):List Int:=(l.reverse.dropWhile (·==0)).reverse
theorem fJ (l:List Int):bK (l++[0])=bK l:=by simp[bK]
theorem jE {l:List Int} {g:Int} (h:g≠0):bK (l++[g])=l++[g]:=by simp[bK,h]
theorem mG (l:List Int):l=[]∨∃m g,l=m++[g]:=by
 rcases List.eq_nil_or_concat l with h|⟨m,g,h⟩
 · exact .inl h
 · exact .inr ⟨m,g,by simpa using h⟩
theorem lu:∀(n:Nat) {l:List Int},l.length=n->Gr l->bK l=grp (aP l).toNat
 | 0,l,hn,_=>by
  obtain rfl:l=[]:=List.length_eq_zero_iff.1 hn;exact aW.symm
 | n+1,l,hn,h=>by
  rcases mG l with rfl|⟨m,g,rfl⟩
  · simp at hn
  · have hm:Gr m:=fun x hx=>h x (by simp[hx])
    by_cases hg:g=0
    · subst hg;rw [fJ,lu n (by simpa using hn) hm,dI];simp [aP]
    · rw[jE hg];exact yC h (by simp[hg])
theorem jF {l:List Int} (h:Gr l):bK l=grp (aP l).toNat:=lu _ rfl h
theorem vI (n:Nat):(grp n).getLast? ≠ some 0:=by
 induction n using Nat.strongRecOn with
 | _ n ih =>
  by_cases h:n=0
  · subst h;rw[aW];simp
  · rw[fA h]
    cases hl:grp (n / 10000) with
    | nil =>
     have h0:=sH.1 hl;simp;omega
    | cons a l =>
     rw[List.getLast?_cons_cons,←hl];exact ih (n / 10000) (by omega)
theorem iZ {n k:Nat} (h:n<10000 ^ k):(grp n).length<=k:=by
 induction k generalizing n with
 | zero =>
  have:n=0:=by simpa using h
  subst this;rw[aW];simp
 | succ k ih =>
  by_cases h0:n=0
  · subst h0;rw[aW];simp
  · rw[fA h0,List.length_cons]
    have:n / 10000<10000 ^ k:=by
     rw[Nat.pow_succ]at h;exact Nat.div_lt_of_lt_mul (by rw[Nat.mul_comm];exact h)
    have:=ih this;omega
theorem jQ (n:Nat):n<10000 ^ (grp n).length:=by
 have h1:=mV (dO n);rw [dH]at h1;have h2:((10000 ^ (grp n).length:Nat):Int)=(10000:Int) ^ (grp n).length:=by simp
 omega
def dN (l:List Int) (i:Nat):Int:=l[i]?.getD 0
theorem ig {l:List Int} {i:Nat} (h:i<l.length):dN l i=l[i]:=by simp[dN,h]
theorem jX {l:List Int} {i:Nat} (h:l.length<=i):dN l i=0:=by simp[dN,h]
theorem wP (l:List Int) (k:Nat):aP (l.take (k+1))=aP (l.take k)+10000 ^ k*dN l k:=by
 by_cases h:k<l.length
 · rw[List.take_succ_eq_append_getElem h,dI,ig h];simp [aP,Nat.min_eq_left (Nat.le_of_lt h)]
 · rw[List.take_of_length_le (by omega),List.take_of_length_le (by omega),jX (by omega)];simp
def cZ (d:Nat->Int):Nat->Int
 | 0=>0
 | n+1=>cZ d n+10000 ^ n*d n
structure iM (d:Nat->Int) (i:Nat) (out:List Int) (carry:Int):Prop where
 len:out.length=i
 gr:Gr out
 eq:aP out+10000 ^ i*carry=cZ d i
theorem mW (d:Nat->Int):iM d 0 [] 0:=⟨rfl,(fun g h=>by cases h),by simp[aP,cZ]⟩
theorem pU {d:Nat->Int} {i:Nat} {out:List Int} {carry:Int} (h:iM d i out carry):iM d (i+1) (out++[(d i+carry) % 10000]) ((d i+carry) / 10000):=by
 refine⟨by simp[h.len],fun g hg=>?_,?_⟩
 · rcases List.mem_append.1 hg with hg|hg
   · exact h.gr g hg
   · obtain rfl:g=(d i+carry) % 10000:=by simpa using hg
     omega
 · rw[dI,h.len,cZ,←h.eq,Int.pow_succ];have e:(d i+carry) % 10000+10000*((d i+carry) / 10000)=d i+carry:=by omega
   simp only[aP];rw [Int.mul_zero,Int.add_zero,Int.mul_assoc,Int.add_assoc,←Int.mul_add,e,Int.mul_add];omega
theorem mX {d:Nat->Int} {i:Nat} {out:List Int} {carry:Int} (h:iM d i out carry) (h0:0<=cZ d i):0<=carry:=by
 have h1:=mV h.gr;rw [h.len]at h1;have h2:=h.eq
 rcases Int.lt_or_le carry 0 with hc|hc
 · have h3:(10000:Int) ^ i*carry<=10000 ^ i*(-1):=Int.mul_le_mul_of_nonneg_left (by omega) (Int.le_of_lt (Int.pow_pos (by decide)));omega
 · exact hc
theorem sQ {d:Nat->Int} {i:Nat} {out:List Int} (h:iM d i out 0):bK out=grp (cZ d i).toNat:=by
 rw[jF h.gr];have:=h.eq;rw [Int.mul_zero,Int.add_zero]at this;rw [this]
theorem Fz (a b:Nat->Int) (n:Nat):cZ (fun i=>a i+b i) n=cZ a n+cZ b n:=by
 induction n with
 | zero=>rfl
 | succ n ih=>simp only[cZ,ih,Int.mul_add];omega
theorem Fj (a b:Nat->Int) (n:Nat):cZ (fun i=>a i-b i) n=cZ a n-cZ b n:=by
 induction n with
 | zero=>rfl
 | succ n ih=>simp only[cZ,ih,Int.mul_sub];omega
theorem Fp (a:Nat->Int) (c:Int) (n:Nat):cZ (fun i=>a i*c) n=cZ a n*c:=by
 induction n with
 | zero=>simp[cZ]
 | succ n ih=>simp only[cZ,ih,Int.add_mul,Int.mul_assoc]
theorem Dh (l:List Int) (n:Nat):cZ (dN l) n=aP (l.take n):=by
 induction n with
 | zero=>rfl
 | succ n ih=>rw[cZ,ih,wP]
theorem Fv {l:List Int} {n:Nat} (h:l.length<=n):cZ (dN l) n=aP l:=by rw[Dh,List.take_of_length_le h]
theorem iq {l:List Int} (h:Gr l) (i:Nat):0<=dN l i/\dN l i<10000:=by
 by_cases hi:i<l.length
 · rw[ig hi];exact h _ (List.getElem_mem hi)
 · rw[jX (by omega)];omega
theorem jA {a b:Nat} (h:(grp a).length<(grp b).length):a<b:=by
 rcases Nat.lt_or_ge a b with h1|h1
 · exact h1
 · have h2:=jQ a;have:b<10000 ^ (grp a).length:=by omega
   have:=iZ this;omega
theorem jP {l m:List Int} (hl:Gr l) (hm:Gr m) (hlen:l.length=m.length) (k:Nat) (hk:k<l.length) (hd:l.drop (k+1)=m.drop (k+1)) (hlt:dN l k<dN m k):aP l<aP m:=by
 have e:∀ {x:List Int} (hx:k<x.length),x=x.take k++(dN x k :: x.drop (k+1)):=fun {x} hx=>by
  rw[ig hx,←List.drop_eq_getElem_cons hx,List.take_append_drop]
 rw[e hk,e (show k<m.length by omega),dI,dI,aP,aP,hd];have h1:=mV (l:=l.take k) (fun g hg=>hl g (List.mem_of_mem_take hg));have h2:=f_ (l:=m.take k) (fun g hg=>hm g (List.mem_of_mem_take hg));have e1:(l.take k).length=k:=by simp;omega
 have e2:(m.take k).length=k:=by simp;omega
 rw[e1]at h1;rw [e1,e2]
 have h3:(10000:Int) ^ k*(dN l k+10000*aP (m.drop (k+1)))+10000 ^ k<=10000 ^ k*(dN m k+10000*aP (m.drop (k+1))):=by
  have:(10000:Int) ^ k*(dN l k+10000*aP (m.drop (k+1)))+10000 ^ k=10000 ^ k*(dN l k+10000*aP (m.drop (k+1))+1):=by rw[Int.mul_add (10000 ^ k) (_+_) 1,Int.mul_one]
  rw[this];exact Int.mul_le_mul_of_nonneg_left (by omega) (Int.le_of_lt (Int.pow_pos (by decide)))
 omega
end Ig
namespace Ig
def dg (k:Nat):UInt8:=UInt8.ofNat (48+k)
theorem eu {n:Nat} (h:n<10):Go.Lib.decDigits n=[dg n]:=by rw[Go.Lib.decDigits,dif_pos h];rfl
theorem fG {n:Nat} (h:¬n<10):Go.Lib.decDigits n=Go.Lib.decDigits (n / 10)++[dg (n % 10)]:=by rw[Go.Lib.decDigits,dif_neg h];rfl
def four (g:Nat):List UInt8:=[dg (g / 1000),dg (g / 100 % 10),dg (g / 10 % 10),dg (g % 10)]
theorem Pg {g:Nat} (h:g<10000):List.replicate (4-Go.Lib.nDigits g) 48++Go.Lib.decDigits g=four g:=by
 have z:dg 0=48:=rfl;by_cases h1:g<10
 · rw[Go.Lib.nDigits_small h1,eu h1,four,show g / 1000=0 by omega,show g / 100 % 10=0 by omega,show g / 10 % 10=0 by omega,show g % 10=g by omega,z];rfl
 · by_cases h2:g<100
   · rw[Go.Lib.nDigits_big h1,Go.Lib.nDigits_small (by omega),fG h1,eu (by omega),four,show g / 1000=0 by omega,show g / 100 % 10=0 by omega,show g / 10 % 10=g / 10 by omega,z];rfl
   · by_cases h3:g<1000
     · rw[Go.Lib.nDigits_big h1,Go.Lib.nDigits_big (by omega),Go.Lib.nDigits_small (by omega),fG h1,fG (by omega),eu (by omega),four,show g / 1000=0 by omega,show g / 100 % 10=g / 10 / 10 by omega,z];rfl
     · rw[Go.Lib.nDigits_big h1,Go.Lib.nDigits_big (by omega),Go.Lib.nDigits_big (by omega),Go.Lib.nDigits_small (by omega),fG h1,fG (by omega),fG (by omega),eu (by omega),four,show g / 1000=g / 10 / 10 / 10 by omega,show g / 100 % 10=g / 10 / 10 % 10 by omega];rfl
theorem IC {n:Nat} (h:10000<=n):Go.Lib.decDigits n=Go.Lib.decDigits (n / 10000)++four (n % 10000):=by
 rw[fG (by omega),fG (show ¬n / 10<10 by omega),fG (show ¬n / 10 / 10<10 by omega),fG (show ¬n / 10 / 10 / 10<10 by omega),four];rw [show n / 10 / 10 / 10 / 10=n / 10000 by omega,show n / 10 / 10 / 10 % 10=n % 10000 / 1000 by omega,show n / 10 / 10 % 10=n % 10000 / 100 % 10 by omega,show n / 10 % 10=n % 10000 / 10 % 10 by omega,show n % 10=n % 10000 % 10 by omega];simp
theorem jv (n:Nat):(Go.Lib.decDigits n).length=Go.Lib.nDigits n:=by
 induction n using Nat.strongRecOn with
 | _ n ih =>
  by_cases h:n<10
  · rw[eu h,Go.Lib.nDigits_small h];rfl
  · rw[fG h,Go.Lib.nDigits_big h,List.length_append,ih (n / 10) (by omega)];rfl
theorem PY (n:Nat):1<=Go.Lib.nDigits n:=by
 by_cases h:n<10
 · rw[Go.Lib.nDigits_small h];omega
 · rw[Go.Lib.nDigits_big h];omega
theorem EF {n k:Nat} (hk:1<=k):Go.Lib.nDigits n<=k↔n<10 ^ k:=by
 induction k generalizing n with
 | zero=>omega
 | succ k ih =>
  by_cases h:n<10
  · rw[Go.Lib.nDigits_small h];have:10 ^ 1<=10 ^ (k+1):=Nat.pow_le_pow_right (by decide) (by omega)
    constructor
    · intro _;omega
    · intro _;omega
  · rw[Go.Lib.nDigits_big h];by_cases hk0:k=0
    · subst hk0;have:=PY (n / 10);simp;omega
    · have:=ih (n:=n / 10) (by omega);rw [Nat.pow_succ];omega
def Aw (c:UInt8):Bool:=decide (48<=c.toNat)&&decide (c.toNat<=57)
theorem yL {k:Nat} (h:k<10):(dg k).toNat=48+k:=by
 have:∀k:Fin 10,(dg k.val).toNat=48+k.val:=by decide
 exact this ⟨k,h⟩
theorem Qo {k:Nat} (h:k<10):Aw (dg k)=true:=by simp[Aw,yL h];omega
theorem qO (n:Nat):(Go.Lib.decDigits n).all Aw=true:=by
 induction n using Nat.strongRecOn with
 | _ n ih =>
  by_cases h:n<10
  · rw[eu h];simp[Qo h]
  · rw[fG h,List.all_append,ih (n / 10) (by omega)];simp[Qo (show n % 10<10 by omega)]
theorem Dj (n:Nat):Go.Lib.decDigits n≠[]:=by
 intro h;have:=jv n;rw [h]at this;have:=PY n;simp at *;omega
theorem RU {n:Nat} (h:n≠0):(Go.Lib.decDigits n).head? ≠ some 48:=by
 induction n using Nat.strongRecOn with
 | _ n ih =>
  by_cases h1:n<10
  · rw[eu h1];intro he;simp at he
    have:=yL h1;rw [he]at this;have:(48:UInt8).toNat=48:=rfl;omega
  · rw[fG h1]
    cases hd:Go.Lib.decDigits (n / 10) with
    | nil=>exact absurd hd (Dj _)
    | cons a l =>
     have:=ih (n / 10) (by omega) (by omega);rw [hd]at this;simpa using this
def nv (s:List UInt8):Nat:=s.foldl (fun n c=>10*n+(c.toNat-48)) 0
theorem wH (s:List UInt8) (c:UInt8):nv (s++[c])=10*nv s+(c.toNat-48):=by simp[nv,List.foldl_append]
theorem Hu (n:Nat):nv (Go.Lib.decDigits n)=n:=by
 induction n using Nat.strongRecOn with
 | _ n ih =>
  by_cases h:n<10
  · rw[eu h];simp[nv,yL h]
  · rw[fG h,wH,ih (n / 10) (by omega),yL (show n % 10<10 by omega)];omega
theorem V7 {a b:Nat} (h:Go.Lib.decDigits a=Go.Lib.decDigits b):a=b:=by rw[←Hu a,h,Hu]
theorem IB:∀(k:Nat) {s:List UInt8},s.length=k->s≠[]->s.all Aw=true->(s=[48]∨s.head? ≠ some 48)->Go.Lib.decDigits (nv s)=s
 | 0,s,hk,hne,_,_=>absurd (List.length_eq_zero_iff.1 hk) hne
 | k+1,s,hk,hne,hd,hz=>by
  rcases List.eq_nil_or_concat s with h|⟨m,c,h⟩
  · exact absurd h hne
  · obtain rfl:s=m++[c]:=by simpa using h
    rw[List.all_append,Bool.and_eq_true]at hd;have hc:48<=c.toNat/\c.toNat<=57:=by simpa [Aw] using hd.2
    have hcd:dg (c.toNat-48)=c:=by
     apply UInt8.toNat_inj.1
     rw[yL (by omega)];omega
    by_cases hm:m=[]
    · subst hm;rw [wH];simp only[nv,List.foldl_nil,Nat.mul_zero,Nat.zero_add,List.nil_append];rw [eu (by omega),hcd]
    · have hz2:m.head? ≠ some 48:=by
       rcases hz with h|h
       · have:(m++[c]).length=1:=by rw[h];rfl
         simp at this
         exact absurd this hm
       · cases m with
         | nil=>exact absurd rfl hm
         | cons a l=>simpa using h
      have ih:=IB k (s:=m) (by simpa using hk) hm hd.1 (.inr hz2)
      have hpos:nv m≠0:=by
       intro h0;rw [h0,eu (by decide)]at ih;rw [←ih]at hz2;exact hz2 rfl
      rw[wH,fG (by omega),show (10*nv m+(c.toNat-48)) / 10=nv m by omega,ih,show (10*nv m+(c.toNat-48)) % 10=c.toNat-48 by omega,hcd]
def gY (s:List UInt8):List UInt8:=if [45].isPrefixOf s then s.drop 1 else s
def dK (s:List UInt8):Bool:= !(gY s).isEmpty&&decide ((gY s).length<=200)&&(gY s).all Aw&&(s==[48]|| !((gY s).head? == some 48))
def fits (z:Int):Prop:=z.natAbs<10 ^ 200
theorem itoa_nonneg {z:Int} (h:0<=z):Go.Lib.itoa z=Go.Lib.decDigits z.natAbs:=by
 unfold Go.Lib.itoa
 rw[if_neg (by omega),show z.toNat=z.natAbs by omega]
theorem itoa_neg {z:Int} (h:z<0):Go.Lib.itoa z=45 :: Go.Lib.decDigits z.natAbs:=by
 unfold Go.Lib.itoa
 rw[if_pos h]
theorem qN (n:Nat):[45].isPrefixOf (Go.Lib.decDigits n)=false:=by
 cases hd:Go.Lib.decDigits n with
 | nil=>rfl
 | cons a l =>
  have h:=qO n;rw [hd,List.all_cons,Bool.and_eq_true]at h
  have ha:48<=a.toNat:=by
   have:=h.1;simp [Aw]at this
   omega
  have hne:¬(45:UInt8)=a:=by
   rintro rfl;have:(45:UInt8).toNat=45:=rfl;omega
  simp[List.isPrefixOf,hne]
theorem oQ (z:Int):gY (Go.Lib.itoa z)=Go.Lib.decDigits z.natAbs:=by
 unfold gY
 by_cases h:0<=z
 · rw[itoa_nonneg h,qN];rfl
 · rw[itoa_neg (by omega)];rfl
theorem eX {z:Int} (h:fits z):dK (Go.Lib.itoa z)=true:=by
 unfold dK
 rw[oQ,qO];have h1:(Go.Lib.decDigits z.natAbs).length<=200:=by rw[jv,EF (by decide)];exact h
 have h2:=Dj z.natAbs
 have h3:(Go.Lib.itoa z==[48]|| !((Go.Lib.decDigits z.natAbs).head? == some 48))=true:=by
  by_cases hz:z=0
  · subst hz;rw [itoa_nonneg (by decide),show (0:Int).natAbs=0 from rfl,eu (by decide)];rfl
  · have:=RU (n:=z.natAbs) (by omega);rw [Bool.or_eq_true];right;simpa using this
 rw[h3];simp [h2,h1]
theorem nT {s:List UInt8} (h:dK s=true):∃z,s=Go.Lib.itoa z/\fits z:=by
 simp only[dK,Bool.and_eq_true,Bool.or_eq_true,decide_eq_true_eq,Bool.not_eq_true',beq_iff_eq]at h;obtain ⟨⟨⟨h1,h2⟩,h3⟩,h4⟩:=h
 have hne:gY s≠[]:=by
  intro he;rw[he]at h1;cases h1
 by_cases hs:[45].isPrefixOf s=true
 · have hu:gY s=s.drop 1:=by unfold gY;rw[if_pos hs]
   have hcons:s=45 :: gY s:=by
    rw[hu]
    cases s with
    | nil=>cases hs
    | cons a l =>
     simp[List.isPrefixOf]at hs
     rw[←hs];rfl
   have hhd:(gY s).head? ≠ some 48:=by
    rcases h4 with h4|h4
    · rw[h4]at hcons;cases hcons
    · simpa using h4
   have hd:=IB _ rfl hne h3 (.inr hhd)
   have hpos:nv (gY s)≠0:=by
    intro h0;rw [h0,eu (by decide)]at hd;rw [←hd]at hhd;exact hhd rfl
   refine⟨-(nv (gY s):Int),?_,?_⟩
   · rw[itoa_neg (by omega),Int.natAbs_neg,Int.natAbs_natCast,hd];exact hcons
   · unfold fits
     rw[Int.natAbs_neg,Int.natAbs_natCast,←EF (by decide),←jv,hd];exact h2
 · have hu:gY s=s:=by unfold gY;rw[if_neg hs]
   rw[hu]at h2 h3 hne h4
   have hd:=IB _ rfl hne h3 (by
    rcases h4 with h4|h4
    · exact .inl h4
    · exact .inr (by simpa using h4))
   refine⟨(nv s:Int),?_,?_⟩
   · rw[itoa_nonneg (by omega),Int.natAbs_natCast,hd]
   · unfold fits
     rw[Int.natAbs_natCast,←EF (by decide),←jv,hd];exact h2
theorem dX {a b:Int} (h:Go.Lib.itoa a=Go.Lib.itoa b):a=b:=by
 have h1:a.natAbs=b.natAbs:=V7 (by rw[←oQ,h,oQ]);by_cases ha:0<=a <;> by_cases hb:0<=b
 · omega
 · rw[itoa_nonneg ha,itoa_neg (by omega)]at h;have:=qN a.natAbs;rw [h]at this;simp[List.isPrefixOf]at this
 · rw[itoa_neg (by omega),itoa_nonneg hb]at h;have:=qN b.natAbs;rw [←h]at this;simp[List.isPrefixOf]at this
 · omega
end Ig
namespace Ig
theorem uM {v:Nat} (h:v≠0):(0:Int) :: grp v=grp (10000*v):=by
 rw[fA (n:=10000*v) (by omega),show 10000*v % 10000=0 by omega,show 10000*v / 10000=v by omega];rfl
theorem h_ {v:Nat}:(grp v).length=0↔v=0:=by rw[List.length_eq_zero_iff,sH]
def from_ (l:List Int) (i:Nat):Int:=aP (l.drop i)
theorem jB {l:List Int} {i:Nat} (h:i<l.length):from_ l i=l[i]+10000*from_ l (i+1):=by
 unfold from_
 rw[List.drop_eq_getElem_cons h];rfl
theorem lQ (l:List Int):from_ l 0=aP l:=rfl
theorem oH {l:List Int} {i:Nat} (h:l.length<=i):from_ l i=0:=by unfold from_;rw[List.drop_eq_nil_of_le h];rfl
theorem oG {l:List Int} (h:Gr l) (i:Nat):0<=from_ l i:=f_ fun g hg=>h g (List.mem_of_mem_drop hg)
theorem yK {g R M:Nat} (hM:0<M) (hg:g<10000):(g+10000*(R % M)) / M<10000/\(g+10000*R) / M=(g+10000*(R % M)) / M+10000*(R / M)/\(g+10000*R) % M=(g+10000*(R % M)) % M:=by
 have h1:=Nat.mod_lt R hM;have h2:=Nat.mod_add_div R M;refine ⟨?_,?_,?_⟩
 · rw[Nat.div_lt_iff_lt_mul hM];have:10000*(R % M)+10000<=10000*M:=by omega
   omega
 · have e:g+10000*R=(g+10000*(R % M))+M*(10000*(R / M)):=by
    conv=>lhs;rw[←h2]
    rw[Nat.mul_add,←Nat.mul_assoc,←Nat.mul_assoc,Nat.mul_comm M 10000];omega
   rw[e,Nat.add_mul_div_left _ _ hM]
 · have e:g+10000*R=(g+10000*(R % M))+M*(10000*(R / M)):=by
    conv=>lhs;rw[←h2]
    rw[Nat.mul_add,←Nat.mul_assoc,←Nat.mul_assoc,Nat.mul_comm M 10000];omega
   rw[e,Nat.add_mul_mod_self_left]
theorem A_ {R M d:Nat} (hM:0<M):M*(d+1)<=R↔d<R / M:=by
 rw[Nat.lt_iff_add_one_le,Nat.le_div_iff_mul_le hM,Nat.mul_comm]
def gq (a b:Nat):Int:=if a<b then -1 else if a=b then 0 else 1
theorem mZ {a b:Nat} (h:a<b):gq a b= -1:=by unfold gq;rw[if_pos h]
theorem tC (a:Nat):gq a a=0:=by unfold gq;rw[if_neg (by omega),if_pos rfl]
theorem m_ {a b:Nat} (h:b<a):gq a b=1:=by unfold gq;rw[if_neg (by omega),if_neg (by omega)]
theorem Kr {a b:Nat} (h:(grp a).length≠(grp b).length):gq a b=if (grp a).length<(grp b).length then -1 else 1:=by
 by_cases h1:(grp a).length<(grp b).length
 · rw[if_pos h1,mZ (jA h1)]
 · rw[if_neg h1,m_ (jA (by omega))]
theorem Sl {a b:Nat} (hlen:(grp a).length=(grp b).length) (k:Nat) (hk:k<(grp a).length) (hd:(grp a).drop (k+1)=(grp b).drop (k+1)) (hne:dN (grp a) k≠dN (grp b) k):gq a b=if dN (grp a) k<dN (grp b) k then -1 else 1:=by
 have va:=dH a;have vb:=dH b;by_cases h:dN (grp a) k<dN (grp b) k
 · have:=jP (dO a) (dO b) hlen k hk hd h;rw [if_pos h,mZ (by omega)]
 · have:=jP (dO b) (dO a) hlen.symm k (by omega) hd.symm (by omega);rw [if_neg h,m_ (by omega)]
theorem FD {a b:Nat} (h:grp a=grp b):gq a b=0:=by
 have va:=dH a;have vb:=dH b;rw [h,vb]at va;have:a=b:=by omega
 subst this;exact tC a
theorem jU {d:Nat->Int} {n m:Nat} (h:∀i,n<=i->d i=0) (hm:n<=m):cZ d m=cZ d n:=by
 induction m with
 | zero =>
  have:n=0:=by omega
  subst this;rfl
 | succ m ih =>
  by_cases hn:n=m+1
  · subst hn;rfl
  · rw[cZ,h m (by omega),ih (by omega)];simp
end Ig
namespace Go.Proofs.YtohgjenaclfegaaGreatDoor
open Go.RowKit
def I64 (x:Int):Prop:= -9223372036854775808<=x/\x<=9223372036854775807
theorem aj (w:World) (o:Obj):(w.alloc o).heap.size=w.heap.size+1:=by
 show (w.heap.push o).size=_
 simp
def aZ (c:Int):List Value:=[.int .i64 c]
theorem Qq:∃i z,Tryz.prog.info? 3=some i/\i.zero=some z/\i.size=1/\z.cells.size=1/\i.bytes=8:=by
 have h:(Tryz.prog.info? 3).map (fun i=>(i.size,i.bytes,i.zero.map (·.cells.size)))=some (1,8,some 1):=by kernel_rfl
 cases hi:Tryz.prog.info? 3 with
 | none=>rw[hi]at h;cases h
 | some i =>
  rw[hi]at h;simp only[Option.map_some,Option.some.injEq,Prod.mk.injEq]at h;obtain ⟨h1,h2,h3⟩:=h
  cases hz:i.zero with
  | none=>rw[hz]at h3;cases h3
  | some z=>rw[hz]at h3;exact⟨i,z,rfl,hz,h1,by simpa using h3,h2⟩
theorem aA (W:World) (o:Obj):Below W.heap.size W (W.alloc o):=(Below.refl W.heap.size W).alloc (Nat.le_refl _) o
theorem AZ {α:Type} (a:α):∃b,Kp (a=b):=⟨a,⟨rfl⟩⟩
theorem jY (s:List UInt8) (w:World):Calls Tryz.prog 212 #[.string ⟨s.toArray⟩,.string ⟨#[45]⟩] w fun e w'=>e=.returned (.string ⟨(Ig.gY s).toArray⟩)/\w=w' :=
 (Tryz.strings_TrimPrefix ⟨s.toArray⟩ ⟨#[45]⟩ w).mono fun e w' ⟨h1,h2⟩=>⟨by
  rw[h1]
  have:Lib.trimPrefix s [45]=Ig.gY s:=by
   unfold Lib.trimPrefix Ig.gY
   rfl
  simp only[this],h2.symm⟩
def UL:List UInt8:=[48,49,50,51,52,53,54,55,56,57]
theorem Vo (b:UInt8):b∈UL↔Ig.Aw b=true:=by
 have:∀b:Fin 256,(UInt8.ofNat b.val)∈UL↔Ig.Aw (UInt8.ofNat b.val)=true:=by decide +kernel
 have h:=this ⟨b.toNat,b.toNat_lt⟩;simpa using h
theorem FC (s:List UInt8):(Lib.trimS s UL).isEmpty=s.all Ig.Aw:=by
 rw[Bool.eq_iff_iff,List.isEmpty_iff,D6];simp only[List.all_eq_true,Vo]
theorem kN (s:List UInt8) (hs:s.length<=1000000) (w:World) :
 aT 149 #[.string ⟨s.toArray⟩] w (.bool (Ig.dK s)):=by
 have hT:=fun w0=>jY s w0
 have hul:(Ig.gY s).length<=1000000:=by
  unfold Ig.gY
  split
  · rw[List.length_drop];omega
  · omega
 have hD:=fun w0=>TM (Ig.gY s) UL w0 hul (by decide) (by decide)
 have hdt:=FC (Ig.gY s);have hdef:Kp (Ig.dK s=(!(Ig.gY s).isEmpty&&decide ((Ig.gY s).length<=200)&&(Ig.gY s).all Ig.Aw&&(s==[48]|| !((Ig.gY s).head? == some 48)))):=⟨rfl⟩
 generalize Ig.gY s=d at *;by_cases h0:d=[]
 · subst h0;have hfin:Kp (Ig.dK s=false):=⟨by rw[hdef.out];rfl⟩
   clear hdt hdef hD
   go_enter Tryz.func149,Tryz.ntmps149
   go_wp2_with (go_at_call 212;refine (hT _).mono ?_;rintro _ _ ⟨rfl,rfl⟩)
   go_ret;exact ⟨eF hfin.out.symm,Below.refl _ _⟩
 · have e0:d.isEmpty=false:=by simpa using h0
   by_cases hl:d.length<=200
   · have t1:decide ((d.length:Int) > 200)=false:=by simp;omega
     cases hdd:d.all Ig.Aw
     · have hfin:Kp (Ig.dK s=false):=⟨by rw[hdef.out,hdd];simp⟩
       rw[hdd]at hdt;clear hdef h0 hdd
       go_enter Tryz.func149,Tryz.ntmps149
       go_wp2_with (first
        | (go_at_call 212;refine (hT _).mono ?_;rintro _ _ ⟨rfl,rfl⟩)
        | (go_at_call 213;refine (hD _).mono ?_;rintro _ w1 ⟨rfl,hb⟩))
       go_ret;exact ⟨eF hfin.out.symm,hb⟩
     · rw[hdd]at hdt;by_cases hz:s=[48]
       · have hfin:Kp (Ig.dK s=true):=⟨by rw[hdef.out,hdd,e0,decide_eq_true hl,hz];rfl⟩
         subst hz;clear hdef h0 hdd
         go_enter Tryz.func149,Tryz.ntmps149
         go_wp2_with (first
          | (go_at_call 212;refine (hT _).mono ?_;rintro _ _ ⟨rfl,rfl⟩)
          | (go_at_call 213;refine (hD _).mono ?_;rintro _ w1 ⟨rfl,hb⟩))
         go_ret;exact ⟨eF hfin.out.symm,hb⟩
       · have hpos:0<d.length:=by
          cases d with
          | nil=>exact absurd rfl h0
          | cons a l=>simp
         have hhd:d.head? = some d[0]:=by
          cases d with
          | nil=>exact absurd rfl h0
          | cons a l=>rfl
         have hzb:(s==[48])=false:=by simpa using hz
         by_cases hc:d[0]=48
         · have hfin:Kp (Ig.dK s=false):=⟨by rw[hdef.out,hdd,e0,hhd,hc,hzb];simp⟩
           have t2:(((d[0].toNat:Nat):Int) != 48)=false:=by rw[hc];rfl
           clear hdef h0 hdd hhd hc
           go_enter Tryz.func149,Tryz.ntmps149
           go_wp2_with (first
            | (go_at_call 212;refine (hT _).mono ?_;rintro _ _ ⟨rfl,rfl⟩)
            | (go_at_call 213;refine (hD _).mono ?_;rintro _ w1 ⟨rfl,hb⟩))
           go_ret;exact ⟨eF hfin.out.symm,hb⟩
         · have hfin:Kp (Ig.dK s=true):=⟨by rw[hdef.out,hdd,e0,hhd,hzb,decide_eq_true hl];simp[hc]⟩
           have hne:¬d[0].toNat=48:=fun h=>hc (by apply UInt8.toNat_inj.1;exact h)
           have t2:(((d[0].toNat:Nat):Int) != 48)=true:=by simp;omega
           clear hdef h0 hdd hhd hc
           go_enter Tryz.func149,Tryz.ntmps149
           go_wp2_with (first
            | (go_at_call 212;refine (hT _).mono ?_;rintro _ _ ⟨rfl,rfl⟩)
            | (go_at_call 213;refine (hD _).mono ?_;rintro _ w1 ⟨rfl,hb⟩))
           go_ret;exact ⟨eF hfin.out.symm,hb⟩
   · have t1:decide ((d.length:Int) > 200)=true:=by simp;omega
     have hfin:Kp (Ig.dK s=false):=⟨by rw[hdef.out,decide_eq_false hl];simp⟩
     clear hdt hdef hD h0
     go_enter Tryz.func149,Tryz.ntmps149
     go_wp2_with (go_at_call 212;refine (hT _).mono ?_;rintro _ _ ⟨rfl,rfl⟩)
     go_ret;exact ⟨eF hfin.out.symm,Below.refl _ _⟩
theorem iy (l:List Int) (A:Option Addr) (cap:Nat) (w:World) (hA:At 1 aZ w w.heap.size A l) (hn:l.length<=cap) (hl:l.length<=1000000) :
 Calls Tryz.prog 260 #[.slice A l.length cap] w fun e w'=>e=.returned (.slice A (Ig.bK l).length cap)/\w=w':=by
 go_enter Tryz.func260,Tryz.ntmps260
 go_wp2
 go_loop [0] (fun s=>∃k:Nat,k<=l.length/\s=.slice A k cap/\Hid (Ig.bK (l.take k)=Ig.bK l)) (fun s=>match s with|.slice _ k _=>k|_=>0)
 case atStart=>exact⟨l.length,Nat.le_refl _,rfl,Lib.hid (by rw[List.take_length])⟩
 case round =>
  obtain⟨k,hk,rfl,ht⟩:=hrel;by_cases h0:0<k
  · obtain⟨b,off,rfl,hbB,hcell⟩:=hA (by omega);obtain ⟨k,rfl⟩:∃j,k=j+1:=⟨k-1,by omega⟩
    have hck:l[k]? = some l[k]:=List.getElem?_eq_getElem (by omega)
    have c0:w.cell? ⟨b,off+k,none⟩=some (.int .i64 l[k]):=by
     have:=hcell k _ hck 0 _ rfl;simpa using this
    have hsn:=List.take_succ_eq_append_getElem (show k<l.length by omega);by_cases hz:l[k]=0
    · have t1:(l[k]==0)=true:=by simp[hz]
      have hnext:=Lib.hid (show Ig.bK (l.take k)=Ig.bK l by rw[←ht.out,hsn,hz,Ig.fJ]);clear hck hcell hsn hz ht;generalize l[k]=g at *;go_wp2;exact ⟨⟨k,by omega,rfl,hnext⟩,Nat.lt_succ_self k⟩
    · have t1:(l[k]==0)=false:=by simp[hz]
      have hfin:Kp ((Ig.bK l).length=k+1):=⟨by rw[←ht.out,hsn,Ig.jE hz];simp;omega⟩
      clear hck hcell hsn hz ht;generalize l[k]=g at *;go_wp2;go_ret;exact ⟨by rw[hfin.out];rfl,rfl⟩
  · obtain rfl:k=0:=by omega
    have hfin:Kp ((Ig.bK l).length=0):=⟨by rw[←ht.out];rfl⟩
    clear ht;go_wp2;go_ret;exact ⟨by rw[hfin.out];rfl,rfl⟩
theorem oU (l:List Int):l.take (Ig.bK l).length=Ig.bK l:=by
 have h:∀n (l:List Int),l.length=n->Ig.bK l <+: l:=by
  intro n
  induction n with
  | zero=>intro l h;rw[List.length_eq_zero_iff.1 h];exact List.prefix_refl _
  | succ n ih =>
   intro l h
   rcases Ig.mG l with rfl|⟨m,g,rfl⟩
   · exact List.prefix_refl _
   · by_cases hg:g=0
     · subst hg;rw [Ig.fJ];exact (ih m (by simpa using h)).trans (List.prefix_append _ _)
     · rw[Ig.jE hg];exact List.prefix_refl _
 exact (List.prefix_iff_eq_take.1 (h _ l rfl)).symm
theorem aF {w:World} {ops:Array Oper} {rest:List Oper} {o:Oper} {a:Act} {Q:Exit->Act->World->Prop} (hgd:o.guard=none) (s y:Operand) (ho:o.op=.call { callee:=.builtin .append,args:=#[s,y],argTypes:=#[297,297] })
 (B cap n m:Nat) (flat news:List Value) (v x:Value) (hes:a.eval s=v) (ES:a.eval y=x) (hv:dP 3 1 B cap n flat v w) (hB:B<=w.heap.size) (hs:Src Tryz.prog 1 297 x m news w) (hcm:cap<=maxLen) (h63:n+m<=2000000)
 (h:∀v' w' cap',Below B w w'->(n=cap->Below w.heap.size w w')->dP 3 1 B cap' (n+m) (flat++news) v' w'->cap'<=maxLen->wpList Tryz.prog ops Q rest (a.put o.dst v') w'):wpList Tryz.prog ops Q (o :: rest) a w:=by
 obtain⟨i,z,hi,hz,hs1,hz1,hby⟩:=Qq;exact iH hgd s y _ _ ho i z 1 B cap n m flat news v x Tryz.underlying297 hi hz hs1 hz1 hes ES hv hB hs hcm (by unfold maxLen;omega) (by rw[hby];omega) h
theorem fE (W:World) (x:Int):Src Tryz.prog 1 297 (.slice (some ⟨W.heap.size,0,none⟩) 1 1) 1 [.int .i64 x] (W.alloc (.cells #[.int .i64 x] 3)) :=
 dP.src (B:=W.heap.size) (cap:=1) (e:=3) (fun u hu=>by simp at hu;subst hu;rfl) Tryz.underlying297 ⟨W.heap.size,_,rfl,Nat.le_refl _,Nat.le_refl _,Bx.mk _ _ _,rfl,rfl⟩
structure aC (W:World) (a:Nat) (v:Value):Prop where
 out:∃(A:Option Addr) (cap:Nat),v=.slice A (Ig.grp a).length cap/\At 1 aZ W W.heap.size A (Ig.grp a)/\(Ig.grp a).length<=cap/\cap<=maxLen
theorem aC.call {W W':World} {a:Nat} {v:Value} (h:aC W a v) (hb:Below W.heap.size W W'):aC W' a v:=by
 obtain⟨A,cap,h1,h2,h3,h4⟩:=h.out;exact ⟨A,cap,h1,(h2.below hb).more hb.size,h3,h4⟩
theorem yV (l:List Int) (A:Option Addr) (cap i:Nat) (w:World) (hA:At 1 aZ w w.heap.size A l) (hn:l.length<=cap) (hl:l.length<=1000000) (hi:i<=1000000) :
 Calls Tryz.prog 270 #[.slice A l.length cap,.int .i64 i] w fun e w'=>e=.returned (.int .i64 (Ig.dN l i))/\w=w':=by
 by_cases hlt:i<l.length
 · obtain⟨b,off,rfl,hbB,hcell⟩:=hA (by omega);have hck:l[i]? = some l[i]:=List.getElem?_eq_getElem hlt
   have c0:w.cell? ⟨b,off+i,none⟩=some (.int .i64 l[i]):=by
    have:=hcell i _ hck 0 _ rfl;simpa using this
   have hfin:Kp (Ig.dN l i=l[i]):=⟨Ig.ig hlt⟩
   clear hck hcell;generalize l[i]=g at *
   go_enter Tryz.func270,Tryz.ntmps270
   go_wp2;go_ret;exact ⟨bQ hfin.out.symm,rfl⟩
 · have hfin:Kp (Ig.dN l i=0):=⟨Ig.jX (by omega)⟩
   go_enter Tryz.func270,Tryz.ntmps270
   go_wp2;go_ret;exact ⟨bQ hfin.out.symm,rfl⟩
structure Two (B:Nat) (W:World) (b1 b2:Nat) (l m:List Int):Prop where
 out:∃A1 c1 A2 c2,Bx W b1 297 #[.slice A1 l.length c1]/\Bx W b2 297 #[.slice A2 m.length c2]/\At 1 aZ W B A1 l/\At 1 aZ W B A2 m/\l.length<=c1/\m.length<=c2
 lt1:b1<B
 lt2:b2<B
 le:B<=W.heap.size
theorem Two.call {B:Nat} {W W':World} {b1 b2:Nat} {l m:List Int} (h:Two B W b1 b2 l m) (hb:Below B W W'):Two B W' b1 b2 l m:=by
 obtain⟨A1,c1,A2,c2,h1,h2,h3,h4,h5,h6⟩:=h.out;exact ⟨⟨A1,c1,A2,c2,h1.below hb h.lt1,h2.below hb h.lt2,h3.below hb,h4.below hb,h5,h6⟩,h.lt1,h.lt2,Nat.le_trans h.le hb.size⟩
theorem Hg (B:Nat) (l m:List Int) (b1 b2 i:Nat) (w:World) (h:Two B w b1 b2 l m) (hl:l.length<=100000) (hm:m.length<=100000) (gl:Ig.Gr l) (gm:Ig.Gr m) (hi:i<=1000000) :
 aT 269 #[.int .i64 i,.pointer (some ⟨b1,0,none⟩),.pointer (some ⟨b2,0,none⟩)] w (.int .i64 (Ig.dN l i+Ig.dN m i)):=by
 obtain⟨A1,c1,A2,c2,B1,B2,h3,h4,h5,h6⟩:=h.out;replace h3:=h3.more h.le;replace h4:=h4.more h.le;have x1:=Ig.iq gl i;have x2:=Ig.iq gm i;have k1:=fun d os=>yV l A1 c1 i (Sort.grow (redrawn w d) os) ((h3.below (below_regrown w d os)).more (below_regrown w d os).size) h5 (by omega) hi
 have k2:=fun d os=>yV m A2 c2 i (Sort.grow (redrawn w d) os) ((h4.below (below_regrown w d os)).more (below_regrown w d os).size) h6 (by omega) hi
 have g1:=fun d os=>(B1.again d os).cell 0 rfl
 have g2:=fun d os=>(B2.again d os).cell 0 rfl
 clear h h3 h4 B1 B2;generalize Ig.dN l i=p at *;generalize Ig.dN m i=q at *
 go_enter Tryz.func269,Tryz.ntmps269
 go_wp2;refine wp_region_quiet_below (by kernel_rfl) (by kernel_rfl) ?_
 repeat (go_big_quiet_step (first
  | (go_at_call 270;with_reducible exact Calls.regrown_of (aO (k1 _ _)))
  | (go_at_call 270;with_reducible exact Calls.regrown_of (aO (k2 _ _)))))
 refine wpQuiet_nil ?_;rintro _ ⟨z,rfl⟩;go_wp2;go_ret;exact ⟨rfl,below_regrown w z.d z.os⟩
theorem EG (B:Nat) (l m:List Int) (b1 b2 i:Nat) (w:World) (h:Two B w b1 b2 l m) (hl:l.length<=100000) (hm:m.length<=100000) (gl:Ig.Gr l) (gm:Ig.Gr m) (hi:i<=1000000) :
 aT 271 #[.int .i64 i,.pointer (some ⟨b1,0,none⟩),.pointer (some ⟨b2,0,none⟩)] w (.int .i64 (Ig.dN l i-Ig.dN m i)):=by
 obtain⟨A1,c1,A2,c2,B1,B2,h3,h4,h5,h6⟩:=h.out;replace h3:=h3.more h.le;replace h4:=h4.more h.le;have x1:=Ig.iq gl i;have x2:=Ig.iq gm i;have k1:=fun d os=>yV l A1 c1 i (Sort.grow (redrawn w d) os) ((h3.below (below_regrown w d os)).more (below_regrown w d os).size) h5 (by omega) hi
 have k2:=fun d os=>yV m A2 c2 i (Sort.grow (redrawn w d) os) ((h4.below (below_regrown w d os)).more (below_regrown w d os).size) h6 (by omega) hi
 have g1:=fun d os=>(B1.again d os).cell 0 rfl
 have g2:=fun d os=>(B2.again d os).cell 0 rfl
 clear h h3 h4 B1 B2;generalize Ig.dN l i=p at *;generalize Ig.dN m i=q at *
 go_enter Tryz.func271,Tryz.ntmps271
 go_wp2;refine wp_region_quiet_below (by kernel_rfl) (by kernel_rfl) ?_
 repeat (go_big_quiet_step (first
  | (go_at_call 270;with_reducible exact Calls.regrown_of (aO (k1 _ _)))
  | (go_at_call 270;with_reducible exact Calls.regrown_of (aO (k2 _ _)))))
 refine wpQuiet_nil ?_;rintro _ ⟨z,rfl⟩;go_wp2;go_ret;exact ⟨rfl,below_regrown w z.d z.os⟩
structure Bl (B:Nat) (W:World) (b1 b2:Nat) (l:List Int) (n:Int):Prop where
 out:∃A1 c1,Bx W b1 297 #[.slice A1 l.length c1]/\Bx W b2 3 #[.int .i64 n]/\At 1 aZ W B A1 l/\l.length<=c1
 lt1:b1<B
 lt2:b2<B
 le:B<=W.heap.size
theorem Bl.call {B:Nat} {W W':World} {b1 b2:Nat} {l:List Int} {n:Int} (h:Bl B W b1 b2 l n) (hb:Below B W W'):Bl B W' b1 b2 l n:=by
 obtain⟨A1,c1,h1,h2,h3,h5⟩:=h.out;exact ⟨⟨A1,c1,h1.below hb h.lt1,h2.below hb h.lt2,h3.below hb,h5⟩,h.lt1,h.lt2,Nat.le_trans h.le hb.size⟩
theorem Tv (B:Nat) (l:List Int) (n:Int) (b1 b2 i:Nat) (w:World) (h:Bl B w b1 b2 l n) (hl:l.length<=100000) (gl:Ig.Gr l) (n0:0<=n) (n1:n<=10000) (hi:i<=1000000) :
 aT 292 #[.int .i64 i,.pointer (some ⟨b1,0,none⟩),.pointer (some ⟨b2,0,none⟩)] w (.int .i64 (Ig.dN l i*n)):=by
 obtain⟨A1,c1,B1,B2,h3,h5⟩:=h.out;replace h3:=h3.more h.le;have x1:=Ig.iq gl i;have k1:=fun d os=>yV l A1 c1 i (Sort.grow (redrawn w d) os) ((h3.below (below_regrown w d os)).more (below_regrown w d os).size) h5 (by omega) hi
 have g1:=fun d os=>(B1.again d os).cell 0 rfl
 have g2:=fun d os=>(B2.again d os).cell 0 rfl
 clear h h3 B1 B2;generalize Ig.dN l i=p at *
 have hm:0<=p*n/\p*n<=100000000:=by
  refine⟨Int.mul_nonneg x1.1 n0,?_⟩;have:=Int.mul_le_mul (show p<=10000 by omega) n1 n0 (by omega);omega
 obtain⟨hm0,hm1⟩:=hm
 go_enter Tryz.func292,Tryz.ntmps292
 go_wp2;refine wp_region_quiet_below (by kernel_rfl) (by kernel_rfl) ?_
 repeat (go_big_quiet_step (first
  | (go_at_call 270;with_reducible exact Calls.regrown_of (aO (k1 _ _)))))
 refine wpQuiet_nil ?_;rintro _ ⟨z,rfl⟩;have hw:IntKind.i64.wrap (p*n)=p*n:=IntWalk.i64_in _ (by omega);go_wp2;go_ret;exact ⟨by simp[hw],below_regrown w z.d z.os⟩
theorem C_ (n:Nat) (d:Nat->Int) (b1 b2:Nat) (I:World->Prop) (w:World) (hI:∀W W',I W->Below w.heap.size W W'->I W')
 (hcall:∀(W:World) (i:Nat),I W->i<=1000000->aT 269 #[.int .i64 i,.pointer (some ⟨b1,0,none⟩),.pointer (some ⟨b2,0,none⟩)] W (.int .i64 (d i)))
 (hd:∀i,-9999<=d i/\d i<=100000000) (h0:∀i,n<=i->d i=0) (hpos:0<=Ig.cZ d n) (hn:n<=100000) (wM:I w) :
 Calls Tryz.prog 268 #[.int .i64 n,.int .i64 0,.func (.func 269) #[] #[.pointer (some ⟨b1,0,none⟩),.pointer (some ⟨b2,0,none⟩)]] w fun e w' =>
  ∃(A:Option Addr) (out:List Int) (cap:Nat),e=.returned (.slice A out.length cap)/\At 1 aZ w' w'.heap.size A out/\out.length<=cap/\cap<=maxLen/\out.length<=n+2/\Kp (Ig.bK out=Ig.grp (Ig.cZ d n).toNat)/\Below w.heap.size w w':=by
 obtain⟨ti,z,hi,hz,hs1,hz1,hby⟩:=Qq;have hmk:=run_makeSlice (P:=Tryz.prog) (w:=w) 297 3 ti z Tryz.underlying297 hi hz .i64 .i64 0 ((n:Int)+1) (Int.le_refl _) (by omega) (by rw[hs1];omega) (by rw[hby];omega) (by omega);rw [hs1,Nat.mul_one,show ((n:Int)+1).toNat=n+1 by omega,show (0:Int).toNat=0 from rfl]at hmk;have hcs:(madeCells z.cells (n+1)).size=n+1:=by rw[size_madeCells]
 generalize madeCells z.cells (n+1)=cs at *;clear hi hz hs1 hz1 hby
 have hrow:dP 3 1 w.heap.size (n+1) 0 [] (.slice (some ⟨w.heap.size,0,none⟩) 0 (n+1)) (w.alloc (.cells cs 3)) :=
  ⟨w.heap.size,_,rfl,Nat.le_refl _,Nat.zero_le _,Bx.mk _ _ _,by omega,rfl⟩
 have hI1:=hI w _ wM (aA w (.cells cs 3));have hb1:=aA w (.cells cs 3)
 go_enter Tryz.func268,Tryz.ntmps268
 go_wp2;clear hmk wM;generalize (w.alloc (.cells cs 3))=w1 at *
 go_loopw [1,7,8,9] (fun s1 s7 s8 s9 wr=>∃(i cap:Nat) (out:List Int) (carry:Int),s8=.int .i64 i/\s1=.int .i64 carry/\dP 3 1 w.heap.size cap out.length (out.flatMap aZ) s7 wr/\cap<=maxLen/\i<=n+2/\ -1<=carry/\carry<=20000/\(i=n+1->carry<=2)/\(i=n+2->carry=0)/\(n<=i->0<=carry)/\Kp (out.length=i)/\out.length<=n+2/\Kp (Ig.iM d i out carry)/\I wr/\Below w.heap.size w wr)
  (fun s1 s7 s8 s9 _=>(n+3-(intOf s8).toNat))
 case atStart=>exact⟨0,n+1,[],0,rfl,rfl,hrow,by unfold maxLen;omega,by omega,by omega,by omega,by omega,by omega,by omega,⟨rfl⟩,by simp,⟨Ig.mW d⟩,hI1,hb1⟩
 case round =>
  clear hrow hI1 hb1;obtain ⟨i,cap,out,carry,rfl,rfl,hrow,hcm,hi2,hc1,hc2,hc3,hc4,hc5,hol,QA,hf,dM,hb⟩:=hrel;by_cases hstop:n<=i/\carry=0
  · obtain⟨hni,rfl⟩:=hstop;have t0:decide ((i:Int)<(n:Int))=false:=by simp;omega
    have hnl:¬i<n:=by omega
    have hfin:Kp (Ig.bK out=Ig.grp (Ig.cZ d n).toNat):=⟨by rw[Ig.sQ hf.out,Ig.jU h0 hni]⟩
    obtain⟨A2,rfl,hA2,hlen2⟩:=dP.at (f:=aZ) (fun _=>rfl) hrow;clear hf hcall hI;go_wp2;go_ret;exact ⟨A2,out,cap,rfl,hA2,hlen2,hcm,QA,hfin,hb⟩
  · have hdi:=hd i;have hz0:n<=i->d i=0:=h0 i;have hrun:(i<n∨(¬i<n/\carry≠0)):=by omega
    have hnext:=Ig.pU hf.out;have hcp:n<=i+1->0<=(d i+carry) / 10000:=fun h=>Ig.mX hnext (by rw[Ig.jU h0 h];exact hpos)
    have hns:i≠n+2:=by omega
    have hbig:i<=1000000:=by omega
    have hob:out.length+1<=1000000:=by omega
    have hc:=hcall wr i dM hbig;clear hcall hstop hf;generalize hdd:d i=di at *;have hi9:out.length<=i:=by have:=hol.out;omega
    have zi:Kp (out.length=i):=hol;clear hol
    rcases hrun with hlt|⟨hge,hne⟩
    · have t0:decide ((i:Int)<(n:Int))=true:=by simp;omega
      rcases (show (di+carry<0)∨(0<=di+carry/\di+carry<10000)∨10000<=di+carry by omega) with hs|⟨hs,hs'⟩|hs
      · have t1:decide (di+carry<0)=true:=by simp;omega
        go_wp2_with fail;refine hc.mono ?_;rintro _ w2 ⟨rfl,hb2⟩;replace hrow:=aN _ _ _ _ _ _ _ _ _ hrow hb2;replace dM:=hI _ _ dM (hb2.mono hb.size);replace hb:=ah hb hb2;clear hc hb2
        go_wp2_with (at_builtin;refine aF rfl (.tmp 37) (.tmp 39) rfl w.heap.size cap out.length 1 (out.flatMap aZ) [.int .i64 (di+carry+10000)] _ _ rfl rfl (aN _ _ _ _ _ _ _ _ _ hrow (aA w2 _)) (by rw[aj];have:=hb.size;omega) (fE w2 _) hcm (by omega) ?_;intro v' w' cap' e1 e2 e3 e4)
        replace dM:=hI _ _ dM (((aA w2 (.cells #[.int .i64 (di+carry+10000)] 3))).mono hb.size);replace dM:=hI _ _ dM e1;have aX:=(bNew hb (.cells #[.int .i64 (di+carry+10000)] 3)).trans e1;refine ⟨⟨i+1,cap',out++[di+carry+10000],(-1),by go_num,rfl,by simpa [aZ] using e3,e4,by omega,by omega,by omega,by omega,by omega,?_,⟨by simp;exact zi.out⟩,by simp;omega,⟨?_⟩,dM,aX⟩,by simp[intOf];omega⟩
        · intro h;have:=hcp h;omega
        · have h1:(di+carry) % 10000=di+carry+10000:=by omega
          have h2:(di+carry) / 10000=(-1):=by omega
          rw[h1,h2]at hnext;exact hnext
      · have t1:decide (di+carry<0)=false:=by simp;omega
        have t2:decide (di+carry ≥ 10000)=false:=by simp;omega
        go_wp2_with fail;refine hc.mono ?_;rintro _ w2 ⟨rfl,hb2⟩;replace hrow:=aN _ _ _ _ _ _ _ _ _ hrow hb2;replace dM:=hI _ _ dM (hb2.mono hb.size);replace hb:=ah hb hb2;clear hc hb2
        go_wp2_with (at_builtin;refine aF rfl (.tmp 37) (.tmp 39) rfl w.heap.size cap out.length 1 (out.flatMap aZ) [.int .i64 (di+carry)] _ _ rfl rfl (aN _ _ _ _ _ _ _ _ _ hrow (aA w2 _)) (by rw[aj];have:=hb.size;omega) (fE w2 _) hcm (by omega) ?_;intro v' w' cap' e1 e2 e3 e4)
        replace dM:=hI _ _ dM (((aA w2 (.cells #[.int .i64 (di+carry)] 3))).mono hb.size);replace dM:=hI _ _ dM e1;have aX:=(bNew hb (.cells #[.int .i64 (di+carry)] 3)).trans e1;refine ⟨⟨i+1,cap',out++[di+carry],0,by go_num,rfl,by simpa [aZ] using e3,e4,by omega,by omega,by omega,by omega,by omega,?_,⟨by simp;exact zi.out⟩,by simp;omega,⟨?_⟩,dM,aX⟩,by simp[intOf];omega⟩
        · intro h;have:=hcp h;omega
        · have h1:(di+carry) % 10000=di+carry:=by omega
          have h2:(di+carry) / 10000=0:=by omega
          rw[h1,h2]at hnext;exact hnext
      · have t1:decide (di+carry<0)=false:=by simp;omega
        have t2:decide (di+carry ≥ 10000)=true:=by simp;omega
        go_wp2_with fail;refine hc.mono ?_;rintro _ w2 ⟨rfl,hb2⟩;replace hrow:=aN _ _ _ _ _ _ _ _ _ hrow hb2;replace dM:=hI _ _ dM (hb2.mono hb.size);replace hb:=ah hb hb2;clear hc hb2
        go_wp2_with (at_builtin;refine aF rfl (.tmp 37) (.tmp 39) rfl w.heap.size cap out.length 1 (out.flatMap aZ) [.int .i64 ((di+carry) % 10000)] _ _ rfl rfl (aN _ _ _ _ _ _ _ _ _ hrow (aA w2 _)) (by rw[aj];have:=hb.size;omega) (fE w2 _) hcm (by omega) ?_;intro v' w' cap' e1 e2 e3 e4)
        replace dM:=hI _ _ dM (((aA w2 (.cells #[.int .i64 ((di+carry) % 10000)] 3))).mono hb.size);replace dM:=hI _ _ dM e1;have aX:=(bNew hb (.cells #[.int .i64 ((di+carry) % 10000)] 3)).trans e1;refine ⟨⟨i+1,cap',out++[(di+carry) % 10000],((di+carry) / 10000),by go_num,rfl,by simpa [aZ] using e3,e4,by omega,by omega,by omega,by omega,by omega,?_,⟨by simp;exact zi.out⟩,by simp;omega,⟨?_⟩,dM,aX⟩,by simp[intOf];omega⟩
        · intro h;have:=hcp h;omega
        · have h1:(di+carry) % 10000=(di+carry) % 10000:=by omega
          have h2:(di+carry) / 10000=((di+carry) / 10000):=by omega
          rw[h1,h2]at hnext;exact hnext
    · have t0:decide ((i:Int)<(n:Int))=false:=by simp;omega
      have t9:(carry != 0)=true:=by simp[hne]
      clear hne
      rcases (show (di+carry<0)∨(0<=di+carry/\di+carry<10000)∨10000<=di+carry by omega) with hs|⟨hs,hs'⟩|hs
      · exfalso
        have x1:=hz0 (by omega);have x2:=hc5 (by omega);omega
      · have t1:decide (di+carry<0)=false:=by simp;omega
        have t2:decide (di+carry ≥ 10000)=false:=by simp;omega
        go_wp2_with fail;refine hc.mono ?_;rintro _ w2 ⟨rfl,hb2⟩;replace hrow:=aN _ _ _ _ _ _ _ _ _ hrow hb2;replace dM:=hI _ _ dM (hb2.mono hb.size);replace hb:=ah hb hb2;clear hc hb2
        go_wp2_with (at_builtin;refine aF rfl (.tmp 37) (.tmp 39) rfl w.heap.size cap out.length 1 (out.flatMap aZ) [.int .i64 (di+carry)] _ _ rfl rfl (aN _ _ _ _ _ _ _ _ _ hrow (aA w2 _)) (by rw[aj];have:=hb.size;omega) (fE w2 _) hcm (by omega) ?_;intro v' w' cap' e1 e2 e3 e4)
        replace dM:=hI _ _ dM (((aA w2 (.cells #[.int .i64 (di+carry)] 3))).mono hb.size);replace dM:=hI _ _ dM e1;have aX:=(bNew hb (.cells #[.int .i64 (di+carry)] 3)).trans e1;refine ⟨⟨i+1,cap',out++[di+carry],0,by go_num,rfl,by simpa [aZ] using e3,e4,by omega,by omega,by omega,by omega,by omega,?_,⟨by simp;exact zi.out⟩,by simp;omega,⟨?_⟩,dM,aX⟩,by simp[intOf];omega⟩
        · intro h;have:=hcp h;omega
        · have h1:(di+carry) % 10000=di+carry:=by omega
          have h2:(di+carry) / 10000=0:=by omega
          rw[h1,h2]at hnext;exact hnext
      · have t1:decide (di+carry<0)=false:=by simp;omega
        have t2:decide (di+carry ≥ 10000)=true:=by simp;omega
        go_wp2_with fail;refine hc.mono ?_;rintro _ w2 ⟨rfl,hb2⟩;replace hrow:=aN _ _ _ _ _ _ _ _ _ hrow hb2;replace dM:=hI _ _ dM (hb2.mono hb.size);replace hb:=ah hb hb2;clear hc hb2
        go_wp2_with (at_builtin;refine aF rfl (.tmp 37) (.tmp 39) rfl w.heap.size cap out.length 1 (out.flatMap aZ) [.int .i64 ((di+carry) % 10000)] _ _ rfl rfl (aN _ _ _ _ _ _ _ _ _ hrow (aA w2 _)) (by rw[aj];have:=hb.size;omega) (fE w2 _) hcm (by omega) ?_;intro v' w' cap' e1 e2 e3 e4)
        replace dM:=hI _ _ dM (((aA w2 (.cells #[.int .i64 ((di+carry) % 10000)] 3))).mono hb.size);replace dM:=hI _ _ dM e1;have aX:=(bNew hb (.cells #[.int .i64 ((di+carry) % 10000)] 3)).trans e1;refine ⟨⟨i+1,cap',out++[(di+carry) % 10000],((di+carry) / 10000),by go_num,rfl,by simpa [aZ] using e3,e4,by omega,by omega,by omega,by omega,by omega,?_,⟨by simp;exact zi.out⟩,by simp;omega,⟨?_⟩,dM,aX⟩,by simp[intOf];omega⟩
        · intro h;have:=hcp h;omega
        · have h1:(di+carry) % 10000=(di+carry) % 10000:=by omega
          have h2:(di+carry) / 10000=((di+carry) / 10000):=by omega
          rw[h1,h2]at hnext;exact hnext
theorem zO (n:Nat) (d:Nat->Int) (b1 b2:Nat) (I:World->Prop) (w:World) (hI:∀W W',I W->Below w.heap.size W W'->I W')
 (hcall:∀(W:World) (i:Nat),I W->i<=1000000->aT 271 #[.int .i64 i,.pointer (some ⟨b1,0,none⟩),.pointer (some ⟨b2,0,none⟩)] W (.int .i64 (d i)))
 (hd:∀i,-9999<=d i/\d i<=100000000) (h0:∀i,n<=i->d i=0) (hpos:0<=Ig.cZ d n) (hn:n<=100000) (wM:I w) :
 Calls Tryz.prog 268 #[.int .i64 n,.int .i64 0,.func (.func 271) #[] #[.pointer (some ⟨b1,0,none⟩),.pointer (some ⟨b2,0,none⟩)]] w fun e w' =>
  ∃(A:Option Addr) (out:List Int) (cap:Nat),e=.returned (.slice A out.length cap)/\At 1 aZ w' w'.heap.size A out/\out.length<=cap/\cap<=maxLen/\out.length<=n+2/\Kp (Ig.bK out=Ig.grp (Ig.cZ d n).toNat)/\Below w.heap.size w w':=by
 obtain⟨ti,z,hi,hz,hs1,hz1,hby⟩:=Qq;have hmk:=run_makeSlice (P:=Tryz.prog) (w:=w) 297 3 ti z Tryz.underlying297 hi hz .i64 .i64 0 ((n:Int)+1) (Int.le_refl _) (by omega) (by rw[hs1];omega) (by rw[hby];omega) (by omega);rw [hs1,Nat.mul_one,show ((n:Int)+1).toNat=n+1 by omega,show (0:Int).toNat=0 from rfl]at hmk;have hcs:(madeCells z.cells (n+1)).size=n+1:=by rw[size_madeCells]
 generalize madeCells z.cells (n+1)=cs at *;clear hi hz hs1 hz1 hby
 have hrow:dP 3 1 w.heap.size (n+1) 0 [] (.slice (some ⟨w.heap.size,0,none⟩) 0 (n+1)) (w.alloc (.cells cs 3)) :=
  ⟨w.heap.size,_,rfl,Nat.le_refl _,Nat.zero_le _,Bx.mk _ _ _,by omega,rfl⟩
 have hI1:=hI w _ wM (aA w (.cells cs 3));have hb1:=aA w (.cells cs 3)
 go_enter Tryz.func268,Tryz.ntmps268
 go_wp2;clear hmk wM;generalize (w.alloc (.cells cs 3))=w1 at *
 go_loopw [1,7,8,9] (fun s1 s7 s8 s9 wr=>∃(i cap:Nat) (out:List Int) (carry:Int),s8=.int .i64 i/\s1=.int .i64 carry/\dP 3 1 w.heap.size cap out.length (out.flatMap aZ) s7 wr/\cap<=maxLen/\i<=n+2/\ -1<=carry/\carry<=20000/\(i=n+1->carry<=2)/\(i=n+2->carry=0)/\(n<=i->0<=carry)/\Kp (out.length=i)/\out.length<=n+2/\Kp (Ig.iM d i out carry)/\I wr/\Below w.heap.size w wr)
  (fun s1 s7 s8 s9 _=>(n+3-(intOf s8).toNat))
 case atStart=>exact⟨0,n+1,[],0,rfl,rfl,hrow,by unfold maxLen;omega,by omega,by omega,by omega,by omega,by omega,by omega,⟨rfl⟩,by simp,⟨Ig.mW d⟩,hI1,hb1⟩
 case round =>
  clear hrow hI1 hb1;obtain ⟨i,cap,out,carry,rfl,rfl,hrow,hcm,hi2,hc1,hc2,hc3,hc4,hc5,hol,QA,hf,dM,hb⟩:=hrel;by_cases hstop:n<=i/\carry=0
  · obtain⟨hni,rfl⟩:=hstop;have t0:decide ((i:Int)<(n:Int))=false:=by simp;omega
    have hnl:¬i<n:=by omega
    have hfin:Kp (Ig.bK out=Ig.grp (Ig.cZ d n).toNat):=⟨by rw[Ig.sQ hf.out,Ig.jU h0 hni]⟩
    obtain⟨A2,rfl,hA2,hlen2⟩:=dP.at (f:=aZ) (fun _=>rfl) hrow;clear hf hcall hI;go_wp2;go_ret;exact ⟨A2,out,cap,rfl,hA2,hlen2,hcm,QA,hfin,hb⟩
  · have hdi:=hd i;have hz0:n<=i->d i=0:=h0 i;have hrun:(i<n∨(¬i<n/\carry≠0)):=by omega
    have hnext:=Ig.pU hf.out;have hcp:n<=i+1->0<=(d i+carry) / 10000:=fun h=>Ig.mX hnext (by rw[Ig.jU h0 h];exact hpos)
    have hns:i≠n+2:=by omega
    have hbig:i<=1000000:=by omega
    have hob:out.length+1<=1000000:=by omega
    have hc:=hcall wr i dM hbig;clear hcall hstop hf;generalize hdd:d i=di at *;have hi9:out.length<=i:=by have:=hol.out;omega
    have zi:Kp (out.length=i):=hol;clear hol
    rcases hrun with hlt|⟨hge,hne⟩
    · have t0:decide ((i:Int)<(n:Int))=true:=by simp;omega
      rcases (show (di+carry<0)∨(0<=di+carry/\di+carry<10000)∨10000<=di+carry by omega) with hs|⟨hs,hs'⟩|hs
      · have t1:decide (di+carry<0)=true:=by simp;omega
        go_wp2_with fail;refine hc.mono ?_;rintro _ w2 ⟨rfl,hb2⟩;replace hrow:=aN _ _ _ _ _ _ _ _ _ hrow hb2;replace dM:=hI _ _ dM (hb2.mono hb.size);replace hb:=ah hb hb2;clear hc hb2
        go_wp2_with (at_builtin;refine aF rfl (.tmp 37) (.tmp 39) rfl w.heap.size cap out.length 1 (out.flatMap aZ) [.int .i64 (di+carry+10000)] _ _ rfl rfl (aN _ _ _ _ _ _ _ _ _ hrow (aA w2 _)) (by rw[aj];have:=hb.size;omega) (fE w2 _) hcm (by omega) ?_;intro v' w' cap' e1 e2 e3 e4)
        replace dM:=hI _ _ dM (((aA w2 (.cells #[.int .i64 (di+carry+10000)] 3))).mono hb.size);replace dM:=hI _ _ dM e1;have aX:=(bNew hb (.cells #[.int .i64 (di+carry+10000)] 3)).trans e1;refine ⟨⟨i+1,cap',out++[di+carry+10000],(-1),by go_num,rfl,by simpa [aZ] using e3,e4,by omega,by omega,by omega,by omega,by omega,?_,⟨by simp;exact zi.out⟩,by simp;omega,⟨?_⟩,dM,aX⟩,by simp[intOf];omega⟩
        · intro h;have:=hcp h;omega
        · have h1:(di+carry) % 10000=di+carry+10000:=by omega
          have h2:(di+carry) / 10000=(-1):=by omega
          rw[h1,h2]at hnext;exact hnext
      · have t1:decide (di+carry<0)=false:=by simp;omega
        have t2:decide (di+carry ≥ 10000)=false:=by simp;omega
        go_wp2_with fail;refine hc.mono ?_;rintro _ w2 ⟨rfl,hb2⟩;replace hrow:=aN _ _ _ _ _ _ _ _ _ hrow hb2;replace dM:=hI _ _ dM (hb2.mono hb.size);replace hb:=ah hb hb2;clear hc hb2
        go_wp2_with (at_builtin;refine aF rfl (.tmp 37) (.tmp 39) rfl w.heap.size cap out.length 1 (out.flatMap aZ) [.int .i64 (di+carry)] _ _ rfl rfl (aN _ _ _ _ _ _ _ _ _ hrow (aA w2 _)) (by rw[aj];have:=hb.size;omega) (fE w2 _) hcm (by omega) ?_;intro v' w' cap' e1 e2 e3 e4)
        replace dM:=hI _ _ dM (((aA w2 (.cells #[.int .i64 (di+carry)] 3))).mono hb.size);replace dM:=hI _ _ dM e1;have aX:=(bNew hb (.cells #[.int .i64 (di+carry)] 3)).trans e1;refine ⟨⟨i+1,cap',out++[di+carry],0,by go_num,rfl,by simpa [aZ] using e3,e4,by omega,by omega,by omega,by omega,by omega,?_,⟨by simp;exact zi.out⟩,by simp;omega,⟨?_⟩,dM,aX⟩,by simp[intOf];omega⟩
        · intro h;have:=hcp h;omega
        · have h1:(di+carry) % 10000=di+carry:=by omega
          have h2:(di+carry) / 10000=0:=by omega
          rw[h1,h2]at hnext;exact hnext
      · have t1:decide (di+carry<0)=false:=by simp;omega
        have t2:decide (di+carry ≥ 10000)=true:=by simp;omega
        go_wp2_with fail;refine hc.mono ?_;rintro _ w2 ⟨rfl,hb2⟩;replace hrow:=aN _ _ _ _ _ _ _ _ _ hrow hb2;replace dM:=hI _ _ dM (hb2.mono hb.size);replace hb:=ah hb hb2;clear hc hb2
        go_wp2_with (at_builtin;refine aF rfl (.tmp 37) (.tmp 39) rfl w.heap.size cap out.length 1 (out.flatMap aZ) [.int .i64 ((di+carry) % 10000)] _ _ rfl rfl (aN _ _ _ _ _ _ _ _ _ hrow (aA w2 _)) (by rw[aj];have:=hb.size;omega) (fE w2 _) hcm (by omega) ?_;intro v' w' cap' e1 e2 e3 e4)
        replace dM:=hI _ _ dM (((aA w2 (.cells #[.int .i64 ((di+carry) % 10000)] 3))).mono hb.size);replace dM:=hI _ _ dM e1;have aX:=(bNew hb (.cells #[.int .i64 ((di+carry) % 10000)] 3)).trans e1;refine ⟨⟨i+1,cap',out++[(di+carry) % 10000],((di+carry) / 10000),by go_num,rfl,by simpa [aZ] using e3,e4,by omega,by omega,by omega,by omega,by omega,?_,⟨by simp;exact zi.out⟩,by simp;omega,⟨?_⟩,dM,aX⟩,by simp[intOf];omega⟩
        · intro h;have:=hcp h;omega
        · have h1:(di+carry) % 10000=(di+carry) % 10000:=by omega
          have h2:(di+carry) / 10000=((di+carry) / 10000):=by omega
          rw[h1,h2]at hnext;exact hnext
    · have t0:decide ((i:Int)<(n:Int))=false:=by simp;omega
      have t9:(carry != 0)=true:=by simp[hne]
      clear hne
      rcases (show (di+carry<0)∨(0<=di+carry/\di+carry<10000)∨10000<=di+carry by omega) with hs|⟨hs,hs'⟩|hs
      · exfalso
        have x1:=hz0 (by omega);have x2:=hc5 (by omega);omega
      · have t1:decide (di+carry<0)=false:=by simp;omega
        have t2:decide (di+carry ≥ 10000)=false:=by simp;omega
        go_wp2_with fail;refine hc.mono ?_;rintro _ w2 ⟨rfl,hb2⟩;replace hrow:=aN _ _ _ _ _ _ _ _ _ hrow hb2;replace dM:=hI _ _ dM (hb2.mono hb.size);replace hb:=ah hb hb2;clear hc hb2
        go_wp2_with (at_builtin;refine aF rfl (.tmp 37) (.tmp 39) rfl w.heap.size cap out.length 1 (out.flatMap aZ) [.int .i64 (di+carry)] _ _ rfl rfl (aN _ _ _ _ _ _ _ _ _ hrow (aA w2 _)) (by rw[aj];have:=hb.size;omega) (fE w2 _) hcm (by omega) ?_;intro v' w' cap' e1 e2 e3 e4)
        replace dM:=hI _ _ dM (((aA w2 (.cells #[.int .i64 (di+carry)] 3))).mono hb.size);replace dM:=hI _ _ dM e1;have aX:=(bNew hb (.cells #[.int .i64 (di+carry)] 3)).trans e1;refine ⟨⟨i+1,cap',out++[di+carry],0,by go_num,rfl,by simpa [aZ] using e3,e4,by omega,by omega,by omega,by omega,by omega,?_,⟨by simp;exact zi.out⟩,by simp;omega,⟨?_⟩,dM,aX⟩,by simp[intOf];omega⟩
        · intro h;have:=hcp h;omega
        · have h1:(di+carry) % 10000=di+carry:=by omega
          have h2:(di+carry) / 10000=0:=by omega
          rw[h1,h2]at hnext;exact hnext
      · have t1:decide (di+carry<0)=false:=by simp;omega
        have t2:decide (di+carry ≥ 10000)=true:=by simp;omega
        go_wp2_with fail;refine hc.mono ?_;rintro _ w2 ⟨rfl,hb2⟩;replace hrow:=aN _ _ _ _ _ _ _ _ _ hrow hb2;replace dM:=hI _ _ dM (hb2.mono hb.size);replace hb:=ah hb hb2;clear hc hb2
        go_wp2_with (at_builtin;refine aF rfl (.tmp 37) (.tmp 39) rfl w.heap.size cap out.length 1 (out.flatMap aZ) [.int .i64 ((di+carry) % 10000)] _ _ rfl rfl (aN _ _ _ _ _ _ _ _ _ hrow (aA w2 _)) (by rw[aj];have:=hb.size;omega) (fE w2 _) hcm (by omega) ?_;intro v' w' cap' e1 e2 e3 e4)
        replace dM:=hI _ _ dM (((aA w2 (.cells #[.int .i64 ((di+carry) % 10000)] 3))).mono hb.size);replace dM:=hI _ _ dM e1;have aX:=(bNew hb (.cells #[.int .i64 ((di+carry) % 10000)] 3)).trans e1;refine ⟨⟨i+1,cap',out++[(di+carry) % 10000],((di+carry) / 10000),by go_num,rfl,by simpa [aZ] using e3,e4,by omega,by omega,by omega,by omega,by omega,?_,⟨by simp;exact zi.out⟩,by simp;omega,⟨?_⟩,dM,aX⟩,by simp[intOf];omega⟩
        · intro h;have:=hcp h;omega
        · have h1:(di+carry) % 10000=(di+carry) % 10000:=by omega
          have h2:(di+carry) / 10000=((di+carry) / 10000):=by omega
          rw[h1,h2]at hnext;exact hnext
end Go.Proofs.YtohgjenaclfegaaGreatDoor

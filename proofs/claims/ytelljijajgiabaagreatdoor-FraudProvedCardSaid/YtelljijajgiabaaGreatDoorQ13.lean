import Derived.Test.YtelljijajgiabaaGreatDoorQ08
set_option linter.unusedVariables false
set_option linter.unusedSimpArgs false
set_option maxRecDepth 100000
set_option maxHeartbeats 8000000
namespace Dx
def aT:List Int->Int
 | []=>0
 | g :: l=>g+10*aT l
def Gr (l:List Int):Prop:=∀g∈l,0<=g/\g<10
def grp (n:Nat):List Int:=if h:n=0 then [] else ((n % 10:Nat):Int) :: grp (n / 10)
 termination_by n
 decreasing_by omega
theorem aP:grp 0=[]:=by rw[grp,dif_pos rfl]
theorem dQ {n:Nat} (h:n≠0):grp n=((n % 10:Nat):Int) :: grp (n / 10):=by rw[grp,dif_neg h]
theorem bY (n:Nat):aT (grp n)=n:=by
 induction n using Nat.strongRecOn with
 | _ n ih =>
  by_cases h:n=0
  · subst h;rw[aP];rfl
  · rw[dQ h,aT,ih (n / 10) (by omega)];omega
theorem dn (n:Nat):Gr (grp n):=by
 induction n using Nat.strongRecOn with
 | _ n ih =>
  by_cases h:n=0
  · subst h;rw[aP];intro g hg;cases hg
  · rw[dQ h];intro g hg
    rcases List.mem_cons.1 hg with rfl|hg
    · omega
    · exact ih (n / 10) (by omega) g hg
theorem r_ {n:Nat}:grp n=[]↔n=0:=by
 constructor
 · intro h;by_cases h0:n=0
   · exact h0
   · rw[dQ h0]at h;cases h
 · rintro rfl;exact aP
theorem fU {l:List Int} (h:Gr l):0<=aT l:=by
 induction l with
 | nil=>exact Int.le_refl _
 | cons g l ih =>
  have h1:=h g (by simp);have h2:=ih (fun x hx=>h x (by simp[hx]))
  unfold aT;omega
theorem dF (a b:List Int):aT (a++b)=aT a+10 ^ a.length*aT b:=by
 induction a with
 | nil=>simp[aT]
 | cons g a ih =>
  rw[List.cons_append,aT,ih,aT,List.length_cons,Int.pow_succ];rw [Int.mul_add,←Int.mul_assoc,Int.mul_comm 10 (10 ^ a.length)];omega
theorem nN {l:List Int} (h:Gr l):aT l<10 ^ l.length:=by
 induction l with
 | nil=>decide
 | cons g l ih =>
  have h1:=h g (by simp);have h2:=ih (fun x hx=>h x (by simp[hx]));rw [aT,List.length_cons,Int.pow_succ];omega
theorem w_:∀ {l:List Int},Gr l->l.getLast? ≠ some 0->l=grp (aT l).toNat
 | [],_,_=>by rw[aT];exact aP.symm
 | g :: l,h,ht=>by
  have h1:=h g (by simp);have h2:Gr l:=fun x hx=>h x (by simp[hx])
  have h3:=fU h2
  have ht2:l.getLast? ≠ some 0:=by
   cases l with
   | nil=>simp
   | cons a l=>simpa [List.getLast?_cons_cons] using ht
  have ih:=w_ h2 ht2
  have hne:(aT (g :: l)).toNat≠0:=by
   rw[aT];intro h0;have hl0:aT l=0:=by omega
   rw[hl0]at ih;rw [show (0:Int).toNat=0 from rfl,aP]at ih;subst ih;have hg:g=0:=by omega
   subst hg;simp at ht
  rw[dQ hne];have e1:((aT (g :: l)).toNat / 10)=(aT l).toNat:=by rw[aT];omega
  have e2:(((aT (g :: l)).toNat % 10:Nat):Int)=g:=by rw[aT];omega
  rw[e1,e2,←ih]
def bf (l:List Int):List Int:=(l.reverse.dropWhile (·==0)).reverse
theorem fB (l:List Int):bf (l++[0])=bf l:=by simp[bf]
theorem jR {l:List Int} {g:Int} (h:g≠0):bf (l++[g])=l++[g]:=by simp[bf,h]
theorem mD (l:List Int):l=[]∨∃m g,l=m++[g]:=by
 rcases List.eq_nil_or_concat l with h|⟨m,g,h⟩
 · exact .inl h
 · exact .inr ⟨m,g,by simpa using h⟩
theorem nY:∀(n:Nat) {l:List Int},l.length=n->Gr l->bf l=grp (aT l).toNat
 | 0,l,hn,_=>by
  obtain rfl:l=[]:=List.length_eq_zero_iff.1 hn;exact aP.symm
 | n+1,l,hn,h=>by
  rcases mD l with rfl|⟨m,g,rfl⟩
  · simp at hn
  · have hm:Gr m:=fun x hx=>h x (by simp[hx])
    by_cases hg:g=0
    · subst hg;rw [fB,nY n (by simpa using hn) hm,dF];simp [aT]
    · rw[jR hg];exact w_ h (by simp[hg])
theorem kN {l:List Int} (h:Gr l):bf l=grp (aT l).toNat:=nY _ rfl h
theorem xX (n:Nat):(grp n).getLast? ≠ some 0:=by
 induction n using Nat.strongRecOn with
 | _ n ih =>
  by_cases h:n=0
  · subst h;rw[aP];simp
  · rw[dQ h]
    cases hl:grp (n / 10) with
    | nil =>
     have h0:=r_.1 hl;simp;omega
    | cons a l =>
     rw[List.getLast?_cons_cons,←hl];exact ih (n / 10) (by omega)
theorem fG {n k:Nat} (h:n<10 ^ k):(grp n).length<=k:=by
 induction k generalizing n with
 | zero =>
  have:n=0:=by simpa using h
  subst this;rw[aP];simp
 | succ k ih =>
  by_cases h0:n=0
  · subst h0;rw[aP];simp
  · rw[dQ h0,List.length_cons]
    have:n / 10<10 ^ k:=by
     rw[Nat.pow_succ]at h;exact Nat.div_lt_of_lt_mul (by rw[Nat.mul_comm];exact h)
    have:=ih this;omega
theorem iZ (n:Nat):n<10 ^ (grp n).length:=by
 have h1:=nN (dn n);rw [bY]at h1;have h2:((10 ^ (grp n).length:Nat):Int)=(10:Int) ^ (grp n).length:=by simp
 omega
theorem Cc (l:List Int):bf l=Ig.bf l:=rfl
theorem wY {n:Nat} (h0:n≠0) (h:n<10):grp n=[(n:Int)]:=by rw[dQ h0,show n / 10=0 by omega,aP,Nat.mod_eq_of_lt h]
theorem EN {n:Nat} (h:n≠0):Go.Lib.decDigits n=(grp n).reverse.map fun d=>Ig.dg d.toNat:=by
 induction n using Nat.strongRecOn with
 | _ n ih =>
  by_cases h1:n<10
  · rw[Ig.dW h1,wY h h1];simp
  · rw[Ig.fO h1,ih (n / 10) (by omega) (by omega),dQ h,List.reverse_cons,List.map_append];rw [List.map_singleton,Int.toNat_natCast]
theorem YE {n:Nat} (h:n≠0):(grp n).length=Go.Lib.nDigits n:=by
 rw[←Ig.jC,EN h];simp
theorem qO {n:Nat}:(grp n).length=0↔n=0:=by rw[List.length_eq_zero_iff,r_]
end Dx
namespace Dx
open Ig (dX kK nR kL)
def bW (l:List Int) (i:Nat):Int:=l[i]?.getD 0
theorem dS {l:List Int} {i:Nat} (h:i<l.length):bW l i=l[i]:=by simp[bW,h]
theorem jF {l:List Int} {i:Nat} (h:l.length<=i):bW l i=0:=by simp[bW,h]
theorem yO (l:List Int) (k:Nat):aT (l.take (k+1))=aT (l.take k)+10 ^ k*bW l k:=by
 by_cases h:k<l.length
 · rw[List.take_succ_eq_append_getElem h,dF,dS h];simp [aT,Nat.min_eq_left (Nat.le_of_lt h)]
 · rw[List.take_of_length_le (by omega),List.take_of_length_le (by omega),jF (by omega)];simp
def dI (d:Nat->Int):Nat->Int
 | 0=>0
 | n+1=>dI d n+10 ^ n*d n
structure gG (d:Nat->Int) (i:Nat) (out:List Int) (carry:Int):Prop where
 len:out.length=i
 gr:Gr out
 eq:aT out+10 ^ i*carry=dI d i
theorem jX (d:Nat->Int):gG d 0 [] 0:=⟨rfl,(fun g h=>by cases h),by simp[aT,dI]⟩
theorem lW {d:Nat->Int} {i:Nat} {out:List Int} {carry:Int} (h:gG d i out carry):gG d (i+1) (out++[(d i+carry) % 10]) ((d i+carry) / 10):=by
 refine⟨by simp[h.len],fun g hg=>?_,?_⟩
 · rcases List.mem_append.1 hg with hg|hg
   · exact h.gr g hg
   · obtain rfl:g=(d i+carry) % 10:=by simpa using hg
     omega
 · rw[dF,h.len,dI,←h.eq,Int.pow_succ];have e:(d i+carry) % 10+10*((d i+carry) / 10)=d i+carry:=by omega
   simp only[aT];rw [Int.mul_zero,Int.add_zero,Int.mul_assoc,Int.add_assoc,←Int.mul_add,e,Int.mul_add];omega
theorem mX {d:Nat->Int} {i:Nat} {out:List Int} {carry:Int} (h:gG d i out carry) (h0:0<=dI d i):0<=carry:=by
 have h1:=nN h.gr;rw [h.len]at h1;have h2:=h.eq
 rcases Int.lt_or_le carry 0 with hc|hc
 · have h3:(10:Int) ^ i*carry<=10 ^ i*(-1):=Int.mul_le_mul_of_nonneg_left (by omega) (Int.le_of_lt (Int.pow_pos (by decide)));omega
 · exact hc
theorem qU {d:Nat->Int} {i:Nat} {out:List Int} (h:gG d i out 0):bf out=grp (dI d i).toNat:=by
 rw[kN h.gr];have:=h.eq;rw [Int.mul_zero,Int.add_zero]at this;rw [this]
theorem zW (a b:Nat->Int) (n:Nat):dI (fun i=>a i+b i) n=dI a n+dI b n:=by
 induction n with
 | zero=>rfl
 | succ n ih=>simp only[dI,ih,Int.mul_add];omega
theorem zV (a b:Nat->Int) (n:Nat):dI (fun i=>a i-b i) n=dI a n-dI b n:=by
 induction n with
 | zero=>rfl
 | succ n ih=>simp only[dI,ih,Int.mul_sub];omega
theorem Hz (a:Nat->Int) (c:Int) (n:Nat):dI (fun i=>a i*c) n=dI a n*c:=by
 induction n with
 | zero=>simp[dI]
 | succ n ih=>simp only[dI,ih,Int.add_mul,Int.mul_assoc]
theorem EK (l:List Int) (n:Nat):dI (bW l) n=aT (l.take n):=by
 induction n with
 | zero=>rfl
 | succ n ih=>rw[dI,ih,yO]
theorem oH {l:List Int} {n:Nat} (h:l.length<=n):dI (bW l) n=aT l:=by rw[EK,List.take_of_length_le h]
theorem fK {l:List Int} (h:Gr l) (i:Nat):0<=bW l i/\bW l i<10:=by
 by_cases hi:i<l.length
 · rw[dS hi];exact h _ (List.getElem_mem hi)
 · rw[jF (by omega)];omega
theorem lS {a b:Nat} (h:(grp a).length<(grp b).length):a<b:=by
 rcases Nat.lt_or_ge a b with h1|h1
 · exact h1
 · have h2:=iZ a;have:b<10 ^ (grp a).length:=by omega
   have:=fG this;omega
theorem mW {l m:List Int} (hl:Gr l) (hm:Gr m) (hlen:l.length=m.length) (k:Nat) (hk:k<l.length) (hd:l.drop (k+1)=m.drop (k+1)) (hlt:bW l k<bW m k):aT l<aT m:=by
 have e:∀ {x:List Int} (hx:k<x.length),x=x.take k++(bW x k :: x.drop (k+1)):=fun {x} hx=>by
  rw[dS hx,←List.drop_eq_getElem_cons hx,List.take_append_drop]
 rw[e hk,e (show k<m.length by omega),dF,dF,aT,aT,hd];have h1:=nN (l:=l.take k) (fun g hg=>hl g (List.mem_of_mem_take hg));have h2:=fU (l:=m.take k) (fun g hg=>hm g (List.mem_of_mem_take hg));have e1:(l.take k).length=k:=by simp;omega
 have e2:(m.take k).length=k:=by simp;omega
 rw[e1]at h1;rw [e1,e2]
 have h3:(10:Int) ^ k*(bW l k+10*aT (m.drop (k+1)))+10 ^ k<=10 ^ k*(bW m k+10*aT (m.drop (k+1))):=by
  have:(10:Int) ^ k*(bW l k+10*aT (m.drop (k+1)))+10 ^ k=10 ^ k*(bW l k+10*aT (m.drop (k+1))+1):=by rw[Int.mul_add (10 ^ k) (_+_) 1,Int.mul_one]
  rw[this];exact Int.mul_le_mul_of_nonneg_left (by omega) (Int.le_of_lt (Int.pow_pos (by decide)))
 omega
theorem wZ {v:Nat} (h:v≠0):(0:Int) :: grp v=grp (10*v):=by
 rw[dQ (n:=10*v) (by omega),show 10*v % 10=0 by omega,show 10*v / 10=v by omega];rfl
theorem jh {v:Nat}:(grp v).length=0↔v=0:=by rw[List.length_eq_zero_iff,r_]
def from_ (l:List Int) (i:Nat):Int:=aT (l.drop i)
theorem lT {l:List Int} {i:Nat} (h:i<l.length):from_ l i=l[i]+10*from_ l (i+1):=by
 unfold from_
 rw[List.drop_eq_getElem_cons h];rfl
theorem oD (l:List Int):from_ l 0=aT l:=rfl
theorem qR {l:List Int} {i:Nat} (h:l.length<=i):from_ l i=0:=by unfold from_;rw[List.drop_eq_nil_of_le h];rfl
theorem qQ {l:List Int} (h:Gr l) (i:Nat):0<=from_ l i:=fU fun g hg=>h g (List.mem_of_mem_drop hg)
theorem vM {g R M:Nat} (hM:0<M) (hg:g<10):(g+10*(R % M)) / M<10/\(g+10*R) / M=(g+10*(R % M)) / M+10*(R / M)/\(g+10*R) % M=(g+10*(R % M)) % M:=by
 have h1:=Nat.mod_lt R hM;have h2:=Nat.mod_add_div R M;refine ⟨?_,?_,?_⟩
 · rw[Nat.div_lt_iff_lt_mul hM];have:10*(R % M)+10<=10*M:=by omega
   omega
 · have e:g+10*R=(g+10*(R % M))+M*(10*(R / M)):=by
    conv=>lhs;rw[←h2]
    rw[Nat.mul_add,←Nat.mul_assoc,←Nat.mul_assoc,Nat.mul_comm M 10];omega
   rw[e,Nat.add_mul_div_left _ _ hM]
 · have e:g+10*R=(g+10*(R % M))+M*(10*(R / M)):=by
    conv=>lhs;rw[←h2]
    rw[Nat.mul_add,←Nat.mul_assoc,←Nat.mul_assoc,Nat.mul_comm M 10];omega
   rw[e,Nat.add_mul_mod_self_left]
theorem Dv {R M d:Nat} (hM:0<M):M*(d+1)<=R↔d<R / M:=by
 rw[Nat.lt_iff_add_one_le,Nat.le_div_iff_mul_le hM,Nat.mul_comm]
theorem ER {a b:Nat} (h:(grp a).length≠(grp b).length):dX a b=if (grp a).length<(grp b).length then -1 else 1:=by
 by_cases h1:(grp a).length<(grp b).length
 · rw[if_pos h1,kK (lS h1)]
 · rw[if_neg h1,kL (lS (by omega))]
theorem J7 {a b:Nat} (hlen:(grp a).length=(grp b).length) (k:Nat) (hk:k<(grp a).length) (hd:(grp a).drop (k+1)=(grp b).drop (k+1)) (hne:bW (grp a) k≠bW (grp b) k):dX a b=if bW (grp a) k<bW (grp b) k then -1 else 1:=by
 have va:=bY a;have vb:=bY b;by_cases h:bW (grp a) k<bW (grp b) k
 · have:=mW (dn a) (dn b) hlen k hk hd h;rw [if_pos h,kK (by omega)]
 · have:=mW (dn b) (dn a) hlen.symm k (by omega) hd.symm (by omega);rw [if_neg h,kL (by omega)]
theorem Ae {a b:Nat} (h:grp a=grp b):dX a b=0:=by
 have va:=bY a;have vb:=bY b;rw [h,vb]at va;have:a=b:=by omega
 subst this;exact nR a
theorem mZ {d:Nat->Int} {n m:Nat} (h:∀i,n<=i->d i=0) (hm:n<=m):dI d m=dI d n:=by
 induction m with
 | zero =>
  have:n=0:=by omega
  subst this;rfl
 | succ m ih =>
  by_cases hn:n=m+1
  · subst hn;rfl
  · rw[dI,h m (by omega),ih (by omega)];simp
end Dx
namespace Go.Proofs.YtelljijajgiabaaGreatDoor
open Go.RowKit Go.Shelf
theorem wI (l:List Int) (A:Option Addr) (cap:Nat) (w:World) (hA:At 1 aO w w.heap.size A l) (hn:l.length<=cap) (hl:l.length<=1000000) :
 Calls Tryz.prog 194 #[.slice A l.length cap] w fun e w'=>e=.returned (.slice A (Ig.bf l).length cap)/\w=w':=by
 go_enter Tryz.func194,Tryz.ntmps194
 go_wp2
 go_loop [0] (fun s=>∃k:Nat,k<=l.length/\s=.slice A k cap/\Hid (Ig.bf (l.take k)=Ig.bf l)) (fun s=>match s with|.slice _ k _=>k|_=>0)
 case atStart=>exact⟨l.length,Nat.le_refl _,rfl,Lib.hid (by rw[List.take_length])⟩
 case round =>
  obtain⟨k,hk,rfl,ht⟩:=hrel;by_cases h0:0<k
  · obtain⟨b,off,rfl,hbB,hcell⟩:=hA (by omega);obtain ⟨k,rfl⟩:∃j,k=j+1:=⟨k-1,by omega⟩
    have hck:l[k]? = some l[k]:=List.getElem?_eq_getElem (by omega)
    have c0:w.cell? ⟨b,off+k,none⟩=some (.int .i64 l[k]):=by
     have:=hcell k _ hck 0 _ rfl;simpa using this
    have hsn:=List.take_succ_eq_append_getElem (show k<l.length by omega);by_cases hz:l[k]=0
    · have t1:(l[k]==0)=true:=by simp[hz]
      have hnext:=Lib.hid (show Ig.bf (l.take k)=Ig.bf l by rw[←ht.out,hsn,hz,Ig.fB]);clear hck hcell hsn hz ht;generalize l[k]=g at *;go_wp2;exact ⟨⟨k,by omega,rfl,hnext⟩,Nat.lt_succ_self k⟩
    · have t1:(l[k]==0)=false:=by simp[hz]
      have hfin:Kp ((Ig.bf l).length=k+1):=⟨by rw[←ht.out,hsn,Ig.jR hz];simp;omega⟩
      clear hck hcell hsn hz ht;generalize l[k]=g at *;go_wp2;go_ret;exact ⟨by rw[hfin.out];rfl,rfl⟩
  · obtain rfl:k=0:=by omega
    have hfin:Kp ((Ig.bf l).length=0):=⟨by rw[←ht.out];rfl⟩
    clear ht;go_wp2;go_ret;exact ⟨by rw[hfin.out];rfl,rfl⟩
theorem P7 (l:List UInt8):∀(acc:ByteArray),(l.map fun c=>((c.toNat:Nat):Int)).foldl (fun r n=>r.push (UInt8.ofNat n.toNat)) acc=⟨acc.data++l.toArray⟩:=by
 induction l with
 | nil=>intro acc;apply ByteArray.ext;simp
 | cons c l ih =>
  intro acc;rw [List.map_cons,List.foldl_cons,ih];apply ByteArray.ext
  simp
theorem H_ (W:World) (g cap:Nat) (l:List UInt8) (h:∀j x,l[j]? = some x->W.cell? ⟨g,j,none⟩=some (.int .u8 x.toNat)) :
 (convert 166 9 (.slice (some ⟨g,0,none⟩) l.length cap)).run Tryz.prog W=.ok (.string ⟨l.toArray⟩) W:=by
 have hl:=run_loadCells_list (P:=Tryz.prog) (w:=W) ⟨g,0,none⟩ (l.map fun c=>Value.int .u8 c.toNat) (fun j v hj=>by
  rw[List.getElem?_map]at hj
  cases hx:l[j]? with
  | none=>rw[hx]at hj;cases hj
  | some x =>
   rw[hx]at hj;simp only[Option.map_some,Option.some.injEq]at hj;rw [Addr.add_lit,Nat.zero_add,←hj]
   exact h j x hx)
 rw[List.length_map]at hl;rw [run_convert_bytes_string W 166 9 5 _ _ _ Tryz.underlying166 Tryz.underlying5 Tryz.underlying9,run_bytesToString W _ _ _ (l.map fun c=>((c.toNat:Nat):Int)) (by rw[hl];simp),P7];simp
theorem MP (neg:Bool) (A:Option Addr) (cap:Nat) (w:World) :
 aW 119 #[.bool neg,.slice A 0 cap] w (.tuple #[.string ⟨#[48]⟩,.bool true]):=by
 go_enter Tryz.func119,Tryz.ntmps119
 go_wp2
 go_ret2
 exact⟨rfl,Below.refl _ _⟩
theorem MO (neg:Bool) (l:List Int) (A:Option Addr) (cap:Nat) (w:World) (hA:At 1 aO w w.heap.size A l) (hn:l.length<=cap) (hl:l.length<=1000000) (h0:0<l.length) (hG:Dx.Gr l) (s:List UInt8) (fits:Bool)
 (hres:Kp ((if neg then [45] else [])++(l.reverse.map fun d=>Ig.dg d.toNat)=s/\decide ((l.length:Int)<=200)=fits)) :
 aW 119 #[.bool neg,.slice A l.length cap] w (.tuple #[.string ⟨s.toArray⟩,.bool fits]):=by
 have t0:decide ((l.length:Int)=0)=false:=decide_eq_false (by omega);have t1:((l.length:Int)==0)=false:=beq_eq_false_iff_ne.2 (by omega);cases neg
 · have hown:=World.ownsRow_nil w w.heap.size 5 1;have hb:=Below.refl w.heap.size w;replace hres:Kp ([]++(l.reverse.map fun d=>Ig.dg d.toNat)=s/\decide ((l.length:Int)<=200)=fits):=hres
   go_enter Tryz.func119,Tryz.ntmps119
   go_wp2_with fail
   go_loopw [6,7] (fun s6 s7 wr=>∃(r:Nat) (o:List UInt8),r<=l.length/\s7=.int .i64 ((r:Int)-1)/\Kp (o=([]:List UInt8)++(l.drop r).reverse.map fun d=>Ig.dg d.toNat)/\o.length+r<=l.length+1/\wr.ownsRow w.heap.size 5 1 s6 o.length (Lib.byteCells o)/\Below w.heap.size w wr) (fun s6 s7 wr=>(intOf s7+1).toNat)
   case atStart=>exact⟨l.length,([]:List UInt8),Nat.le_refl _,rfl,⟨by rw[List.drop_length];simp⟩,by simp;try omega,hown,hb⟩
   case round =>
    clear hown hb;obtain ⟨r,o,hr,rfl,ho,hol,hown,hb⟩:=hrel;by_cases h0:0<r
    · obtain⟨t,rfl⟩:∃t,r=t+1:=⟨r-1,by omega⟩
      have hcast:((t+1:Nat):Int)-1=(t:Int):=by omega
      simp only[hcast];have htl:t<l.length:=by omega
      have hgt:=hG l[t] (List.getElem_mem htl);obtain ⟨b,off,rfl,hbB,hcell⟩:=(hA.below hb) (by omega)
      have hct:wr.cell? ⟨b,off+t,none⟩=some (.int .i64 l[t]):=by
       have:=hcell t _ (List.getElem?_eq_getElem htl) 0 _ rfl;simpa using this
      obtain⟨d,hd⟩:=Int.eq_ofNat_of_zero_le hgt.1
      have hnx:Kp (o++[Ig.dg d]=([]:List UInt8)++(l.drop t).reverse.map fun d=>Ig.dg d.toNat):=⟨by
       rw[ho.out,List.drop_eq_getElem_cons htl,List.reverse_cons,List.map_append,hd,List.map_singleton,Int.toNat_natCast,List.append_assoc]⟩
      have hdg:(Ig.dg d).toNat=48+d:=Ig.qW (by omega);have hd9:d<10:=by omega
      rw[hd]at hct;clear hcell hgt hd ho;have ZX:Kp ((Value.int .u8 ((48:Int)+(d:Int)))=.int .u8 ((Ig.dg d).toNat:Int)):=⟨by rw[hdg];congr 1⟩
      clear hdg;obtain ⟨i0,hi,hz,hs1,hby⟩:=LZ;have hbn:=au wr (.cells #[.int .u8 ((48:Int)+(d:Int))] 5);have hown1:=uV hown hbn
      go_wp2_with (at_builtin;refine wpList_append_own _ rfl (.tmp 22) (.tmp 29) 166 rfl w.heap.size 5 i0 (.int .u8 0) 1 1 Tryz.underlying166 hi hz hs1 hby rfl (by decide) _ _ _ rfl hown1 ⟨wr.heap.size,0,none⟩ 1 1 [.int .u8 ((48:Int)+(d:Int))] rfl rfl ?c1 ?c2 ?c3 ?c4 ?c5 ?_)
      case c1 =>
       intro j u hj
       match j,hj with
       | 0,hj=>simp at hj;subst hj;simp[Addr.add]
      case c2=>intro u hu;simp at hu;subst hu;rfl
      case c3=>unfold maxLen;omega
      case c4=>omega
      case c5=>have:=hbn.size;have:=hb.size;omega
      intro v' w2 hown' hgrow _;have hb':=(aj hb hbn).grown hgrow (by have:=hbn.size;have:=hb.size;omega) (fun k hk=>(hown1.lt k hk).1);have hsz:=hgrow.size
      obtain⟨ao,n',cap,rfl⟩:∃ao n' cap,v'=.slice ao n' cap:=by
       rcases hown'.2 with ⟨hv,_⟩|⟨g,cap,cur,hv,_⟩
       · exact⟨_,_,_,hv⟩
       · exact⟨_,_,_,hv⟩
      rw[ZX.out,show [Value.int .u8 ((Ig.dg d).toNat:Int)]=Lib.byteCells [Ig.dg d] from rfl,←Lib.byteCells_append]at hown';clear ZX hi hz hs1 hby hown hown1 hct hgrow;go_wp2;exact ⟨⟨t,o++[Ig.dg d],by omega,rfl,hnx,by rw[List.length_append,List.length_singleton];omega,by rw[List.length_append];exact hown',hb'⟩,by simp[intOf]⟩
    · obtain rfl:r=0:=by omega
      have hcast:((0:Nat):Int)-1= -1:=rfl;simp only[hcast];rw [List.drop_zero]at ho
      have hon:o≠[]:=by
       have h2:o.length=(([]:List UInt8)).length+l.length:=by rw[ho.out,List.length_append,List.length_map,List.length_reverse]
       intro h;rw [h,List.length_nil]at h2;omega
      obtain⟨g,cap,cur,rfl,-⟩:∃g cap cur,u6=.slice (some ⟨g,0,none⟩) o.length cap/\(cur:Array Value)=cur:=by
       rcases hown.2 with ⟨_,hz⟩|⟨g,cap,cur,hv,_⟩
       · exact absurd (List.length_eq_zero_iff.1 hz) hon
       · exact⟨g,cap,cur,hv,rfl⟩
      have hcv:=H_ wr g cap o (fun j x hx=>by
       have:=hown.cells (g:=g) rfl j (.int .u8 x.toNat) (by simp[Lib.byteCells,hx])
       rwa [Addr.add_lit,Nat.zero_add]at this)
      clear hA hown hon;go_wp2
      go_ret2
      exact⟨by rw[ho.out,hres.out.1,←hres.out.2];rfl,hb⟩
 · replace hres:Kp ([45]++(l.reverse.map fun d=>Ig.dg d.toNat)=s/\decide ((l.length:Int)<=200)=fits):=hres;obtain ⟨i0,hi,hz,hs1,hby⟩:=LZ;have hbn:=au w (.cells #[.int .u8 45] 5);have hown0:=uV (World.ownsRow_nil w w.heap.size 5 1) hbn
   go_enter Tryz.func119,Tryz.ntmps119
   go_wp2_with (at_builtin;refine wpList_append_own _ rfl (.tmp 12) (.tmp 13) 166 rfl w.heap.size 5 i0 (.int .u8 0) 1 1 Tryz.underlying166 hi hz hs1 hby rfl (by decide) _ _ _ rfl hown0 ⟨w.heap.size,0,none⟩ 1 1 [.int .u8 45] rfl rfl ?c1 ?c2 ?c3 ?c4 ?c5 ?_)
   case c1 =>
    intro j u hj
    match j,hj with
    | 0,hj=>simp at hj;subst hj;simp[Addr.add]
   case c2=>intro u hu;simp at hu;subst hu;rfl
   case c3=>unfold maxLen;omega
   case c4=>omega
   case c5=>exact hbn.size
   intro v0 w2 hown hgrow _;have hb:=hbn.grown hgrow hbn.size (fun k hk=>(hown0.lt k hk).1)
   obtain⟨ao,n',cap0,rfl⟩:∃ao n' cap,v0=.slice ao n' cap:=by
    rcases hown.2 with ⟨hv,_⟩|⟨g,cap,cur,hv,_⟩
    · exact⟨_,_,_,hv⟩
    · exact⟨_,_,_,hv⟩
   clear hown0 hgrow hbn hi hz hs1 hby;go_wp2_with fail
   go_loopw [6,7] (fun s6 s7 wr=>∃(r:Nat) (o:List UInt8),r<=l.length/\s7=.int .i64 ((r:Int)-1)/\Kp (o=([45]:List UInt8)++(l.drop r).reverse.map fun d=>Ig.dg d.toNat)/\o.length+r<=l.length+1/\wr.ownsRow w.heap.size 5 1 s6 o.length (Lib.byteCells o)/\Below w.heap.size w wr) (fun s6 s7 wr=>(intOf s7+1).toNat)
   case atStart=>exact⟨l.length,([45]:List UInt8),Nat.le_refl _,rfl,⟨by rw[List.drop_length];simp⟩,by simp;try omega,hown,hb⟩
   case round =>
    clear hown hb;obtain ⟨r,o,hr,rfl,ho,hol,hown,hb⟩:=hrel;by_cases h0:0<r
    · obtain⟨t,rfl⟩:∃t,r=t+1:=⟨r-1,by omega⟩
      have hcast:((t+1:Nat):Int)-1=(t:Int):=by omega
      simp only[hcast];have htl:t<l.length:=by omega
      have hgt:=hG l[t] (List.getElem_mem htl);obtain ⟨b,off,rfl,hbB,hcell⟩:=(hA.below hb) (by omega)
      have hct:wr.cell? ⟨b,off+t,none⟩=some (.int .i64 l[t]):=by
       have:=hcell t _ (List.getElem?_eq_getElem htl) 0 _ rfl;simpa using this
      obtain⟨d,hd⟩:=Int.eq_ofNat_of_zero_le hgt.1
      have hnx:Kp (o++[Ig.dg d]=([45]:List UInt8)++(l.drop t).reverse.map fun d=>Ig.dg d.toNat):=⟨by
       rw[ho.out,List.drop_eq_getElem_cons htl,List.reverse_cons,List.map_append,hd,List.map_singleton,Int.toNat_natCast,List.append_assoc]⟩
      have hdg:(Ig.dg d).toNat=48+d:=Ig.qW (by omega);have hd9:d<10:=by omega
      rw[hd]at hct;clear hcell hgt hd ho;have ZX:Kp ((Value.int .u8 ((48:Int)+(d:Int)))=.int .u8 ((Ig.dg d).toNat:Int)):=⟨by rw[hdg];congr 1⟩
      clear hdg;obtain ⟨i0,hi,hz,hs1,hby⟩:=LZ;have hbn:=au wr (.cells #[.int .u8 ((48:Int)+(d:Int))] 5);have hown1:=uV hown hbn
      go_wp2_with (at_builtin;refine wpList_append_own _ rfl (.tmp 22) (.tmp 29) 166 rfl w.heap.size 5 i0 (.int .u8 0) 1 1 Tryz.underlying166 hi hz hs1 hby rfl (by decide) _ _ _ rfl hown1 ⟨wr.heap.size,0,none⟩ 1 1 [.int .u8 ((48:Int)+(d:Int))] rfl rfl ?c1 ?c2 ?c3 ?c4 ?c5 ?_)
      case c1 =>
       intro j u hj
       match j,hj with
       | 0,hj=>simp at hj;subst hj;simp[Addr.add]
      case c2=>intro u hu;simp at hu;subst hu;rfl
      case c3=>unfold maxLen;omega
      case c4=>omega
      case c5=>have:=hbn.size;have:=hb.size;omega
      intro v' w2 hown' hgrow _;have hb':=(aj hb hbn).grown hgrow (by have:=hbn.size;have:=hb.size;omega) (fun k hk=>(hown1.lt k hk).1);have hsz:=hgrow.size
      obtain⟨ao,n',cap,rfl⟩:∃ao n' cap,v'=.slice ao n' cap:=by
       rcases hown'.2 with ⟨hv,_⟩|⟨g,cap,cur,hv,_⟩
       · exact⟨_,_,_,hv⟩
       · exact⟨_,_,_,hv⟩
      rw[ZX.out,show [Value.int .u8 ((Ig.dg d).toNat:Int)]=Lib.byteCells [Ig.dg d] from rfl,←Lib.byteCells_append]at hown';clear ZX hi hz hs1 hby hown hown1 hct hgrow;go_wp2;exact ⟨⟨t,o++[Ig.dg d],by omega,rfl,hnx,by rw[List.length_append,List.length_singleton];omega,by rw[List.length_append];exact hown',hb'⟩,by simp[intOf]⟩
    · obtain rfl:r=0:=by omega
      have hcast:((0:Nat):Int)-1= -1:=rfl;simp only[hcast];rw [List.drop_zero]at ho
      have hon:o≠[]:=by
       have h2:o.length=(([45]:List UInt8)).length+l.length:=by rw[ho.out,List.length_append,List.length_map,List.length_reverse]
       intro h;rw [h,List.length_nil]at h2;omega
      obtain⟨g,cap,cur,rfl,-⟩:∃g cap cur,u6=.slice (some ⟨g,0,none⟩) o.length cap/\(cur:Array Value)=cur:=by
       rcases hown.2 with ⟨_,hz⟩|⟨g,cap,cur,hv,_⟩
       · exact absurd (List.length_eq_zero_iff.1 hz) hon
       · exact⟨g,cap,cur,hv,rfl⟩
      have hcv:=H_ wr g cap o (fun j x hx=>by
       have:=hown.cells (g:=g) rfl j (.int .u8 x.toNat) (by simp[Lib.byteCells,hx])
       rwa [Addr.add_lit,Nat.zero_add]at this)
      clear hA hown hon;go_wp2
      go_ret2
      exact⟨by rw[ho.out,hres.out.1,←hres.out.2];rfl,hb⟩
theorem rO (neg:Bool) (n:Nat) (A:Option Addr) (cap:Nat) (w:World) (hA:At 1 aO w w.heap.size A (Dx.grp n)) (hn:(Dx.grp n).length<=cap) (hl:(Dx.grp n).length<=1000000) :
 aW 119 #[.bool neg,.slice A (Dx.grp n).length cap] w (.tuple #[.string ⟨(Lib.itoa (dM neg n)).toArray⟩,.bool (decide (Lib.nDigits n<=200))]):=by
 by_cases h0:n=0
 · subst h0;have e:(Dx.grp 0).length=0:=by rw[Dx.aP];rfl
   have e2:Lib.itoa (dM neg 0)=[48]:=by cases neg <;> decide +kernel
   have e3:decide (Lib.nDigits 0<=200)=true:=by decide +kernel
   rw[e,e2,e3];exact MP neg A cap w
 · have hlen:=Dx.YE h0;have hnd:=Ig.JB n;refine MO neg (Dx.grp n) A cap w hA hn hl (by omega) (Dx.dn n) _ _ ⟨?_,by rw[hlen];exact decide_eq_decide.2 (by omega)⟩;rw [←Dx.EN h0];cases neg
   · rw[Ig.itoa_nonneg (by simp[dM]),kG];rfl
   · rw[Ig.itoa_neg (by simp[dM];omega),kG];rfl
structure eH (W:World) (a:Nat) (v:Value):Prop where
 out:∃(A:Option Addr) (cap:Nat),v=.slice A (Dx.grp a).length cap/\At 1 aO W W.heap.size A (Dx.grp a)/\(Dx.grp a).length<=cap/\cap<=maxLen
theorem eH.call {W W':World} {a:Nat} {v:Value} (h:eH W a v) (hb:Below W.heap.size W W'):eH W' a v:=by
 obtain⟨A,cap,h1,h2,h3,h4⟩:=h.out;exact ⟨A,cap,h1,(h2.below hb).more hb.size,h3,h4⟩
theorem Sj {W:World} {A:Option Addr} {out:List Int} {cap a:Nat} (hA:At 1 aO W W.heap.size A out) (hc:out.length<=cap) (hm:cap<=maxLen) (h:Kp (Ig.bf out=Dx.grp a)):eH W a (.slice A (Ig.bf out).length cap):=by
 refine⟨A,cap,by rw[h.out],?_,?_,hm⟩
 · rw[←h.out,←jQ];exact hA.take _
 · rw[←h.out,←jQ,List.length_take];omega
theorem UK {a b:Nat} (hlen:(Dx.grp a).length=(Dx.grp b).length) (k:Nat) (hk:k<(Dx.grp a).length) (hd:∀t,k<t->t<(Dx.grp a).length->Dx.bW (Dx.grp a) t=Dx.bW (Dx.grp b) t) (hne:Dx.bW (Dx.grp a) k≠Dx.bW (Dx.grp b) k):Ig.dX a b=if Dx.bW (Dx.grp a) k<Dx.bW (Dx.grp b) k then -1 else 1:=by
 have h1:(Dx.grp a).drop (k+1)=(Dx.grp b).drop (k+1):=by
  apply List.ext_getElem (by simp[hlen])
  intro i h1 h2;simp only[List.length_drop]at h1 h2;have:=hd (k+1+i) (by omega) (by omega);rw [Dx.dS (by omega),Dx.dS (by omega)]at this;simpa using this
 exact Dx.J7 hlen k hk h1 hne
theorem PV {a b:Nat} (hlen:(Dx.grp a).length=(Dx.grp b).length) (h:∀t,t<(Dx.grp a).length->Dx.bW (Dx.grp a) t=Dx.bW (Dx.grp b) t):Ig.dX a b=0:=by
 refine Dx.Ae (List.ext_getElem hlen fun i h1 h2=>?_);have:=h i h1
 rwa [Dx.dS h1,Dx.dS h2]at this
theorem Iy {W:World} {B:Nat} {b off:Nat} {l:List Int} (hcell:∀i c,l[i]? = some c->∀j u,(aO c)[j]? = some u->W.cell? ⟨b,off+i*1+j,none⟩=some u) (hb:b<W.heap.size) {t:Nat} (ht:t<l.length) :
 ∀d os,(Sort.grow (redrawn W d) os).cell? ⟨b,off+t,none⟩=some (.int .i64 (Dx.bW l t)):=fun d os=>by
 have h1:=hcell t _ (List.getElem?_eq_getElem ht) 0 _ rfl;rw [Dx.dS ht];rw [Nat.mul_one,Nat.add_zero]at h1;exact ((below_regrown W d os).cell (p:=⟨b,off+t,none⟩) hb).trans h1
theorem mF (a b:Nat) (v1 v2:Value) (w:World) (h1:eH w a v1) (h2:eH w b v2) (la:(Dx.grp a).length<=1000000) (lb:(Dx.grp b).length<=1000000) :
 aW 161 #[v1,v2] w (.int .i64 (Ig.dX a b)):=by
 obtain⟨A1,c1,rfl,hA1,hn1,hm1⟩:=h1.out;obtain ⟨A2,c2,rfl,hA2,hn2,hm2⟩:=h2.out;by_cases hlen:(Dx.grp a).length=(Dx.grp b).length
 · have hne:=fun k hk hd hx=>UK hlen k hk hd hx
   have heq:=fun h=>PV hlen h
   generalize Ig.dX a b=ans at *;generalize Dx.grp a=l at *;generalize Dx.grp b=m at *;clear h1 h2;have t0:decide ((l.length:Int)=(m.length:Int))=true:=decide_eq_true (by omega);have t0':((l.length:Int) != (m.length:Int))=false:=by simp;omega
   have hlk:=Kp.mk hlen;clear hlen
   go_enter Tryz.func161,Tryz.ntmps161
   go_wp2_with fail;clear t0 t0'
   go_loopw [5] (fun s5 wr=>∃r:Nat,r<=l.length/\s5=.int .i64 ((r:Int)-1)/\Kp (∀t,r<=t->t<l.length->Dx.bW l t=Dx.bW m t)/\Below w.heap.size w wr) (fun s5 wr=>(intOf s5+1).toNat)
   case atStart=>exact⟨l.length,Nat.le_refl _,rfl,⟨fun t h3 h4=>by omega⟩,Below.refl _ _⟩
   case round =>
    obtain⟨r,hr,rfl,hall,hb⟩:=hrel;by_cases h0:0<r
    · obtain⟨t,rfl⟩:∃t,r=t+1:=⟨r-1,by omega⟩
      have hcast:((t+1:Nat):Int)-1=(t:Int):=by omega
      simp only[hcast];have htl:t<l.length:=by omega
      have htm:t<m.length:=by have:=hlk.out;omega
      obtain⟨b1,o1,rfl,hb1,hc1⟩:=(hA1.below hb) (by omega)
      obtain⟨b2,o2,rfl,hb2,hc2⟩:=(hA2.below hb) (by omega)
      have k1:=Iy (B:=w.heap.size) hc1 (Nat.lt_of_lt_of_le hb1 hb.size) htl;have k2:=Iy (B:=w.heap.size) hc2 (Nat.lt_of_lt_of_le hb2 hb.size) htm;have hres:=hne t htl (fun u h3 h4=>hall.out u (by omega) h4)
      have hnext:Dx.bW l t=Dx.bW m t->Kp (∀u,t<=u->u<l.length->Dx.bW l u=Dx.bW m u):=fun he=>⟨fun u h3 h4=>by
       rcases (show u=t∨t+1<=u by omega) with h|h
       · subst h;exact he
       · exact hall.out u h h4⟩
      clear hc1 hc2 hall hne heq;generalize Dx.bW l t=x at *;generalize Dx.bW m t=y at *;by_cases hxy:x=y
      · have hn:=hnext hxy;have tx:decide (x=y)=true:=decide_eq_true hxy;have tx':(x != y)=false:=by simp[hxy]
        clear hres hnext hxy;go_wp2;refine wp_region_quiet_below (by kernel_rfl) (by kernel_rfl) ?_
        repeat (go_big_quiet_step (first|fail))
        refine wpQuiet_nil ?_;rintro _ ⟨z,rfl⟩;have hbz:=gu hb z.d z.os;clear k1 k2;generalize Sort.grow (redrawn wr z.d) z.os=W2 at *;go_wp2;exact ⟨⟨t,by omega,rfl,hn,hbz⟩,by simp[intOf]⟩
      · have hres2:=Kp.mk (hres hxy);have tx:decide (x=y)=false:=decide_eq_false hxy;have tx':(x != y)=true:=by simp[hxy]
        clear hres hnext hxy;go_wp2;refine wp_region_quiet_below (by kernel_rfl) (by kernel_rfl) ?_
        repeat (go_big_quiet_step (first|fail))
        refine wpQuiet_nil ?_;rintro _ ⟨z,rfl⟩;have hbz:=gu hb z.d z.os;have k1':=fun d os=>((below_regrown (Sort.grow (redrawn wr z.d) z.os) d os).cell (p:=⟨b1,o1+t,none⟩) (Nat.lt_of_lt_of_le hb1 hbz.size)).trans (k1 z.d z.os)
        have k2':=fun d os=>((below_regrown (Sort.grow (redrawn wr z.d) z.os) d os).cell (p:=⟨b2,o2+t,none⟩) (Nat.lt_of_lt_of_le hb2 hbz.size)).trans (k2 z.d z.os)
        clear k1 k2;generalize Sort.grow (redrawn wr z.d) z.os=W2 at *;by_cases hlt:x<y
        · have ty:decide (x<y)=true:=decide_eq_true hlt;rw [if_pos hlt]at hres2;clear hlt;go_wp2;refine wp_region_quiet_below (by kernel_rfl) (by kernel_rfl) ?_
          repeat (go_big_quiet_step (first|fail))
          refine wpQuiet_nil ?_;rintro _ ⟨z2,rfl⟩;have Yt:=gu hbz z2.d z2.os;clear k1' k2';generalize Sort.grow (redrawn W2 z2.d) z2.os=W3 at *;go_wp2;go_ret;exact ⟨by rw[hres2.out];rfl,Yt⟩
        · have ty:decide (x<y)=false:=decide_eq_false hlt;rw [if_neg hlt]at hres2;clear hlt;go_wp2;refine wp_region_quiet_below (by kernel_rfl) (by kernel_rfl) ?_
          repeat (go_big_quiet_step (first|fail))
          refine wpQuiet_nil ?_;rintro _ ⟨z2,rfl⟩;have Yt:=gu hbz z2.d z2.os;clear k1' k2';generalize Sort.grow (redrawn W2 z2.d) z2.os=W3 at *;go_wp2;go_ret;exact ⟨by rw[hres2.out];rfl,Yt⟩
    · obtain rfl:r=0:=by omega
      have hcast:((0:Nat):Int)-1= -1:=rfl;simp only[hcast];have hz:=Kp.mk (heq fun t ht=>hall.out t (by omega) ht);clear hall hne heq;go_wp2;go_ret;exact ⟨by rw[hz.out];rfl,hb⟩
 · have hc:=Kp.mk (Dx.ER hlen);generalize (Dx.grp a).length=n1 at *;generalize (Dx.grp b).length=n2 at *;have t0:decide ((n1:Int)=(n2:Int))=false:=decide_eq_false (by omega);have t0':((n1:Int) != (n2:Int))=true:=by simp;omega
   by_cases hlt:n1<n2
   · rw[if_pos hlt]at hc;have t1:decide (n1<n2)=true:=decide_eq_true (by omega);clear hlen hlt
     go_enter Tryz.func161,Tryz.ntmps161
     go_wp2;go_ret;exact ⟨by rw[hc.out];rfl,Below.refl _ _⟩
   · rw[if_neg hlt]at hc;have t1:decide (n1<n2)=false:=decide_eq_false (by omega);clear hlen hlt
     go_enter Tryz.func161,Tryz.ntmps161
     go_wp2;go_ret;exact ⟨by rw[hc.out];rfl,Below.refl _ _⟩
end Go.Proofs.YtelljijajgiabaaGreatDoor
namespace Dx
theorem NP {out:List Int} {v:Nat} (hG:Gr out) (hv:aT out=v) (hl:out=[]∨10 ^ (out.length-1)<=v):out=grp v:=by
 have h:=w_ (l:=out) hG ?_
 · rw[hv,Int.toNat_natCast]at h;exact h
 · rcases hl with rfl|hl
   · simp
   · intro hlast
     rcases Ig.mD out with rfl|⟨m,g,rfl⟩
     · simp at hlast
     · obtain rfl:g=0:=by simpa using hlast
       have h1:=nN (l:=m) (fun x hx=>hG x (by simp[hx]));rw [dF]at hv;simp [aT]at hv
       rw[List.length_append,List.length_singleton,Nat.add_sub_cancel]at hl;have e:(10:Int) ^ m.length=((10 ^ m.length:Nat):Int):=by simp
       omega
theorem Rz {a n:Nat} (h:n+1<=(grp a).length):10 ^ n<=a:=by
 rcases Nat.lt_or_ge a (10 ^ n) with h1|h1
 · have:=fG h1;omega
 · exact h1
theorem Vp {d:Nat->Int} {i:Nat} {out:List Int} {carry:Int} (h:gG d i out carry) (hc:0<carry) {v:Nat} (hv:dI d i=v):10 ^ i<=v:=by
 have h1:=fU h.gr;have h2:=h.eq;have e:(10:Int) ^ i=((10 ^ i:Nat):Int):=by simp
 have h3:(10:Int) ^ i*1<=10 ^ i*carry:=Int.mul_le_mul_of_nonneg_left (by omega) (Int.le_of_lt (Int.pow_pos (by decide)));omega
end Dx
namespace Go.Proofs.YtelljijajgiabaaGreatDoor
open Go.RowKit Go.Shelf
theorem PY (a b:Nat) {n:Nat} (ha:(Dx.grp a).length<=n) (hb:(Dx.grp b).length<=n):Dx.dI (fun i=>Dx.bW (Dx.grp a) i+Dx.bW (Dx.grp b) i) n=((a+b:Nat):Int):=by
 rw[Dx.zW,Dx.oH ha,Dx.oH hb,Dx.bY,Dx.bY];omega
theorem wJ (a b:Nat) (v1 v2:Value) (w:World) (h1:eH w a v1) (h2:eH w b v2) (la:(Dx.grp a).length<=100000) (lb:(Dx.grp b).length<=100000) :
 Calls Tryz.prog 165 #[v1,v2] w fun e w'=>∃v,e=.returned v/\eH w' (a+b) v/\Below w.heap.size w w':=by
 obtain⟨A1,c1,rfl,hA1,hn1,hm1⟩:=h1.out;obtain ⟨A2,c2,rfl,hA2,hn2,hm2⟩:=h2.out;obtain ⟨n,hn⟩:=jH (max (Dx.grp a).length (Dx.grp b).length);have hna:(Dx.grp a).length<=n:=by rw[←hn.out];omega
 have hnb:(Dx.grp b).length<=n:=by rw[←hn.out];omega
 have hor:n=(Dx.grp a).length∨n=(Dx.grp b).length:=by rw[←hn.out];omega
 have hsum:=fun i (hi:n<=i)=>PY a b (Nat.le_trans hna hi) (Nat.le_trans hnb hi)
 have hbig:Kp (∀k,n=k+1->10 ^ k<=a+b):=⟨fun k hk=>by
  rcases hor with h|h
  · have:=Dx.Rz (a:=a) (n:=k) (by omega);omega
  · have:=Dx.Rz (a:=b) (n:=k) (by omega);omega⟩
 have ga:=Dx.dn a;have gb:=Dx.dn b;have hans:=fun {l:List Int} (hG:Dx.Gr l) (hv:Dx.aT l=((a+b:Nat):Int)) hl=>Dx.NP hG hv hl
 have hfg:=fun {i:Nat} {l:List Int} {c:Int} (hi:n<=i) (h:Dx.gG (fun i=>Dx.bW (Dx.grp a) i+Dx.bW (Dx.grp b) i) i l c) (hc:0<c)=>Dx.Vp h hc (hsum i hi)
 have hlk:Kp (∀l:List Int,l=Dx.grp (a+b)->l.length=(Dx.grp (a+b)).length):=⟨fun l h=>by rw[h]⟩
 generalize hla:Dx.grp a=l at *;generalize hlb:Dx.grp b=m at *;clear hla hlb h1 h2 hn;have rZ:n<=100000:=by omega
 have kU:=World.ownsRow_nil w w.heap.size 3 1
 go_enter Tryz.func165,Tryz.ntmps165
 go_wp2_with fail
 go_loopw [5,6,7,8] (fun s5 s6 s7 s8 wr=>∃(i:Nat) (carry:Int) (o:List Int),s7=.int .i64 i/\s6=.int .i64 carry/\0<=carry/\carry<=1/\i<=n+1/\(i=n+1->carry=0)/\Kp (i=n+1->10 ^ n<=a+b)/\o.length<=i/\Kp (Dx.gG (fun i=>Dx.bW l i+Dx.bW m i) i o carry)/\wr.ownsRow w.heap.size 3 1 s5 o.length (o.flatMap aO)/\Below w.heap.size w wr) (fun s5 s6 s7 s8 wr=>n+2-(intOf s7).toNat)
 case atStart=>exact⟨0,0,[],rfl,rfl,by omega,by omega,by omega,by omega,⟨fun h=>by omega⟩,Nat.le_refl _,⟨Dx.jX _⟩,kU,Below.refl _ _⟩
 case round =>
  clear kU;obtain ⟨i,carry,o,rfl,rfl,hc0,hc1,hin,hce,hcb,hol,hf,hown,hb⟩:=hrel;by_cases hstop:n<=i/\carry=0
  · obtain⟨hni,rfl⟩:=hstop
    have hout:Kp (o=Dx.grp (a+b)):=⟨by
     refine hans hf.out.gr ?_ ?_
     · have h3:=hf.out.eq;rw [Int.mul_zero,Int.add_zero,hsum i hni]at h3;exact h3
     · have h4:=hf.out.len;by_cases h0:i=0
       · exact .inl (List.length_eq_zero_iff.1 (by omega))
       · refine .inr ?_
         rcases (show i=n∨i=n+1 by omega) with h5|h5
         · have:=hbig.out (n-1) (by omega);rw [h4,h5];exact this
         · have:=hcb.out h5
           rw[h4,h5,Nat.add_sub_cancel];exact this⟩
    have t0:decide (i<l.length)=false:=decide_eq_false (by omega);have t1:decide (i<m.length)=false:=decide_eq_false (by omega);obtain ⟨A,cap,rfl,hA,hcap,hcm,-⟩:=wO hown;clear hown hans hfg hsum hbig hcb hf;go_wp2;go_ret;exact ⟨_,rfl,⟨A,cap,by rw[←hout.out];rfl,by rw[←hout.out];exact hA,by rw[←hout.out];exact hcap,hcm⟩,hb⟩
  · have hx:=Dx.fK ga i;have hy:=Dx.fK gb i;have hnext:=Kp.mk (Dx.lW hf.out)
    have hgt:Kp (i=n->10 ^ n<=a+b):=⟨fun h=>by
     have:=hfg (i:=i) (by omega) hf.out (by omega)
     rw[←h];exact this⟩
    have hxz:l.length<=i->Dx.bW l i=0:=fun h=>Dx.jF h
    have hyz:m.length<=i->Dx.bW m i=0:=fun h=>Dx.jF h
    have hin':i<=n:=by omega
    have hcn:i=n->carry=1:=fun h=>by omega
    have q1:∀_:i<l.length,∃b1 o1,A1=some ⟨b1,o1,none⟩/\wr.cell? ⟨b1,o1+i,none⟩=some (.int .i64 (Dx.bW l i)):=fun h=>by
     obtain⟨b1,o1,e,hb1,hcc⟩:=(hA1.below hb) (by omega)
     have:=hcc i _ (List.getElem?_eq_getElem h) 0 _ rfl;exact ⟨b1,o1,e,by rw[Dx.dS h];simpa using this⟩
    have q2:∀_:i<m.length,∃b1 o1,A2=some ⟨b1,o1,none⟩/\wr.cell? ⟨b1,o1+i,none⟩=some (.int .i64 (Dx.bW m i)):=fun h=>by
     obtain⟨b1,o1,e,hb1,hcc⟩:=(hA2.below hb) (by omega)
     have:=hcc i _ (List.getElem?_eq_getElem h) 0 _ rfl;exact ⟨b1,o1,e,by rw[Dx.dS h];simpa using this⟩
    obtain⟨i0,z0,hi,hz,hs1,hz1,hby⟩:=wV;clear hf hans hfg hsum hbig hcb;generalize Dx.bW l i=x at *;generalize Dx.bW m i=y at *;by_cases hl:i<l.length
    · by_cases hm:i<m.length
      · have lu:=trivial;obtain ⟨b1,o1,rfl,k1⟩:=q1 hl;have t0:decide (i<l.length)=true:=decide_eq_true hl;obtain ⟨b2,o2,rfl,k2⟩:=q2 hm;have t1:decide (i<m.length)=true:=decide_eq_true hm;have hbn:=au wr (.cells #[.int .i64 ((carry+x+y) % 10)] 3);have hown1:=dG hown hbn;clear q1 q2 hxz hyz hA1 hA2
        go_wp2_with (at_builtin;refine wpList_append_own _ rfl (.tmp 46) (.tmp 49) 25 rfl w.heap.size 3 i0 z0 1 8 Tryz.underlying25 hi hz hs1 hby hz1 (by decide) _ _ _ rfl hown1 ⟨wr.heap.size,0,none⟩ 1 1 [.int .i64 ((carry+x+y) % 10)] rfl rfl ?c1 ?c2 ?c3 ?c4 ?c5 ?_)
        case c1 =>
         intro j u hj
         match j,hj with
         | 0,hj=>simp at hj;subst hj;simp[Addr.add]
        case c2=>intro u hu;simp at hu;subst hu;rfl
        case c3=>unfold maxLen;omega
        case c4=>omega
        case c5=>have:=hbn.size;have:=hb.size;omega
        intro v' w2 hown' hgrow _;have hb':=(aj hb hbn).grown hgrow (by have:=hbn.size;have:=hb.size;omega) (fun k hk=>(hown1.lt k hk).1);clear hown1 hown hi hz hs1 hz1 hby hgrow;go_wp2;refine ⟨⟨i+1,(carry+x+y) / 10,o++[(carry+x+y) % 10],by go_num,by first|rfl|(congr 1),by omega,by omega,by omega,by omega,⟨fun h=>hgt.out (by omega)⟩,by rw[List.length_append,List.length_singleton];omega,⟨?_⟩,?_,hb'⟩,by simp[intOf];omega⟩
        · have h7:=hnext.out
          first
           | exact h7
           | (rw [show x+y+carry=carry+x+y by omega]at h7;exact h7)
        · rw[List.length_append,List.length_singleton,List.flatMap_append];exact hown'
      · have lu:=trivial;obtain ⟨b1,o1,rfl,k1⟩:=q1 hl;have t0:decide (i<l.length)=true:=decide_eq_true hl;obtain rfl:=hyz (by omega);have t1:decide (i<m.length)=false:=decide_eq_false hm;have hbn:=au wr (.cells #[.int .i64 ((carry+x) % 10)] 3);have hown1:=dG hown hbn;clear q1 q2 hxz hyz hA1 hA2
        go_wp2_with (at_builtin;refine wpList_append_own _ rfl (.tmp 46) (.tmp 49) 25 rfl w.heap.size 3 i0 z0 1 8 Tryz.underlying25 hi hz hs1 hby hz1 (by decide) _ _ _ rfl hown1 ⟨wr.heap.size,0,none⟩ 1 1 [.int .i64 ((carry+x) % 10)] rfl rfl ?c1 ?c2 ?c3 ?c4 ?c5 ?_)
        case c1 =>
         intro j u hj
         match j,hj with
         | 0,hj=>simp at hj;subst hj;simp[Addr.add]
        case c2=>intro u hu;simp at hu;subst hu;rfl
        case c3=>unfold maxLen;omega
        case c4=>omega
        case c5=>have:=hbn.size;have:=hb.size;omega
        intro v' w2 hown' hgrow _;have hb':=(aj hb hbn).grown hgrow (by have:=hbn.size;have:=hb.size;omega) (fun k hk=>(hown1.lt k hk).1);clear hown1 hown hi hz hs1 hz1 hby hgrow;go_wp2;refine ⟨⟨i+1,(carry+x) / 10,o++[(carry+x) % 10],by go_num,by first|rfl|(congr 1),by omega,by omega,by omega,by omega,⟨fun h=>hgt.out (by omega)⟩,by rw[List.length_append,List.length_singleton];omega,⟨?_⟩,?_,hb'⟩,by simp[intOf];omega⟩
        · have h7:=hnext.out
          first
           | exact h7
           | (rw [show x+0+carry=carry+x by omega]at h7;exact h7)
        · rw[List.length_append,List.length_singleton,List.flatMap_append];exact hown'
    · by_cases hm:i<m.length
      · have lu:=trivial;obtain rfl:=hxz (by omega);have t0:decide (i<l.length)=false:=decide_eq_false hl;obtain ⟨b2,o2,rfl,k2⟩:=q2 hm;have t1:decide (i<m.length)=true:=decide_eq_true hm;have hbn:=au wr (.cells #[.int .i64 ((carry+y) % 10)] 3);have hown1:=dG hown hbn;clear q1 q2 hxz hyz hA1 hA2
        go_wp2_with (at_builtin;refine wpList_append_own _ rfl (.tmp 46) (.tmp 49) 25 rfl w.heap.size 3 i0 z0 1 8 Tryz.underlying25 hi hz hs1 hby hz1 (by decide) _ _ _ rfl hown1 ⟨wr.heap.size,0,none⟩ 1 1 [.int .i64 ((carry+y) % 10)] rfl rfl ?c1 ?c2 ?c3 ?c4 ?c5 ?_)
        case c1 =>
         intro j u hj
         match j,hj with
         | 0,hj=>simp at hj;subst hj;simp[Addr.add]
        case c2=>intro u hu;simp at hu;subst hu;rfl
        case c3=>unfold maxLen;omega
        case c4=>omega
        case c5=>have:=hbn.size;have:=hb.size;omega
        intro v' w2 hown' hgrow _;have hb':=(aj hb hbn).grown hgrow (by have:=hbn.size;have:=hb.size;omega) (fun k hk=>(hown1.lt k hk).1);clear hown1 hown hi hz hs1 hz1 hby hgrow;go_wp2;refine ⟨⟨i+1,(carry+y) / 10,o++[(carry+y) % 10],by go_num,by first|rfl|(congr 1),by omega,by omega,by omega,by omega,⟨fun h=>hgt.out (by omega)⟩,by rw[List.length_append,List.length_singleton];omega,⟨?_⟩,?_,hb'⟩,by simp[intOf];omega⟩
        · have h7:=hnext.out
          first
           | exact h7
           | (rw [show 0+y+carry=carry+y by omega]at h7;exact h7)
        · rw[List.length_append,List.length_singleton,List.flatMap_append];exact hown'
      · have lu:=trivial;obtain rfl:=hxz (by omega);have t0:decide (i<l.length)=false:=decide_eq_false hl;obtain rfl:=hyz (by omega);have t1:decide (i<m.length)=false:=decide_eq_false hm;obtain rfl:carry=1:=hcn (by omega);have hbn:=au wr (.cells #[.int .i64 (1)] 3);have hown1:=dG hown hbn;clear q1 q2 hxz hyz hA1 hA2
        go_wp2_with (at_builtin;refine wpList_append_own _ rfl (.tmp 46) (.tmp 49) 25 rfl w.heap.size 3 i0 z0 1 8 Tryz.underlying25 hi hz hs1 hby hz1 (by decide) _ _ _ rfl hown1 ⟨wr.heap.size,0,none⟩ 1 1 [.int .i64 (1)] rfl rfl ?c1 ?c2 ?c3 ?c4 ?c5 ?_)
        case c2=>rfl
        case c3=>unfold maxLen;omega
        case c4=>omega
        case c5=>have:=hbn.size;have:=hb.size;omega
        intro v' w2 hown' hgrow _;have hb':=(aj hb hbn).grown hgrow (by have:=hbn.size;have:=hb.size;omega) (fun k hk=>(hown1.lt k hk).1);clear hown1 hown hi hz hs1 hz1 hby hgrow;go_wp2;refine ⟨⟨i+1,(1) / 10,o++[(1) % 10],by go_num,by first|rfl|(congr 1),by omega,by omega,by omega,by omega,⟨fun h=>hgt.out (by omega)⟩,by rw[List.length_append,List.length_singleton];omega,⟨?_⟩,?_,hb'⟩,by simp[intOf];omega⟩
        · have h7:=hnext.out
          first
           | exact h7
           | (rw [show 0+0+1=1 by omega]at h7;exact h7)
        · rw[List.length_append,List.length_singleton,List.flatMap_append];exact hown'
theorem lI {a b:Nat} (h:b<=a):(Dx.grp b).length<=(Dx.grp a).length:=Dx.fG (Nat.lt_of_le_of_lt h (Dx.iZ a))
structure FrI (B:Nat) (v:Value):Prop where
 out:∀b off n c,v=.slice (some ⟨b,off,none⟩) n c->B<=b
theorem eH.far {W:World} {a B:Nat} {v:Value} (h:eH W a v) (hF:FrI B v) {p:Addr} (hp:p.block<B) (u:Value):eH (W.setCell p u) a v:=by
 obtain⟨A,cap,rfl,hA,h3,h4⟩:=h.out;refine ⟨A,cap,rfl,fun h0=>?_,h3,h4⟩;obtain ⟨b,off,rfl,hb,hc⟩:=hA h0;have hB:=hF.out b off _ _ rfl;exact ⟨b,off,rfl,Nat.lt_of_lt_of_le hb (KeepsOthers.setCell W _ u).size,fun i c hi j v hj=>(ni (Below.heap_setCell W p u b (by omega))).trans (hc i c hi j v hj)⟩
theorem uO (a b:Nat) (v1 v2:Value) (w:World) (h1:eH w a v1) (h2:eH w b v2) (hba:b<=a) (la:(Dx.grp a).length<=100000) :
 Calls Tryz.prog 166 #[v1,v2] w fun e w'=>∃v,e=.returned v/\eH w' (a-b) v/\Below w.heap.size w w'/\FrI w.heap.size v:=by
 obtain⟨A1,c1,rfl,hA1,hn1,hm1⟩:=h1.out;obtain ⟨A2,c2,rfl,hA2,hn2,hm2⟩:=h2.out;have hlb:=lI hba
 have hsum:Dx.dI (fun i=>Dx.bW (Dx.grp a) i-Dx.bW (Dx.grp b) i) (Dx.grp a).length=((a-b:Nat):Int):=by
  rw[Dx.zV,Dx.oH (Nat.le_refl _),Dx.oH hlb,Dx.bY,Dx.bY];omega
 have ga:=Dx.dn a;have gb:=Dx.dn b;generalize Dx.grp a=l at *;generalize Dx.grp b=m at *;clear h1 h2
 have hend:∀o c,Dx.gG (fun i=>Dx.bW l i-Dx.bW m i) l.length o c->c<=0->Kp (Ig.bf o=Dx.grp (a-b)):=fun o c h hc=>⟨by
  have h0:=Dx.mX h (by rw[hsum];omega);obtain rfl:c=0:=by omega
  have:=Dx.qU h;rw [hsum,Int.toNat_natCast]at this
  exact this⟩
 clear hsum;have kU:=World.ownsRow_nil w w.heap.size 3 1
 go_enter Tryz.func166,Tryz.ntmps166
 go_wp2_with fail
 go_loopw [5,6,7,8] (fun s5 s6 s7 s8 wr=>∃(i:Nat) (Xb:Int) (o:List Int),s7=.int .i64 i/\s6=.int .i64 Xb/\0<=Xb/\Xb<=1/\i<=l.length/\o.length<=i/\Kp (Dx.gG (fun i=>Dx.bW l i-Dx.bW m i) i o (-Xb))/\wr.ownsRow w.heap.size 3 1 s5 o.length (o.flatMap aO)/\Below w.heap.size w wr) (fun s5 s6 s7 s8 wr=>l.length-(intOf s7).toNat)
 case atStart=>exact⟨0,0,[],rfl,rfl,by omega,by omega,by omega,Nat.le_refl _,⟨Dx.jX _⟩,kU,Below.refl _ _⟩
 case round =>
  clear kU;obtain ⟨i,Xb,o,rfl,rfl,hc0,hc1,hin,hol,hf,hown,hb⟩:=hrel;by_cases hl:i<l.length
  · have hx:=Dx.fK ga i;have hy:=Dx.fK gb i;have hnext:=Kp.mk (Dx.lW hf.out);have hyz:m.length<=i->Dx.bW m i=0:=fun h=>Dx.jF h
    obtain⟨b1,o1,rfl,hb1,hcc⟩:=(hA1.below hb) (by omega)
    have k1:wr.cell? ⟨b1,o1+i,none⟩=some (.int .i64 (Dx.bW l i)):=by
     have:=hcc i _ (List.getElem?_eq_getElem hl) 0 _ rfl;rw [Dx.dS hl];simpa using this
    have q2:∀_:i<m.length,∃b1 o1,A2=some ⟨b1,o1,none⟩/\wr.cell? ⟨b1,o1+i,none⟩=some (.int .i64 (Dx.bW m i)):=fun h=>by
     obtain⟨b1,o1,e,hb1,hcc⟩:=(hA2.below hb) (by omega)
     have:=hcc i _ (List.getElem?_eq_getElem h) 0 _ rfl;exact ⟨b1,o1,e,by rw[Dx.dS h];simpa using this⟩
    have t0:decide (i<l.length)=true:=decide_eq_true hl;obtain ⟨i0,z0,hi,hz,hs1,hz1,hby⟩:=wV;clear hf hend hcc;generalize Dx.bW l i=x at *;generalize Dx.bW m i=y at *
    rcases (show Xb=0∨Xb=1 by omega) with rfl|rfl
    · by_cases hm:i<m.length
      · by_cases hneg:x-y<0
        · have lu:=trivial;obtain ⟨b2,o2,rfl,k2⟩:=q2 hm;have t1:decide (i<m.length)=true:=decide_eq_true hm;have t2:decide (x-y<0)=true:=decide_eq_true hneg;have hbn:=au wr (.cells #[.int .i64 (x-y+10)] 3);have hown1:=dG hown hbn;clear q2 hyz hA1 hA2
          go_wp2_with (at_builtin;refine wpList_append_own _ rfl (.tmp 35) (.tmp 37) 25 rfl w.heap.size 3 i0 z0 1 8 Tryz.underlying25 hi hz hs1 hby hz1 (by decide) _ _ _ rfl hown1 ⟨wr.heap.size,0,none⟩ 1 1 [.int .i64 (x-y+10)] rfl rfl ?_ ?_ ?_ ?_ ?_ ?_)
          all_goals first
           | (intro j u hj;rcases j with _|j <;> simp at hj <;> subst hj <;> simp[Addr.add])
           | (intro u hu;simp at hu;subst hu;rfl)
           | rfl
           | (unfold maxLen;omega)
           | omega
           | (have:=hbn.size;have:=hb.size;omega)
           | skip
          intro v' w2 hown' hgrow _;have hb':=(aj hb hbn).grown hgrow (by have:=hbn.size;have:=hb.size;omega) (fun k hk=>(hown1.lt k hk).1);clear hown1 hown hi hz hs1 hz1 hby hgrow;go_wp2;refine ⟨⟨i+1,1,o++[x-y+10],by go_num,by first|rfl|(congr 1),by omega,by omega,by omega,by rw[List.length_append,List.length_singleton];omega,⟨?_⟩,?_,hb'⟩,by simp[intOf];omega⟩
          · have h7:=hnext.out;rw [show (x-y+ -0) % 10=x-y+10 by omega,show (x-y+ -0) / 10= -1 by omega]at h7;exact h7
          · rw[List.length_append,List.length_singleton,List.flatMap_append];exact hown'
        · have lu:=trivial;obtain ⟨b2,o2,rfl,k2⟩:=q2 hm;have t1:decide (i<m.length)=true:=decide_eq_true hm;have t2:decide (x-y<0)=false:=decide_eq_false hneg;have hbn:=au wr (.cells #[.int .i64 (x-y)] 3);have hown1:=dG hown hbn;clear q2 hyz hA1 hA2
          go_wp2_with (at_builtin;refine wpList_append_own _ rfl (.tmp 35) (.tmp 37) 25 rfl w.heap.size 3 i0 z0 1 8 Tryz.underlying25 hi hz hs1 hby hz1 (by decide) _ _ _ rfl hown1 ⟨wr.heap.size,0,none⟩ 1 1 [.int .i64 (x-y)] rfl rfl ?_ ?_ ?_ ?_ ?_ ?_)
          all_goals first
           | (intro j u hj;rcases j with _|j <;> simp at hj <;> subst hj <;> simp[Addr.add])
           | (intro u hu;simp at hu;subst hu;rfl)
           | rfl
           | (unfold maxLen;omega)
           | omega
           | (have:=hbn.size;have:=hb.size;omega)
           | skip
          intro v' w2 hown' hgrow _;have hb':=(aj hb hbn).grown hgrow (by have:=hbn.size;have:=hb.size;omega) (fun k hk=>(hown1.lt k hk).1);clear hown1 hown hi hz hs1 hz1 hby hgrow;go_wp2;refine ⟨⟨i+1,0,o++[x-y],by go_num,by first|rfl|(congr 1),by omega,by omega,by omega,by rw[List.length_append,List.length_singleton];omega,⟨?_⟩,?_,hb'⟩,by simp[intOf];omega⟩
          · have h7:=hnext.out;rw [show (x-y+ -0) % 10=x-y by omega,show (x-y+ -0) / 10=0 by omega]at h7;exact h7
          · rw[List.length_append,List.length_singleton,List.flatMap_append];exact hown'
      · by_cases hneg:x<0
        · exfalso;omega
        · have lu:=trivial;obtain rfl:=hyz (by omega);have t1:decide (i<m.length)=false:=decide_eq_false hm;have t2:decide (x<0)=false:=decide_eq_false hneg;have hbn:=au wr (.cells #[.int .i64 (x)] 3);have hown1:=dG hown hbn;clear q2 hyz hA1 hA2
          go_wp2_with (at_builtin;refine wpList_append_own _ rfl (.tmp 35) (.tmp 37) 25 rfl w.heap.size 3 i0 z0 1 8 Tryz.underlying25 hi hz hs1 hby hz1 (by decide) _ _ _ rfl hown1 ⟨wr.heap.size,0,none⟩ 1 1 [.int .i64 (x)] rfl rfl ?_ ?_ ?_ ?_ ?_ ?_)
          all_goals first
           | (intro j u hj;rcases j with _|j <;> simp at hj <;> subst hj <;> simp[Addr.add])
           | (intro u hu;simp at hu;subst hu;rfl)
           | rfl
           | (unfold maxLen;omega)
           | omega
           | (have:=hbn.size;have:=hb.size;omega)
           | skip
          intro v' w2 hown' hgrow _;have hb':=(aj hb hbn).grown hgrow (by have:=hbn.size;have:=hb.size;omega) (fun k hk=>(hown1.lt k hk).1);clear hown1 hown hi hz hs1 hz1 hby hgrow;go_wp2;refine ⟨⟨i+1,0,o++[x],by go_num,by first|rfl|(congr 1),by omega,by omega,by omega,by rw[List.length_append,List.length_singleton];omega,⟨?_⟩,?_,hb'⟩,by simp[intOf];omega⟩
          · have h7:=hnext.out;rw [show (x-0+ -0) % 10=x by omega,show (x-0+ -0) / 10=0 by omega]at h7;exact h7
          · rw[List.length_append,List.length_singleton,List.flatMap_append];exact hown'
    · by_cases hm:i<m.length
      · by_cases hneg:x-1-y<0
        · have lu:=trivial;obtain ⟨b2,o2,rfl,k2⟩:=q2 hm;have t1:decide (i<m.length)=true:=decide_eq_true hm;have t2:decide (x-1-y<0)=true:=decide_eq_true hneg;have hbn:=au wr (.cells #[.int .i64 (x-1-y+10)] 3);have hown1:=dG hown hbn;clear q2 hyz hA1 hA2
          go_wp2_with (at_builtin;refine wpList_append_own _ rfl (.tmp 35) (.tmp 37) 25 rfl w.heap.size 3 i0 z0 1 8 Tryz.underlying25 hi hz hs1 hby hz1 (by decide) _ _ _ rfl hown1 ⟨wr.heap.size,0,none⟩ 1 1 [.int .i64 (x-1-y+10)] rfl rfl ?_ ?_ ?_ ?_ ?_ ?_)
          all_goals first
           | (intro j u hj;rcases j with _|j <;> simp at hj <;> subst hj <;> simp[Addr.add])
           | (intro u hu;simp at hu;subst hu;rfl)
           | rfl
           | (unfold maxLen;omega)
           | omega
           | (have:=hbn.size;have:=hb.size;omega)
           | skip
          intro v' w2 hown' hgrow _;have hb':=(aj hb hbn).grown hgrow (by have:=hbn.size;have:=hb.size;omega) (fun k hk=>(hown1.lt k hk).1);clear hown1 hown hi hz hs1 hz1 hby hgrow;go_wp2;refine ⟨⟨i+1,1,o++[x-1-y+10],by go_num,by first|rfl|(congr 1),by omega,by omega,by omega,by rw[List.length_append,List.length_singleton];omega,⟨?_⟩,?_,hb'⟩,by simp[intOf];omega⟩
          · have h7:=hnext.out;rw [show (x-y+ -1) % 10=x-1-y+10 by omega,show (x-y+ -1) / 10= -1 by omega]at h7;exact h7
          · rw[List.length_append,List.length_singleton,List.flatMap_append];exact hown'
        · have lu:=trivial;obtain ⟨b2,o2,rfl,k2⟩:=q2 hm;have t1:decide (i<m.length)=true:=decide_eq_true hm;have t2:decide (x-1-y<0)=false:=decide_eq_false hneg;have hbn:=au wr (.cells #[.int .i64 (x-1-y)] 3);have hown1:=dG hown hbn;clear q2 hyz hA1 hA2
          go_wp2_with (at_builtin;refine wpList_append_own _ rfl (.tmp 35) (.tmp 37) 25 rfl w.heap.size 3 i0 z0 1 8 Tryz.underlying25 hi hz hs1 hby hz1 (by decide) _ _ _ rfl hown1 ⟨wr.heap.size,0,none⟩ 1 1 [.int .i64 (x-1-y)] rfl rfl ?_ ?_ ?_ ?_ ?_ ?_)
          all_goals first
           | (intro j u hj;rcases j with _|j <;> simp at hj <;> subst hj <;> simp[Addr.add])
           | (intro u hu;simp at hu;subst hu;rfl)
           | rfl
           | (unfold maxLen;omega)
           | omega
           | (have:=hbn.size;have:=hb.size;omega)
           | skip
          intro v' w2 hown' hgrow _;have hb':=(aj hb hbn).grown hgrow (by have:=hbn.size;have:=hb.size;omega) (fun k hk=>(hown1.lt k hk).1);clear hown1 hown hi hz hs1 hz1 hby hgrow;go_wp2;refine ⟨⟨i+1,0,o++[x-1-y],by go_num,by first|rfl|(congr 1),by omega,by omega,by omega,by rw[List.length_append,List.length_singleton];omega,⟨?_⟩,?_,hb'⟩,by simp[intOf];omega⟩
          · have h7:=hnext.out;rw [show (x-y+ -1) % 10=x-1-y by omega,show (x-y+ -1) / 10=0 by omega]at h7;exact h7
          · rw[List.length_append,List.length_singleton,List.flatMap_append];exact hown'
      · by_cases hneg:x-1<0
        · have lu:=trivial;obtain rfl:=hyz (by omega);have t1:decide (i<m.length)=false:=decide_eq_false hm;have t2:decide (x-1<0)=true:=decide_eq_true hneg;have hbn:=au wr (.cells #[.int .i64 (x-1+10)] 3);have hown1:=dG hown hbn;clear q2 hyz hA1 hA2
          go_wp2_with (at_builtin;refine wpList_append_own _ rfl (.tmp 35) (.tmp 37) 25 rfl w.heap.size 3 i0 z0 1 8 Tryz.underlying25 hi hz hs1 hby hz1 (by decide) _ _ _ rfl hown1 ⟨wr.heap.size,0,none⟩ 1 1 [.int .i64 (x-1+10)] rfl rfl ?_ ?_ ?_ ?_ ?_ ?_)
          all_goals first
           | (intro j u hj;rcases j with _|j <;> simp at hj <;> subst hj <;> simp[Addr.add])
           | (intro u hu;simp at hu;subst hu;rfl)
           | rfl
           | (unfold maxLen;omega)
           | omega
           | (have:=hbn.size;have:=hb.size;omega)
           | skip
          intro v' w2 hown' hgrow _;have hb':=(aj hb hbn).grown hgrow (by have:=hbn.size;have:=hb.size;omega) (fun k hk=>(hown1.lt k hk).1);clear hown1 hown hi hz hs1 hz1 hby hgrow;go_wp2;refine ⟨⟨i+1,1,o++[x-1+10],by go_num,by first|rfl|(congr 1),by omega,by omega,by omega,by rw[List.length_append,List.length_singleton];omega,⟨?_⟩,?_,hb'⟩,by simp[intOf];omega⟩
          · have h7:=hnext.out;rw [show (x-0+ -1) % 10=x-1+10 by omega,show (x-0+ -1) / 10= -1 by omega]at h7;exact h7
          · rw[List.length_append,List.length_singleton,List.flatMap_append];exact hown'
        · have lu:=trivial;obtain rfl:=hyz (by omega);have t1:decide (i<m.length)=false:=decide_eq_false hm;have t2:decide (x-1<0)=false:=decide_eq_false hneg;have hbn:=au wr (.cells #[.int .i64 (x-1)] 3);have hown1:=dG hown hbn;clear q2 hyz hA1 hA2
          go_wp2_with (at_builtin;refine wpList_append_own _ rfl (.tmp 35) (.tmp 37) 25 rfl w.heap.size 3 i0 z0 1 8 Tryz.underlying25 hi hz hs1 hby hz1 (by decide) _ _ _ rfl hown1 ⟨wr.heap.size,0,none⟩ 1 1 [.int .i64 (x-1)] rfl rfl ?_ ?_ ?_ ?_ ?_ ?_)
          all_goals first
           | (intro j u hj;rcases j with _|j <;> simp at hj <;> subst hj <;> simp[Addr.add])
           | (intro u hu;simp at hu;subst hu;rfl)
           | rfl
           | (unfold maxLen;omega)
           | omega
           | (have:=hbn.size;have:=hb.size;omega)
           | skip
          intro v' w2 hown' hgrow _;have hb':=(aj hb hbn).grown hgrow (by have:=hbn.size;have:=hb.size;omega) (fun k hk=>(hown1.lt k hk).1);clear hown1 hown hi hz hs1 hz1 hby hgrow;go_wp2;refine ⟨⟨i+1,0,o++[x-1],by go_num,by first|rfl|(congr 1),by omega,by omega,by omega,by rw[List.length_append,List.length_singleton];omega,⟨?_⟩,?_,hb'⟩,by simp[intOf];omega⟩
          · have h7:=hnext.out;rw [show (x-0+ -1) % 10=x-1 by omega,show (x-0+ -1) / 10=0 by omega]at h7;exact h7
          · rw[List.length_append,List.length_singleton,List.flatMap_append];exact hown'
  · obtain rfl:i=l.length:=by omega
    have hfin:=hend o (-Xb) hf.out (by omega);have t0:decide (l.length<l.length)=false:=decide_eq_false hl;obtain ⟨A,cap,rfl,hA,hcap,hcm,hfr⟩:=wO hown;have hT:=wI o A cap wr hA hcap (by omega);have hN:=Sj hA hcap hcm hfin;have hF:FrI w.heap.size (.slice A (Ig.bf o).length cap):=⟨fun b off n c h=>hfr b off (by simp only[Value.slice.injEq]at h;exact h.1)⟩
    clear hfr;clear hown hend hf hA hfin;generalize (Ig.bf o).length=n6 at *;go_wp2_with fail;refine hT.mono ?_;rintro _ _ ⟨rfl,rfl⟩;clear hT;go_wp2;go_ret;exact ⟨_,rfl,hN,hb,hF⟩
theorem mG (a b:Nat) (v1 v2:Value) (w:World) (h1:eH w a v1) (h2:eH w b v2) (hba:b<=a) (la:(Dx.grp a).length<=100000) :
 Calls Tryz.prog 166 #[v1,v2] w fun e w'=>∃v,e=.returned v/\eH w' (a-b) v/\Below w.heap.size w w' :=
 (uO a b v1 v2 w h1 h2 hba la).mono fun _ _ ⟨v,e,h,hb,_⟩=>⟨v,e,h,hb⟩
def D8 (d:List UInt8) (r:Nat):List Int:=(d.drop r).reverse.map fun c=>(c.toNat:Int)-48
theorem CS {d:List UInt8} {r:Nat} (h:r<d.length):D8 d r=D8 d (r+1)++[(d[r].toNat:Int)-48]:=by
 unfold D8
 rw[List.drop_eq_getElem_cons h,List.reverse_cons,List.map_append,List.map_singleton]
theorem Gh (d:List UInt8):D8 d d.length=[]:=by simp[D8]
theorem Gi {n:Nat} (h:n≠0):D8 (Lib.decDigits n) 0=Dx.grp n:=by
 unfold D8
 rw[List.drop_zero,Dx.EN h,←List.map_reverse,List.reverse_reverse,List.map_map]
 conv=>rhs;rw[←List.map_id (Dx.grp n)]
 refine List.map_congr_left fun g hg=>?_
 have:=Dx.dn n g hg
 show ((Ig.dg g.toNat).toNat:Int)-48=g
 rw[Ig.qW (by omega)];omega
theorem H9 {n:Nat} {r:Nat} (h:r<(Lib.decDigits n).length):48<=((Lib.decDigits n)[r]).toNat/\((Lib.decDigits n)[r]).toNat<=57:=by
 have:=List.all_eq_true.1 (Ig.pR n) _ (List.getElem_mem h);simpa [Ig.xR] using this
theorem H8 {n:Nat} (h:n≠0):Lib.decDigits n≠[48]:=fun e=>by
 have:=Ig.Eh n;rw [e]at this;exact h this.symm
theorem Si {W:World} {B n:Nat} {v:Value} {o:List Int} (h:W.ownsRow B 3 1 v o.length (o.flatMap aO)) (ho:o=Dx.grp n):eH W n v:=by
 subst ho;obtain ⟨A,cap,rfl,hA,hc,hm,-⟩:=wO h;exact ⟨A,cap,rfl,hA,hc,hm⟩
theorem Gg (z:Int) (n:Nat) (s:List UInt8) (w:World) (hz0:z<0) (hs:s=45 :: Lib.decDigits n) (hn:n≠0) (hlen:0<(Lib.decDigits n).length/\(Lib.decDigits n).length<=1000000) :
 Calls Tryz.prog 160 #[.string ⟨s.toArray⟩] w fun e w'=>∃v,e=.returned (.tuple #[.bool (decide (z<0)),v])/\eH w' n v/\Below w.heap.size w w':=by
 obtain⟨d,hd⟩:=jH (Lib.decDigits n);have hby:=fun r (h:r<(Lib.decDigits n).length)=>H9 h
 have hend:=Kp.mk (Gi hn);have hne:=Kp.mk (H8 hn);rw [hd.out]at hs hby hend hne hlen;have hz:=Kp.mk hn;clear hd hn;have hzn:decide (z<0)=true:=decide_eq_true hz0;subst hs;have kU:=World.ownsRow_nil w w.heap.size 3 1
 go_enter Tryz.func160,Tryz.ntmps160
 go_wp2_with fail
 go_loopw [5,6] (fun s5 s6 wr=>∃(r:Nat) (o:List Int),r<=d.length/\s6=.int .i64 ((r:Int)-1)/\Kp (o=D8 d r)/\Kp (o.length=d.length-r)/\wr.ownsRow w.heap.size 3 1 s5 o.length (o.flatMap aO)/\Below w.heap.size w wr) (fun s5 s6 wr=>(intOf s6+1).toNat)
 case atStart=>exact⟨d.length,[],Nat.le_refl _,by go_num,⟨(Gh _).symm⟩,⟨by simp⟩,kU,Below.refl _ _⟩
 case round =>
  clear kU;obtain ⟨r,o,hr,rfl,ho,hol,hown,hb⟩:=hrel
  cases r with
  | zero =>
   rw[show (((0:Nat):Int)-1)= -1 from rfl];have hfin:=Si hown (ho.out.trans hend.out);clear hown ho hend hby;go_wp2
   go_ret2
   exact⟨_,by rw[hzn];rfl,hfin,hb⟩
  | succ r =>
   rw[show (((r+1:Nat):Int)-1)=(r:Int) by omega];have hrl:r<d.length:=by omega
   have hx:=hby r hrl;have hst:=Kp.mk (CS hrl);have q1:(d==[48])=false:=by simpa using hne.out
   have q2:(d != [48])=true:=by simpa using hne.out
   have Ey:=hol.out;have hol3:o.length<=1000000:=by omega
   clear Ey;obtain ⟨i0,z0,hi,hz2,hs1,hz1,wX⟩:=wV;clear hend hby;generalize hxx:d[r].toNat=x at *;have hbn:=au wr (.cells #[.int .i64 ((x:Int)-48)] 3);have hown1:=dG hown hbn
   go_wp2_with (at_builtin;refine wpList_append_own _ rfl (.tmp 24) (.tmp 30) 25 rfl w.heap.size 3 i0 z0 1 8 Tryz.underlying25 hi hz2 hs1 wX hz1 (by decide) _ _ _ rfl hown1 ⟨wr.heap.size,0,none⟩ 1 1 [.int .i64 ((x:Int)-48)] rfl rfl ?_ ?_ ?_ ?_ ?_ ?_)
   all_goals first
    | (intro j u hj;rcases j with _|j <;> simp at hj <;> subst hj <;> simp[Addr.add])
    | (intro u hu;simp at hu;subst hu;rfl)
    | rfl
    | (unfold maxLen;omega)
    | omega
    | (have:=hbn.size;have:=hb.size;omega)
    | skip
   intro v' w2 hown' hgrow _;have hb':=(aj hb hbn).grown hgrow (by have:=hbn.size;have:=hb.size;omega) (fun k hk=>(hown1.lt k hk).1);clear hown1 hown hi hz2 hs1 hz1 wX hgrow;go_wp2;refine ⟨⟨r,o++[(x:Int)-48],by omega,by go_num,⟨?_⟩,⟨?_⟩,?_,hb'⟩,by simp[intOf]⟩
   · rw[hst.out,ho.out]
   · rw[List.length_append,List.length_singleton,hol.out];omega
   · rw[List.length_append,List.length_singleton,List.flatMap_append];exact hown'
theorem Gf (z:Int) (n:Nat) (s:List UInt8) (w:World) (hz0:¬z<0) (hs:s=Lib.decDigits n) (hn:n≠0) (hlen:0<(Lib.decDigits n).length/\(Lib.decDigits n).length<=1000000) :
 Calls Tryz.prog 160 #[.string ⟨s.toArray⟩] w fun e w'=>∃v,e=.returned (.tuple #[.bool (decide (z<0)),v])/\eH w' n v/\Below w.heap.size w w':=by
 obtain⟨d,hd⟩:=jH (Lib.decDigits n);have hby:=fun r (h:r<(Lib.decDigits n).length)=>H9 h
 have hend:=Kp.mk (Gi hn);have hne:=Kp.mk (H8 hn);rw [hd.out]at hs hby hend hne hlen;have hz:=Kp.mk hn;clear hd hn;have hzn:decide (z<0)=false:=decide_eq_false hz0;obtain rfl:=hs;have hpos:0<s.length:=by omega
 have hnm:¬s[0].toNat=45:=fun h=>by have:=(hby 0 hpos).1;omega
 have t9:decide (((s[0].toNat:Nat):Int)=45)=false:=decide_eq_false (by omega);have t9':(((s[0].toNat:Nat):Int)==45)=false:=by simp;omega
 have kU:=World.ownsRow_nil w w.heap.size 3 1
 go_enter Tryz.func160,Tryz.ntmps160
 go_wp2_with fail
 go_loopw [5,6] (fun s5 s6 wr=>∃(r:Nat) (o:List Int),r<=s.length/\s6=.int .i64 ((r:Int)-1)/\Kp (o=D8 s r)/\Kp (o.length=s.length-r)/\wr.ownsRow w.heap.size 3 1 s5 o.length (o.flatMap aO)/\Below w.heap.size w wr) (fun s5 s6 wr=>(intOf s6+1).toNat)
 case atStart=>exact⟨s.length,[],Nat.le_refl _,by go_num,⟨(Gh _).symm⟩,⟨by simp⟩,kU,Below.refl _ _⟩
 case round =>
  clear kU;obtain ⟨r,o,hr,rfl,ho,hol,hown,hb⟩:=hrel
  cases r with
  | zero =>
   rw[show (((0:Nat):Int)-1)= -1 from rfl];have hfin:=Si hown (ho.out.trans hend.out);clear hown ho hend hby;go_wp2
   go_ret2
   exact⟨_,by rw[hzn];rfl,hfin,hb⟩
  | succ r =>
   rw[show (((r+1:Nat):Int)-1)=(r:Int) by omega];have hrl:r<s.length:=by omega
   have hx:=hby r hrl;have hst:=Kp.mk (CS hrl);have q1:(s==[48])=false:=by simpa using hne.out
   have q2:(s != [48])=true:=by simpa using hne.out
   have Ey:=hol.out;have hol3:o.length<=1000000:=by omega
   clear Ey;obtain ⟨i0,z0,hi,hz2,hs1,hz1,wX⟩:=wV;clear hend hby;generalize hxx:s[r].toNat=x at *;have hbn:=au wr (.cells #[.int .i64 ((x:Int)-48)] 3);have hown1:=dG hown hbn
   go_wp2_with (at_builtin;refine wpList_append_own _ rfl (.tmp 24) (.tmp 30) 25 rfl w.heap.size 3 i0 z0 1 8 Tryz.underlying25 hi hz2 hs1 wX hz1 (by decide) _ _ _ rfl hown1 ⟨wr.heap.size,0,none⟩ 1 1 [.int .i64 ((x:Int)-48)] rfl rfl ?_ ?_ ?_ ?_ ?_ ?_)
   all_goals first
    | (intro j u hj;rcases j with _|j <;> simp at hj <;> subst hj <;> simp[Addr.add])
    | (intro u hu;simp at hu;subst hu;rfl)
    | rfl
    | (unfold maxLen;omega)
    | omega
    | (have:=hbn.size;have:=hb.size;omega)
    | skip
   intro v' w2 hown' hgrow _;have hb':=(aj hb hbn).grown hgrow (by have:=hbn.size;have:=hb.size;omega) (fun k hk=>(hown1.lt k hk).1);clear hown1 hown hi hz2 hs1 hz1 wX hgrow;go_wp2;refine ⟨⟨r,o++[(x:Int)-48],by omega,by go_num,⟨?_⟩,⟨?_⟩,?_,hb'⟩,by simp[intOf]⟩
   · rw[hst.out,ho.out]
   · rw[List.length_append,List.length_singleton,hol.out];omega
   · rw[List.length_append,List.length_singleton,List.flatMap_append];exact hown'
theorem D7 (w:World):Calls Tryz.prog 160 #[.string ⟨#[48]⟩] w fun e w'=>∃v,e=.returned (.tuple #[.bool false,v])/\eH w' 0 v/\Below w.heap.size w w':=by
 have hfin:∀wr:World,eH wr 0 (.slice none 0 0):=fun wr=>⟨none,0,by rw[Dx.aP];rfl,by rw[Dx.aP];exact At.nil,by rw[Dx.aP];exact Nat.le_refl _,Nat.zero_le _⟩
 go_enter Tryz.func160,Tryz.ntmps160
 go_wp2_with fail
 go_loopw [5,6] (fun s5 s6 wr=>s5=.slice none 0 0/\s6=.int .i64 0/\wr=w) (fun s5 s6 wr=>0)
 case atStart=>exact⟨rfl,rfl,rfl⟩
 case round =>
  obtain⟨rfl,rfl,rfl⟩:=hrel;go_wp2
  go_ret2
  exact⟨_,rfl,hfin _,Below.refl _ _⟩
theorem fQ (z:Int) (w:World) (hz:(Lib.decDigits z.natAbs).length<=1000000) :
 Calls Tryz.prog 160 #[.string ⟨(Lib.itoa z).toArray⟩] w fun e w'=>∃v,e=.returned (.tuple #[.bool (decide (z<0)),v])/\eH w' z.natAbs v/\Below w.heap.size w w':=by
 have hpos:0<(Lib.decDigits z.natAbs).length:=by
  have:=Ig.Aa z.natAbs
  cases h:Lib.decDigits z.natAbs with
  | nil=>exact absurd h this
  | cons a l=>simp
 by_cases h0:z=0
 · subst h0;have e:Lib.itoa 0=[48]:=by rw[Ig.itoa_nonneg (by decide),show Int.natAbs 0=0 from rfl,Ig.dW (by decide)];rfl
   have e2:decide ((0:Int)<0)=false:=rfl;rw [e,e2];exact D7 w
 · by_cases hn:z<0
   · exact Gg z z.natAbs _ w hn (Ig.itoa_neg hn) (by omega) ⟨hpos,hz⟩
   · exact Gf z z.natAbs _ w hn (Ig.itoa_nonneg (by omega)) (by omega) ⟨hpos,hz⟩
end Go.Proofs.YtelljijajgiabaaGreatDoor

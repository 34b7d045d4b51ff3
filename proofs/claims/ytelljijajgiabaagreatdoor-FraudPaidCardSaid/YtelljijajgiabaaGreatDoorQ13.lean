import Derived.Test.YtelljijajgiabaaGreatDoorQ08
set_option linter.unusedVariables false
set_option linter.unusedSimpArgs false
set_option maxRecDepth 100000
set_option maxHeartbeats 8000000
namespace Dx
def gval:List Int->Int
 | []=>0
 | g :: l=>g+10*gval l
def Gr (l:List Int):Prop:=∀g∈l,0<=g/\g<10
def grp (n:Nat):List Int:=if h:n=0 then [] else ((n % 10:Nat):Int) :: grp (n / 10)
 termination_by n
 decreasing_by omega
theorem grp_zero:grp 0=[]:=by rw[grp,dif_pos rfl]
theorem grp_pos {n:Nat} (h:n≠0):grp n=((n % 10:Nat):Int) :: grp (n / 10):=by rw[grp,dif_neg h]
theorem gval_grp (n:Nat):gval (grp n)=n:=by
 induction n using Nat.strongRecOn with
 | _ n ih =>
  by_cases h:n=0
  · subst h;rw[grp_zero];rfl
  · rw[grp_pos h,gval,ih (n / 10) (by omega)];omega
theorem gr_grp (n:Nat):Gr (grp n):=by
 induction n using Nat.strongRecOn with
 | _ n ih =>
  by_cases h:n=0
  · subst h;rw[grp_zero];intro g hg;cases hg
  · rw[grp_pos h];intro g hg
    rcases List.mem_cons.1 hg with rfl|hg
    · omega
    · exact ih (n / 10) (by omega) g hg
theorem grp_nil {n:Nat}:grp n=[]↔n=0:=by
 constructor
 · intro h;by_cases h0:n=0
   · exact h0
   · rw[grp_pos h0]at h;cases h
 · rintro rfl;exact grp_zero
theorem gval_nonneg {l:List Int} (h:Gr l):0<=gval l:=by
 induction l with
 | nil=>exact Int.le_refl _
 | cons g l ih =>
  have h1:=h g (by simp);have h2:=ih (fun x hx=>h x (by simp[hx]))
  unfold gval;omega
theorem gval_append (a b:List Int):gval (a++b)=gval a+10 ^ a.length*gval b:=by
 induction a with
 | nil=>simp[gval]
 | cons g a ih =>
  rw[List.cons_append,gval,ih,gval,List.length_cons,Int.pow_succ];rw [Int.mul_add,←Int.mul_assoc,Int.mul_comm 10 (10 ^ a.length)];omega
theorem gval_lt {l:List Int} (h:Gr l):gval l<10 ^ l.length:=by
 induction l with
 | nil=>decide
 | cons g l ih =>
  have h1:=h g (by simp);have h2:=ih (fun x hx=>h x (by simp[hx]));rw [gval,List.length_cons,Int.pow_succ];omega
theorem grp_of:∀ {l:List Int},Gr l->l.getLast? ≠ some 0->l=grp (gval l).toNat
 | [],_,_=>by rw[gval];exact grp_zero.symm
 | g :: l,h,ht=>by
  have h1:=h g (by simp);have h2:Gr l:=fun x hx=>h x (by simp[hx])
  have h3:=gval_nonneg h2
  have ht2:l.getLast? ≠ some 0:=by
   cases l with
   | nil=>simp
   | cons a l=>simpa [List.getLast?_cons_cons] using ht
  have ih:=grp_of h2 ht2
  have hne:(gval (g :: l)).toNat≠0:=by
   rw[gval];intro h0;have hl0:gval l=0:=by omega
   rw[hl0]at ih;rw [show (0:Int).toNat=0 from rfl,grp_zero]at ih;subst ih;have hg:g=0:=by omega
   subst hg;simp at ht
  rw[grp_pos hne];have e1:((gval (g :: l)).toNat / 10)=(gval l).toNat:=by rw[gval];omega
  have e2:(((gval (g :: l)).toNat % 10:Nat):Int)=g:=by rw[gval];omega
  rw[e1,e2,←ih]
def trimG (l:List Int):List Int:=(l.reverse.dropWhile (·==0)).reverse
theorem trimG_snoc_zero (l:List Int):trimG (l++[0])=trimG l:=by simp[trimG]
theorem trimG_snoc {l:List Int} {g:Int} (h:g≠0):trimG (l++[g])=l++[g]:=by simp[trimG,h]
theorem snoc_cases (l:List Int):l=[]∨∃m g,l=m++[g]:=by
 rcases List.eq_nil_or_concat l with h|⟨m,g,h⟩
 · exact .inl h
 · exact .inr ⟨m,g,by simpa using h⟩
theorem trimG_grp:∀(n:Nat) {l:List Int},l.length=n->Gr l->trimG l=grp (gval l).toNat
 | 0,l,hn,_=>by
  obtain rfl:l=[]:=List.length_eq_zero_iff.1 hn;exact grp_zero.symm
 | n+1,l,hn,h=>by
  rcases snoc_cases l with rfl|⟨m,g,rfl⟩
  · simp at hn
  · have hm:Gr m:=fun x hx=>h x (by simp[hx])
    by_cases hg:g=0
    · subst hg;rw [trimG_snoc_zero,trimG_grp n (by simpa using hn) hm,gval_append];simp [gval]
    · rw[trimG_snoc hg];exact grp_of h (by simp[hg])
theorem trimG_of {l:List Int} (h:Gr l):trimG l=grp (gval l).toNat:=trimG_grp _ rfl h
theorem grp_getLast (n:Nat):(grp n).getLast? ≠ some 0:=by
 induction n using Nat.strongRecOn with
 | _ n ih =>
  by_cases h:n=0
  · subst h;rw[grp_zero];simp
  · rw[grp_pos h]
    cases hl:grp (n / 10) with
    | nil =>
     have h0:=grp_nil.1 hl;simp;omega
    | cons a l =>
     rw[List.getLast?_cons_cons,←hl];exact ih (n / 10) (by omega)
theorem grp_len {n k:Nat} (h:n<10 ^ k):(grp n).length<=k:=by
 induction k generalizing n with
 | zero =>
  have:n=0:=by simpa using h
  subst this;rw[grp_zero];simp
 | succ k ih =>
  by_cases h0:n=0
  · subst h0;rw[grp_zero];simp
  · rw[grp_pos h0,List.length_cons]
    have:n / 10<10 ^ k:=by
     rw[Nat.pow_succ]at h;exact Nat.div_lt_of_lt_mul (by rw[Nat.mul_comm];exact h)
    have:=ih this;omega
theorem grp_lt (n:Nat):n<10 ^ (grp n).length:=by
 have h1:=gval_lt (gr_grp n);rw [gval_grp]at h1;have h2:((10 ^ (grp n).length:Nat):Int)=(10:Int) ^ (grp n).length:=by simp
 omega
theorem trim_same (l:List Int):trimG l=Ig.trimG l:=rfl
theorem grp_small {n:Nat} (h0:n≠0) (h:n<10):grp n=[(n:Int)]:=by rw[grp_pos h0,show n / 10=0 by omega,grp_zero,Nat.mod_eq_of_lt h]
theorem dec_grp {n:Nat} (h:n≠0):Go.Lib.decDigits n=(grp n).reverse.map fun d=>Ig.dg d.toNat:=by
 induction n using Nat.strongRecOn with
 | _ n ih =>
  by_cases h1:n<10
  · rw[Ig.dec_small h1,grp_small h h1];simp
  · rw[Ig.dec_big h1,ih (n / 10) (by omega) (by omega),grp_pos h,List.reverse_cons,List.map_append];rw [List.map_singleton,Int.toNat_natCast]
theorem grp_nd {n:Nat} (h:n≠0):(grp n).length=Go.Lib.nDigits n:=by
 rw[←Ig.dec_len,dec_grp h];simp
theorem grp_nil_len {n:Nat}:(grp n).length=0↔n=0:=by rw[List.length_eq_zero_iff,grp_nil]
end Dx
namespace Dx
open Ig (cmpI cmpI_lt cmpI_eq cmpI_gt)
def atG (l:List Int) (i:Nat):Int:=l[i]?.getD 0
theorem atG_lt {l:List Int} {i:Nat} (h:i<l.length):atG l i=l[i]:=by simp[atG,h]
theorem atG_ge {l:List Int} {i:Nat} (h:l.length<=i):atG l i=0:=by simp[atG,h]
theorem gval_at (l:List Int) (k:Nat):gval (l.take (k+1))=gval (l.take k)+10 ^ k*atG l k:=by
 by_cases h:k<l.length
 · rw[List.take_succ_eq_append_getElem h,gval_append,atG_lt h];simp [gval,Nat.min_eq_left (Nat.le_of_lt h)]
 · rw[List.take_of_length_le (by omega),List.take_of_length_le (by omega),atG_ge (by omega)];simp
def dsum (d:Nat->Int):Nat->Int
 | 0=>0
 | n+1=>dsum d n+10 ^ n*d n
structure FoldAt (d:Nat->Int) (i:Nat) (out:List Int) (carry:Int):Prop where
 len:out.length=i
 gr:Gr out
 eq:gval out+10 ^ i*carry=dsum d i
theorem fold_start (d:Nat->Int):FoldAt d 0 [] 0:=⟨rfl,(fun g h=>by cases h),by simp[gval,dsum]⟩
theorem fold_step {d:Nat->Int} {i:Nat} {out:List Int} {carry:Int} (h:FoldAt d i out carry):FoldAt d (i+1) (out++[(d i+carry) % 10]) ((d i+carry) / 10):=by
 refine⟨by simp[h.len],fun g hg=>?_,?_⟩
 · rcases List.mem_append.1 hg with hg|hg
   · exact h.gr g hg
   · obtain rfl:g=(d i+carry) % 10:=by simpa using hg
     omega
 · rw[gval_append,h.len,dsum,←h.eq,Int.pow_succ];have e:(d i+carry) % 10+10*((d i+carry) / 10)=d i+carry:=by omega
   simp only[gval];rw [Int.mul_zero,Int.add_zero,Int.mul_assoc,Int.add_assoc,←Int.mul_add,e,Int.mul_add];omega
theorem fold_carry {d:Nat->Int} {i:Nat} {out:List Int} {carry:Int} (h:FoldAt d i out carry) (h0:0<=dsum d i):0<=carry:=by
 have h1:=gval_lt h.gr;rw [h.len]at h1;have h2:=h.eq
 rcases Int.lt_or_le carry 0 with hc|hc
 · have h3:(10:Int) ^ i*carry<=10 ^ i*(-1):=Int.mul_le_mul_of_nonneg_left (by omega) (Int.le_of_lt (Int.pow_pos (by decide)));omega
 · exact hc
theorem fold_end {d:Nat->Int} {i:Nat} {out:List Int} (h:FoldAt d i out 0):trimG out=grp (dsum d i).toNat:=by
 rw[trimG_of h.gr];have:=h.eq;rw [Int.mul_zero,Int.add_zero]at this;rw [this]
theorem dsum_add (a b:Nat->Int) (n:Nat):dsum (fun i=>a i+b i) n=dsum a n+dsum b n:=by
 induction n with
 | zero=>rfl
 | succ n ih=>simp only[dsum,ih,Int.mul_add];omega
theorem dsum_sub (a b:Nat->Int) (n:Nat):dsum (fun i=>a i-b i) n=dsum a n-dsum b n:=by
 induction n with
 | zero=>rfl
 | succ n ih=>simp only[dsum,ih,Int.mul_sub];omega
theorem dsum_mul (a:Nat->Int) (c:Int) (n:Nat):dsum (fun i=>a i*c) n=dsum a n*c:=by
 induction n with
 | zero=>simp[dsum]
 | succ n ih=>simp only[dsum,ih,Int.add_mul,Int.mul_assoc]
theorem dsum_at (l:List Int) (n:Nat):dsum (atG l) n=gval (l.take n):=by
 induction n with
 | zero=>rfl
 | succ n ih=>rw[dsum,ih,gval_at]
theorem dsum_all {l:List Int} {n:Nat} (h:l.length<=n):dsum (atG l) n=gval l:=by rw[dsum_at,List.take_of_length_le h]
theorem atG_in {l:List Int} (h:Gr l) (i:Nat):0<=atG l i/\atG l i<10:=by
 by_cases hi:i<l.length
 · rw[atG_lt hi];exact h _ (List.getElem_mem hi)
 · rw[atG_ge (by omega)];omega
theorem len_order {a b:Nat} (h:(grp a).length<(grp b).length):a<b:=by
 rcases Nat.lt_or_ge a b with h1|h1
 · exact h1
 · have h2:=grp_lt a;have:b<10 ^ (grp a).length:=by omega
   have:=grp_len this;omega
theorem gval_order {l m:List Int} (hl:Gr l) (hm:Gr m) (hlen:l.length=m.length) (k:Nat) (hk:k<l.length) (hd:l.drop (k+1)=m.drop (k+1)) (hlt:atG l k<atG m k):gval l<gval m:=by
 have e:∀ {x:List Int} (hx:k<x.length),x=x.take k++(atG x k :: x.drop (k+1)):=fun {x} hx=>by
  rw[atG_lt hx,←List.drop_eq_getElem_cons hx,List.take_append_drop]
 rw[e hk,e (show k<m.length by omega),gval_append,gval_append,gval,gval,hd];have h1:=gval_lt (l:=l.take k) (fun g hg=>hl g (List.mem_of_mem_take hg));have h2:=gval_nonneg (l:=m.take k) (fun g hg=>hm g (List.mem_of_mem_take hg));have e1:(l.take k).length=k:=by simp;omega
 have e2:(m.take k).length=k:=by simp;omega
 rw[e1]at h1;rw [e1,e2]
 have h3:(10:Int) ^ k*(atG l k+10*gval (m.drop (k+1)))+10 ^ k<=10 ^ k*(atG m k+10*gval (m.drop (k+1))):=by
  have:(10:Int) ^ k*(atG l k+10*gval (m.drop (k+1)))+10 ^ k=10 ^ k*(atG l k+10*gval (m.drop (k+1))+1):=by rw[Int.mul_add (10 ^ k) (_+_) 1,Int.mul_one]
  rw[this];exact Int.mul_le_mul_of_nonneg_left (by omega) (Int.le_of_lt (Int.pow_pos (by decide)))
 omega
theorem grp_shift {v:Nat} (h:v≠0):(0:Int) :: grp v=grp (10*v):=by
 rw[grp_pos (n:=10*v) (by omega),show 10*v % 10=0 by omega,show 10*v / 10=v by omega];rfl
theorem grp_eq_nil {v:Nat}:(grp v).length=0↔v=0:=by rw[List.length_eq_zero_iff,grp_nil]
def from_ (l:List Int) (i:Nat):Int:=gval (l.drop i)
theorem from_step {l:List Int} {i:Nat} (h:i<l.length):from_ l i=l[i]+10*from_ l (i+1):=by
 unfold from_
 rw[List.drop_eq_getElem_cons h];rfl
theorem from_zero (l:List Int):from_ l 0=gval l:=rfl
theorem from_end {l:List Int} {i:Nat} (h:l.length<=i):from_ l i=0:=by unfold from_;rw[List.drop_eq_nil_of_le h];rfl
theorem from_nonneg {l:List Int} (h:Gr l) (i:Nat):0<=from_ l i:=gval_nonneg fun g hg=>h g (List.mem_of_mem_drop hg)
theorem div_step {g R M:Nat} (hM:0<M) (hg:g<10):(g+10*(R % M)) / M<10/\(g+10*R) / M=(g+10*(R % M)) / M+10*(R / M)/\(g+10*R) % M=(g+10*(R % M)) % M:=by
 have h1:=Nat.mod_lt R hM;have h2:=Nat.mod_add_div R M;refine ⟨?_,?_,?_⟩
 · rw[Nat.div_lt_iff_lt_mul hM];have:10*(R % M)+10<=10*M:=by omega
   omega
 · have e:g+10*R=(g+10*(R % M))+M*(10*(R / M)):=by
    conv=>lhs;rw[←h2]
    rw[Nat.mul_add,←Nat.mul_assoc,←Nat.mul_assoc,Nat.mul_comm M 10];omega
   rw[e,Nat.add_mul_div_left _ _ hM]
 · have e:g+10*R=(g+10*(R % M))+M*(10*(R / M)):=by
    conv=>lhs;rw[←h2]
    rw[Nat.mul_add,←Nat.mul_assoc,←Nat.mul_assoc,Nat.mul_comm M 10];omega
   rw[e,Nat.add_mul_mod_self_left]
theorem div_found {R M d:Nat} (hM:0<M):M*(d+1)<=R↔d<R / M:=by
 rw[Nat.lt_iff_add_one_le,Nat.le_div_iff_mul_le hM,Nat.mul_comm]
theorem cmp_len {a b:Nat} (h:(grp a).length≠(grp b).length):cmpI a b=if (grp a).length<(grp b).length then -1 else 1:=by
 by_cases h1:(grp a).length<(grp b).length
 · rw[if_pos h1,cmpI_lt (len_order h1)]
 · rw[if_neg h1,cmpI_gt (len_order (by omega))]
theorem cmp_at {a b:Nat} (hlen:(grp a).length=(grp b).length) (k:Nat) (hk:k<(grp a).length) (hd:(grp a).drop (k+1)=(grp b).drop (k+1)) (hne:atG (grp a) k≠atG (grp b) k):cmpI a b=if atG (grp a) k<atG (grp b) k then -1 else 1:=by
 have va:=gval_grp a;have vb:=gval_grp b;by_cases h:atG (grp a) k<atG (grp b) k
 · have:=gval_order (gr_grp a) (gr_grp b) hlen k hk hd h;rw [if_pos h,cmpI_lt (by omega)]
 · have:=gval_order (gr_grp b) (gr_grp a) hlen.symm k (by omega) hd.symm (by omega);rw [if_neg h,cmpI_gt (by omega)]
theorem cmp_same {a b:Nat} (h:grp a=grp b):cmpI a b=0:=by
 have va:=gval_grp a;have vb:=gval_grp b;rw [h,vb]at va;have:a=b:=by omega
 subst this;exact cmpI_eq a
theorem dsum_gap {d:Nat->Int} {n m:Nat} (h:∀i,n<=i->d i=0) (hm:n<=m):dsum d m=dsum d n:=by
 induction m with
 | zero =>
  have:n=0:=by omega
  subst this;rfl
 | succ m ih =>
  by_cases hn:n=m+1
  · subst hn;rfl
  · rw[dsum,h m (by omega),ih (by omega)];simp
end Dx
namespace Go.Proofs.YtelljijajgiabaaGreatDoor
open Go.RowKit Go.Shelf
theorem rtrim_any (l:List Int) (A:Option Addr) (cap:Nat) (w:World) (hA:At 1 intC w w.heap.size A l) (hn:l.length<=cap) (hl:l.length<=1000000) :
 Calls Tryz.prog 194 #[.slice A l.length cap] w fun e w'=>e=.returned (.slice A (Ig.trimG l).length cap)/\w=w':=by
 go_enter Tryz.func194,Tryz.ntmps194
 go_wp2
 go_loop [0] (fun s=>∃k:Nat,k<=l.length/\s=.slice A k cap/\Hid (Ig.trimG (l.take k)=Ig.trimG l)) (fun s=>match s with|.slice _ k _=>k|_=>0)
 case atStart=>exact⟨l.length,Nat.le_refl _,rfl,Lib.hid (by rw[List.take_length])⟩
 case round =>
  obtain⟨k,hk,rfl,ht⟩:=hrel;by_cases h0:0<k
  · obtain⟨b,off,rfl,hbB,hcell⟩:=hA (by omega);obtain ⟨k,rfl⟩:∃j,k=j+1:=⟨k-1,by omega⟩
    have hck:l[k]? = some l[k]:=List.getElem?_eq_getElem (by omega)
    have c0:w.cell? ⟨b,off+k,none⟩=some (.int .i64 l[k]):=by
     have:=hcell k _ hck 0 _ rfl;simpa using this
    have hsn:=List.take_succ_eq_append_getElem (show k<l.length by omega);by_cases hz:l[k]=0
    · have t1:(l[k]==0)=true:=by simp[hz]
      have hnext:=Lib.hid (show Ig.trimG (l.take k)=Ig.trimG l by rw[←ht.out,hsn,hz,Ig.trimG_snoc_zero]);clear hck hcell hsn hz ht;generalize l[k]=g at *;go_wp2;exact ⟨⟨k,by omega,rfl,hnext⟩,Nat.lt_succ_self k⟩
    · have t1:(l[k]==0)=false:=by simp[hz]
      have hfin:Kp ((Ig.trimG l).length=k+1):=⟨by rw[←ht.out,hsn,Ig.trimG_snoc hz];simp;omega⟩
      clear hck hcell hsn hz ht;generalize l[k]=g at *;go_wp2;go_ret;exact ⟨by rw[hfin.out];rfl,rfl⟩
  · obtain rfl:k=0:=by omega
    have hfin:Kp ((Ig.trimG l).length=0):=⟨by rw[←ht.out];rfl⟩
    clear ht;go_wp2;go_ret;exact ⟨by rw[hfin.out];rfl,rfl⟩
theorem push_all (l:List UInt8):∀(acc:ByteArray),(l.map fun c=>((c.toNat:Nat):Int)).foldl (fun r n=>r.push (UInt8.ofNat n.toNat)) acc=⟨acc.data++l.toArray⟩:=by
 induction l with
 | nil=>intro acc;apply ByteArray.ext;simp
 | cons c l ih =>
  intro acc;rw [List.map_cons,List.foldl_cons,ih];apply ByteArray.ext
  simp
theorem conv_row (W:World) (g cap:Nat) (l:List UInt8) (h:∀j x,l[j]? = some x->W.cell? ⟨g,j,none⟩=some (.int .u8 x.toNat)) :
 (convert 166 9 (.slice (some ⟨g,0,none⟩) l.length cap)).run Tryz.prog W=.ok (.string ⟨l.toArray⟩) W:=by
 have hl:=run_loadCells_list (P:=Tryz.prog) (w:=W) ⟨g,0,none⟩ (l.map fun c=>Value.int .u8 c.toNat) (fun j v hj=>by
  rw[List.getElem?_map]at hj
  cases hx:l[j]? with
  | none=>rw[hx]at hj;cases hj
  | some x =>
   rw[hx]at hj;simp only[Option.map_some,Option.some.injEq]at hj;rw [Addr.add_lit,Nat.zero_add,←hj]
   exact h j x hx)
 rw[List.length_map]at hl;rw [run_convert_bytes_string W 166 9 5 _ _ _ Tryz.underlying166 Tryz.underlying5 Tryz.underlying9,run_bytesToString W _ _ _ (l.map fun c=>((c.toNat:Nat):Int)) (by rw[hl];simp),push_all];simp
theorem rtext_nil (neg:Bool) (A:Option Addr) (cap:Nat) (w:World) :
 Calls Tryz.prog 119 #[.bool neg,.slice A 0 cap] w fun e w'=>e=.returned (.tuple #[.string ⟨#[48]⟩,.bool true])/\Below w.heap.size w w':=by
 go_enter Tryz.func119,Tryz.ntmps119
 go_wp2
 go_ret2
 exact⟨rfl,Below.refl _ _⟩
theorem rtext_pos (neg:Bool) (l:List Int) (A:Option Addr) (cap:Nat) (w:World) (hA:At 1 intC w w.heap.size A l) (hn:l.length<=cap) (hl:l.length<=1000000) (h0:0<l.length) (hG:Dx.Gr l) (s:List UInt8) (fits:Bool)
 (hres:Kp ((if neg then [45] else [])++(l.reverse.map fun d=>Ig.dg d.toNat)=s/\decide ((l.length:Int)<=200)=fits)) :
 Calls Tryz.prog 119 #[.bool neg,.slice A l.length cap] w fun e w'=>e=.returned (.tuple #[.string ⟨s.toArray⟩,.bool fits])/\Below w.heap.size w w':=by
 have t0:decide ((l.length:Int)=0)=false:=decide_eq_false (by omega);have t1:((l.length:Int)==0)=false:=beq_eq_false_iff_ne.2 (by omega);cases neg
 · have hown:=World.ownsRow_nil w w.heap.size 5 1;have hb:=Below.refl w.heap.size w;replace hres:Kp ([]++(l.reverse.map fun d=>Ig.dg d.toNat)=s/\decide ((l.length:Int)<=200)=fits):=hres
   go_enter Tryz.func119,Tryz.ntmps119
   go_wp2_with fail
   go_loopw [6,7] (fun s6 s7 wr=>∃(r:Nat) (o:List UInt8),r<=l.length/\s7=.int .i64 ((r:Int)-1)/\Kp (o=([]:List UInt8)++(l.drop r).reverse.map fun d=>Ig.dg d.toNat)/\o.length+r<=l.length+1/\wr.ownsRow w.heap.size 5 1 s6 o.length (Lib.byteCells o)/\Below w.heap.size w wr) (fun s6 s7 wr=>(intOf s7+1).toNat)
   case atStart=>exact⟨l.length,([]:List UInt8),Nat.le_refl _,rfl,⟨by rw[List.drop_length];simp⟩,by simp;try omega,hown,hb⟩
   case round =>
    clear hown hb;obtain ⟨r,o,hr,rfl,ho,hol,hown,hb⟩:=hrel;by_cases h0:0<r
    · obtain⟨t,rfl⟩:∃t,r=t+1:=⟨r-1,by omega⟩
      have hcast:((t+1:Nat):Int)-1=(t:Int):=by omega
      simp only[hcast];have htl:t<l.length:=by omega
      have hgt:=hG l[t] (List.getElem_mem htl);obtain ⟨b,off,rfl,hbB,hcell⟩:=(hA.below hb) (by omega)
      have hct:wr.cell? ⟨b,off+t,none⟩=some (.int .i64 l[t]):=by
       have:=hcell t _ (List.getElem?_eq_getElem htl) 0 _ rfl;simpa using this
      obtain⟨d,hd⟩:=Int.eq_ofNat_of_zero_le hgt.1
      have hnx:Kp (o++[Ig.dg d]=([]:List UInt8)++(l.drop t).reverse.map fun d=>Ig.dg d.toNat):=⟨by
       rw[ho.out,List.drop_eq_getElem_cons htl,List.reverse_cons,List.map_append,hd,List.map_singleton,Int.toNat_natCast,List.append_assoc]⟩
      have hdg:(Ig.dg d).toNat=48+d:=Ig.dg_nat (by omega);have hd9:d<10:=by omega
      rw[hd]at hct;clear hcell hgt hd ho;have hx8:Kp ((Value.int .u8 ((48:Int)+(d:Int)))=.int .u8 ((Ig.dg d).toNat:Int)):=⟨by rw[hdg];congr 1⟩
      clear hdg;obtain ⟨i0,hi,hz,hs1,hby⟩:=byteI;have hbn:=bNewW wr (.cells #[.int .u8 ((48:Int)+(d:Int))] 5);have hown1:=own_call hown hbn
      go_wp2_with (at_builtin;refine wpList_append_own _ rfl (.tmp 22) (.tmp 29) 166 rfl w.heap.size 5 i0 (.int .u8 0) 1 1 Tryz.underlying166 hi hz hs1 hby rfl (by decide) _ _ _ rfl hown1 ⟨wr.heap.size,0,none⟩ 1 1 [.int .u8 ((48:Int)+(d:Int))] rfl rfl ?c1 ?c2 ?c3 ?c4 ?c5 ?_)
      case c1 =>
       intro j u hj
       match j,hj with
       | 0,hj=>simp at hj;subst hj;simp[Addr.add]
      case c2=>intro u hu;simp at hu;subst hu;rfl
      case c3=>unfold maxLen;omega
      case c4=>omega
      case c5=>have:=hbn.size;have:=hb.size;omega
      intro v' w2 hown' hgrow _;have hb':=(bCall hb hbn).grown hgrow (by have:=hbn.size;have:=hb.size;omega) (fun k hk=>(hown1.lt k hk).1);have hsz:=hgrow.size
      obtain⟨ao,n',cap,rfl⟩:∃ao n' cap,v'=.slice ao n' cap:=by
       rcases hown'.2 with ⟨hv,_⟩|⟨g,cap,cur,hv,_⟩
       · exact⟨_,_,_,hv⟩
       · exact⟨_,_,_,hv⟩
      rw[hx8.out,show [Value.int .u8 ((Ig.dg d).toNat:Int)]=Lib.byteCells [Ig.dg d] from rfl,←Lib.byteCells_append]at hown';clear hx8 hi hz hs1 hby hown hown1 hct hgrow;go_wp2;exact ⟨⟨t,o++[Ig.dg d],by omega,rfl,hnx,by rw[List.length_append,List.length_singleton];omega,by rw[List.length_append];exact hown',hb'⟩,by simp[intOf]⟩
    · obtain rfl:r=0:=by omega
      have hcast:((0:Nat):Int)-1= -1:=rfl;simp only[hcast];rw [List.drop_zero]at ho
      have hon:o≠[]:=by
       have h2:o.length=(([]:List UInt8)).length+l.length:=by rw[ho.out,List.length_append,List.length_map,List.length_reverse]
       intro h;rw [h,List.length_nil]at h2;omega
      obtain⟨g,cap,cur,rfl,-⟩:∃g cap cur,u6=.slice (some ⟨g,0,none⟩) o.length cap/\(cur:Array Value)=cur:=by
       rcases hown.2 with ⟨_,hz⟩|⟨g,cap,cur,hv,_⟩
       · exact absurd (List.length_eq_zero_iff.1 hz) hon
       · exact⟨g,cap,cur,hv,rfl⟩
      have hcv:=conv_row wr g cap o (fun j x hx=>by
       have:=hown.cells (g:=g) rfl j (.int .u8 x.toNat) (by simp[Lib.byteCells,hx])
       rwa [Addr.add_lit,Nat.zero_add]at this)
      clear hA hown hon;go_wp2
      go_ret2
      exact⟨by rw[ho.out,hres.out.1,←hres.out.2];rfl,hb⟩
 · replace hres:Kp ([45]++(l.reverse.map fun d=>Ig.dg d.toNat)=s/\decide ((l.length:Int)<=200)=fits):=hres;obtain ⟨i0,hi,hz,hs1,hby⟩:=byteI;have hbn:=bNewW w (.cells #[.int .u8 45] 5);have hown0:=own_call (World.ownsRow_nil w w.heap.size 5 1) hbn
   go_enter Tryz.func119,Tryz.ntmps119
   go_wp2_with (at_builtin;refine wpList_append_own _ rfl (.tmp 12) (.tmp 13) 166 rfl w.heap.size 5 i0 (.int .u8 0) 1 1 Tryz.underlying166 hi hz hs1 hby rfl (by decide) _ _ _ rfl hown0 ⟨w.heap.size,0,none⟩ 1 1 [.int .u8 45] rfl rfl ?c1 ?c2 ?c3 ?c4 ?c5 ?_)
   case c1 =>
    intro j u hj
    match j,hj with
    | 0,hj=>simp at hj;subst hj;simp[Addr.add]
   case c2=>intro u hu;simp at hu;subst hu;rfl
   case c3=>unfold maxLen;omega
   case c4=>omega
   case c5=>exact hbn.size
   intro v0 w2 hown hgrow _;have hb:=hbn.grown hgrow hbn.size (fun k hk=>(hown0.lt k hk).1)
   obtain⟨ao,n',cap0,rfl⟩:∃ao n' cap,v0=.slice ao n' cap:=by
    rcases hown.2 with ⟨hv,_⟩|⟨g,cap,cur,hv,_⟩
    · exact⟨_,_,_,hv⟩
    · exact⟨_,_,_,hv⟩
   clear hown0 hgrow hbn hi hz hs1 hby;go_wp2_with fail
   go_loopw [6,7] (fun s6 s7 wr=>∃(r:Nat) (o:List UInt8),r<=l.length/\s7=.int .i64 ((r:Int)-1)/\Kp (o=([45]:List UInt8)++(l.drop r).reverse.map fun d=>Ig.dg d.toNat)/\o.length+r<=l.length+1/\wr.ownsRow w.heap.size 5 1 s6 o.length (Lib.byteCells o)/\Below w.heap.size w wr) (fun s6 s7 wr=>(intOf s7+1).toNat)
   case atStart=>exact⟨l.length,([45]:List UInt8),Nat.le_refl _,rfl,⟨by rw[List.drop_length];simp⟩,by simp;try omega,hown,hb⟩
   case round =>
    clear hown hb;obtain ⟨r,o,hr,rfl,ho,hol,hown,hb⟩:=hrel;by_cases h0:0<r
    · obtain⟨t,rfl⟩:∃t,r=t+1:=⟨r-1,by omega⟩
      have hcast:((t+1:Nat):Int)-1=(t:Int):=by omega
      simp only[hcast];have htl:t<l.length:=by omega
      have hgt:=hG l[t] (List.getElem_mem htl);obtain ⟨b,off,rfl,hbB,hcell⟩:=(hA.below hb) (by omega)
      have hct:wr.cell? ⟨b,off+t,none⟩=some (.int .i64 l[t]):=by
       have:=hcell t _ (List.getElem?_eq_getElem htl) 0 _ rfl;simpa using this
      obtain⟨d,hd⟩:=Int.eq_ofNat_of_zero_le hgt.1
      have hnx:Kp (o++[Ig.dg d]=([45]:List UInt8)++(l.drop t).reverse.map fun d=>Ig.dg d.toNat):=⟨by
       rw[ho.out,List.drop_eq_getElem_cons htl,List.reverse_cons,List.map_append,hd,List.map_singleton,Int.toNat_natCast,List.append_assoc]⟩
      have hdg:(Ig.dg d).toNat=48+d:=Ig.dg_nat (by omega);have hd9:d<10:=by omega
      rw[hd]at hct;clear hcell hgt hd ho;have hx8:Kp ((Value.int .u8 ((48:Int)+(d:Int)))=.int .u8 ((Ig.dg d).toNat:Int)):=⟨by rw[hdg];congr 1⟩
      clear hdg;obtain ⟨i0,hi,hz,hs1,hby⟩:=byteI;have hbn:=bNewW wr (.cells #[.int .u8 ((48:Int)+(d:Int))] 5);have hown1:=own_call hown hbn
      go_wp2_with (at_builtin;refine wpList_append_own _ rfl (.tmp 22) (.tmp 29) 166 rfl w.heap.size 5 i0 (.int .u8 0) 1 1 Tryz.underlying166 hi hz hs1 hby rfl (by decide) _ _ _ rfl hown1 ⟨wr.heap.size,0,none⟩ 1 1 [.int .u8 ((48:Int)+(d:Int))] rfl rfl ?c1 ?c2 ?c3 ?c4 ?c5 ?_)
      case c1 =>
       intro j u hj
       match j,hj with
       | 0,hj=>simp at hj;subst hj;simp[Addr.add]
      case c2=>intro u hu;simp at hu;subst hu;rfl
      case c3=>unfold maxLen;omega
      case c4=>omega
      case c5=>have:=hbn.size;have:=hb.size;omega
      intro v' w2 hown' hgrow _;have hb':=(bCall hb hbn).grown hgrow (by have:=hbn.size;have:=hb.size;omega) (fun k hk=>(hown1.lt k hk).1);have hsz:=hgrow.size
      obtain⟨ao,n',cap,rfl⟩:∃ao n' cap,v'=.slice ao n' cap:=by
       rcases hown'.2 with ⟨hv,_⟩|⟨g,cap,cur,hv,_⟩
       · exact⟨_,_,_,hv⟩
       · exact⟨_,_,_,hv⟩
      rw[hx8.out,show [Value.int .u8 ((Ig.dg d).toNat:Int)]=Lib.byteCells [Ig.dg d] from rfl,←Lib.byteCells_append]at hown';clear hx8 hi hz hs1 hby hown hown1 hct hgrow;go_wp2;exact ⟨⟨t,o++[Ig.dg d],by omega,rfl,hnx,by rw[List.length_append,List.length_singleton];omega,by rw[List.length_append];exact hown',hb'⟩,by simp[intOf]⟩
    · obtain rfl:r=0:=by omega
      have hcast:((0:Nat):Int)-1= -1:=rfl;simp only[hcast];rw [List.drop_zero]at ho
      have hon:o≠[]:=by
       have h2:o.length=(([45]:List UInt8)).length+l.length:=by rw[ho.out,List.length_append,List.length_map,List.length_reverse]
       intro h;rw [h,List.length_nil]at h2;omega
      obtain⟨g,cap,cur,rfl,-⟩:∃g cap cur,u6=.slice (some ⟨g,0,none⟩) o.length cap/\(cur:Array Value)=cur:=by
       rcases hown.2 with ⟨_,hz⟩|⟨g,cap,cur,hv,_⟩
       · exact absurd (List.length_eq_zero_iff.1 hz) hon
       · exact⟨g,cap,cur,hv,rfl⟩
      have hcv:=conv_row wr g cap o (fun j x hx=>by
       have:=hown.cells (g:=g) rfl j (.int .u8 x.toNat) (by simp[Lib.byteCells,hx])
       rwa [Addr.add_lit,Nat.zero_add]at this)
      clear hA hown hon;go_wp2
      go_ret2
      exact⟨by rw[ho.out,hres.out.1,←hres.out.2];rfl,hb⟩
theorem rtext_any (neg:Bool) (n:Nat) (A:Option Addr) (cap:Nat) (w:World) (hA:At 1 intC w w.heap.size A (Dx.grp n)) (hn:(Dx.grp n).length<=cap) (hl:(Dx.grp n).length<=1000000) :
 Calls Tryz.prog 119 #[.bool neg,.slice A (Dx.grp n).length cap] w fun e w'=>e=.returned (.tuple #[.string ⟨(Lib.itoa (sgn neg n)).toArray⟩,.bool (decide (Lib.nDigits n<=200))])/\Below w.heap.size w w':=by
 by_cases h0:n=0
 · subst h0;have e:(Dx.grp 0).length=0:=by rw[Dx.grp_zero];rfl
   have e2:Lib.itoa (sgn neg 0)=[48]:=by cases neg <;> decide +kernel
   have e3:decide (Lib.nDigits 0<=200)=true:=by decide +kernel
   rw[e,e2,e3];exact rtext_nil neg A cap w
 · have hlen:=Dx.grp_nd h0;have hnd:=Ig.nd_pos n;refine rtext_pos neg (Dx.grp n) A cap w hA hn hl (by omega) (Dx.gr_grp n) _ _ ⟨?_,by rw[hlen];exact decide_eq_decide.2 (by omega)⟩;rw [←Dx.dec_grp h0];cases neg
   · rw[Ig.itoa_nonneg (by simp[sgn]),sgn_abs];rfl
   · rw[Ig.itoa_neg (by simp[sgn];omega),sgn_abs];rfl
structure DgAt (W:World) (a:Nat) (v:Value):Prop where
 out:∃(A:Option Addr) (cap:Nat),v=.slice A (Dx.grp a).length cap/\At 1 intC W W.heap.size A (Dx.grp a)/\(Dx.grp a).length<=cap/\cap<=maxLen
theorem DgAt.call {W W':World} {a:Nat} {v:Value} (h:DgAt W a v) (hb:Below W.heap.size W W'):DgAt W' a v:=by
 obtain⟨A,cap,h1,h2,h3,h4⟩:=h.out;exact ⟨A,cap,h1,(h2.below hb).more hb.size,h3,h4⟩
theorem dg_of {W:World} {A:Option Addr} {out:List Int} {cap a:Nat} (hA:At 1 intC W W.heap.size A out) (hc:out.length<=cap) (hm:cap<=maxLen) (h:Kp (Ig.trimG out=Dx.grp a)):DgAt W a (.slice A (Ig.trimG out).length cap):=by
 refine⟨A,cap,by rw[h.out],?_,?_,hm⟩
 · rw[←h.out,←trim_take];exact hA.take _
 · rw[←h.out,←trim_take,List.length_take];omega
theorem rcmp_at {a b:Nat} (hlen:(Dx.grp a).length=(Dx.grp b).length) (k:Nat) (hk:k<(Dx.grp a).length) (hd:∀t,k<t->t<(Dx.grp a).length->Dx.atG (Dx.grp a) t=Dx.atG (Dx.grp b) t) (hne:Dx.atG (Dx.grp a) k≠Dx.atG (Dx.grp b) k):Ig.cmpI a b=if Dx.atG (Dx.grp a) k<Dx.atG (Dx.grp b) k then -1 else 1:=by
 have h1:(Dx.grp a).drop (k+1)=(Dx.grp b).drop (k+1):=by
  apply List.ext_getElem (by simp[hlen])
  intro i h1 h2;simp only[List.length_drop]at h1 h2;have:=hd (k+1+i) (by omega) (by omega);rw [Dx.atG_lt (by omega),Dx.atG_lt (by omega)]at this;simpa using this
 exact Dx.cmp_at hlen k hk h1 hne
theorem rcmp_all {a b:Nat} (hlen:(Dx.grp a).length=(Dx.grp b).length) (h:∀t,t<(Dx.grp a).length->Dx.atG (Dx.grp a) t=Dx.atG (Dx.grp b) t):Ig.cmpI a b=0:=by
 refine Dx.cmp_same (List.ext_getElem hlen fun i h1 h2=>?_);have:=h i h1
 rwa [Dx.atG_lt h1,Dx.atG_lt h2]at this
theorem at_cellR {W:World} {B:Nat} {b off:Nat} {l:List Int} (hcell:∀i c,l[i]? = some c->∀j u,(intC c)[j]? = some u->W.cell? ⟨b,off+i*1+j,none⟩=some u) (hb:b<W.heap.size) {t:Nat} (ht:t<l.length) :
 ∀d os,(Sort.grow (redrawn W d) os).cell? ⟨b,off+t,none⟩=some (.int .i64 (Dx.atG l t)):=fun d os=>by
 have h1:=hcell t _ (List.getElem?_eq_getElem ht) 0 _ rfl;rw [Dx.atG_lt ht];rw [Nat.mul_one,Nat.add_zero]at h1;exact ((below_regrown W d os).cell (p:=⟨b,off+t,none⟩) hb).trans h1
theorem rorder_any (a b:Nat) (v1 v2:Value) (w:World) (h1:DgAt w a v1) (h2:DgAt w b v2) (la:(Dx.grp a).length<=1000000) (lb:(Dx.grp b).length<=1000000) :
 Calls Tryz.prog 161 #[v1,v2] w fun e w'=>e=.returned (.int .i64 (Ig.cmpI a b))/\Below w.heap.size w w':=by
 obtain⟨A1,c1,rfl,hA1,hn1,hm1⟩:=h1.out;obtain ⟨A2,c2,rfl,hA2,hn2,hm2⟩:=h2.out;by_cases hlen:(Dx.grp a).length=(Dx.grp b).length
 · have hne:=fun k hk hd hx=>rcmp_at hlen k hk hd hx
   have heq:=fun h=>rcmp_all hlen h
   generalize Ig.cmpI a b=ans at *;generalize Dx.grp a=l at *;generalize Dx.grp b=m at *;clear h1 h2;have t0:decide ((l.length:Int)=(m.length:Int))=true:=decide_eq_true (by omega);have t0':((l.length:Int) != (m.length:Int))=false:=by simp;omega
   have hlk:=Kp.mk hlen;clear hlen
   go_enter Tryz.func161,Tryz.ntmps161
   go_wp2_with fail;clear t0 t0'
   go_loopw [5] (fun s5 wr=>∃r:Nat,r<=l.length/\s5=.int .i64 ((r:Int)-1)/\Kp (∀t,r<=t->t<l.length->Dx.atG l t=Dx.atG m t)/\Below w.heap.size w wr) (fun s5 wr=>(intOf s5+1).toNat)
   case atStart=>exact⟨l.length,Nat.le_refl _,rfl,⟨fun t h3 h4=>by omega⟩,Below.refl _ _⟩
   case round =>
    obtain⟨r,hr,rfl,hall,hb⟩:=hrel;by_cases h0:0<r
    · obtain⟨t,rfl⟩:∃t,r=t+1:=⟨r-1,by omega⟩
      have hcast:((t+1:Nat):Int)-1=(t:Int):=by omega
      simp only[hcast];have htl:t<l.length:=by omega
      have htm:t<m.length:=by have:=hlk.out;omega
      obtain⟨b1,o1,rfl,hb1,hc1⟩:=(hA1.below hb) (by omega)
      obtain⟨b2,o2,rfl,hb2,hc2⟩:=(hA2.below hb) (by omega)
      have k1:=at_cellR (B:=w.heap.size) hc1 (Nat.lt_of_lt_of_le hb1 hb.size) htl;have k2:=at_cellR (B:=w.heap.size) hc2 (Nat.lt_of_lt_of_le hb2 hb.size) htm;have hres:=hne t htl (fun u h3 h4=>hall.out u (by omega) h4)
      have hnext:Dx.atG l t=Dx.atG m t->Kp (∀u,t<=u->u<l.length->Dx.atG l u=Dx.atG m u):=fun he=>⟨fun u h3 h4=>by
       rcases (show u=t∨t+1<=u by omega) with h|h
       · subst h;exact he
       · exact hall.out u h h4⟩
      clear hc1 hc2 hall hne heq;generalize Dx.atG l t=x at *;generalize Dx.atG m t=y at *;by_cases hxy:x=y
      · have hn:=hnext hxy;have tx:decide (x=y)=true:=decide_eq_true hxy;have tx':(x != y)=false:=by simp[hxy]
        clear hres hnext hxy;go_wp2;refine wp_region_quiet_below (by kernel_rfl) (by kernel_rfl) ?_
        repeat (go_big_quiet_step (first|fail))
        refine wpQuiet_nil ?_;rintro _ ⟨z,rfl⟩;have hbz:=bAgain hb z.d z.os;clear k1 k2;generalize Sort.grow (redrawn wr z.d) z.os=W2 at *;go_wp2;exact ⟨⟨t,by omega,rfl,hn,hbz⟩,by simp[intOf]⟩
      · have hres2:=Kp.mk (hres hxy);have tx:decide (x=y)=false:=decide_eq_false hxy;have tx':(x != y)=true:=by simp[hxy]
        clear hres hnext hxy;go_wp2;refine wp_region_quiet_below (by kernel_rfl) (by kernel_rfl) ?_
        repeat (go_big_quiet_step (first|fail))
        refine wpQuiet_nil ?_;rintro _ ⟨z,rfl⟩;have hbz:=bAgain hb z.d z.os;have k1':=fun d os=>((below_regrown (Sort.grow (redrawn wr z.d) z.os) d os).cell (p:=⟨b1,o1+t,none⟩) (Nat.lt_of_lt_of_le hb1 hbz.size)).trans (k1 z.d z.os)
        have k2':=fun d os=>((below_regrown (Sort.grow (redrawn wr z.d) z.os) d os).cell (p:=⟨b2,o2+t,none⟩) (Nat.lt_of_lt_of_le hb2 hbz.size)).trans (k2 z.d z.os)
        clear k1 k2;generalize Sort.grow (redrawn wr z.d) z.os=W2 at *;by_cases hlt:x<y
        · have ty:decide (x<y)=true:=decide_eq_true hlt;rw [if_pos hlt]at hres2;clear hlt;go_wp2;refine wp_region_quiet_below (by kernel_rfl) (by kernel_rfl) ?_
          repeat (go_big_quiet_step (first|fail))
          refine wpQuiet_nil ?_;rintro _ ⟨z2,rfl⟩;have hbz2:=bAgain hbz z2.d z2.os;clear k1' k2';generalize Sort.grow (redrawn W2 z2.d) z2.os=W3 at *;go_wp2;go_ret;exact ⟨by rw[hres2.out];rfl,hbz2⟩
        · have ty:decide (x<y)=false:=decide_eq_false hlt;rw [if_neg hlt]at hres2;clear hlt;go_wp2;refine wp_region_quiet_below (by kernel_rfl) (by kernel_rfl) ?_
          repeat (go_big_quiet_step (first|fail))
          refine wpQuiet_nil ?_;rintro _ ⟨z2,rfl⟩;have hbz2:=bAgain hbz z2.d z2.os;clear k1' k2';generalize Sort.grow (redrawn W2 z2.d) z2.os=W3 at *;go_wp2;go_ret;exact ⟨by rw[hres2.out];rfl,hbz2⟩
    · obtain rfl:r=0:=by omega
      have hcast:((0:Nat):Int)-1= -1:=rfl;simp only[hcast];have hz:=Kp.mk (heq fun t ht=>hall.out t (by omega) ht);clear hall hne heq;go_wp2;go_ret;exact ⟨by rw[hz.out];rfl,hb⟩
 · have hc:=Kp.mk (Dx.cmp_len hlen);generalize (Dx.grp a).length=n1 at *;generalize (Dx.grp b).length=n2 at *;have t0:decide ((n1:Int)=(n2:Int))=false:=decide_eq_false (by omega);have t0':((n1:Int) != (n2:Int))=true:=by simp;omega
   by_cases hlt:n1<n2
   · rw[if_pos hlt]at hc;have t1:decide (n1<n2)=true:=decide_eq_true (by omega);clear hlen hlt
     go_enter Tryz.func161,Tryz.ntmps161
     go_wp2;go_ret;exact ⟨by rw[hc.out];rfl,Below.refl _ _⟩
   · rw[if_neg hlt]at hc;have t1:decide (n1<n2)=false:=decide_eq_false (by omega);clear hlen hlt
     go_enter Tryz.func161,Tryz.ntmps161
     go_wp2;go_ret;exact ⟨by rw[hc.out];rfl,Below.refl _ _⟩
end Go.Proofs.YtelljijajgiabaaGreatDoor
namespace Dx
theorem grp_exact {out:List Int} {v:Nat} (hG:Gr out) (hv:gval out=v) (hl:out=[]∨10 ^ (out.length-1)<=v):out=grp v:=by
 have h:=grp_of (l:=out) hG ?_
 · rw[hv,Int.toNat_natCast]at h;exact h
 · rcases hl with rfl|hl
   · simp
   · intro hlast
     rcases Ig.snoc_cases out with rfl|⟨m,g,rfl⟩
     · simp at hlast
     · obtain rfl:g=0:=by simpa using hlast
       have h1:=gval_lt (l:=m) (fun x hx=>hG x (by simp[hx]));rw [gval_append]at hv;simp [gval]at hv
       rw[List.length_append,List.length_singleton,Nat.add_sub_cancel]at hl;have e:(10:Int) ^ m.length=((10 ^ m.length:Nat):Int):=by simp
       omega
theorem grp_ge {a n:Nat} (h:n+1<=(grp a).length):10 ^ n<=a:=by
 rcases Nat.lt_or_ge a (10 ^ n) with h1|h1
 · have:=grp_len h1;omega
 · exact h1
theorem fold_ge {d:Nat->Int} {i:Nat} {out:List Int} {carry:Int} (h:FoldAt d i out carry) (hc:0<carry) {v:Nat} (hv:dsum d i=v):10 ^ i<=v:=by
 have h1:=gval_nonneg h.gr;have h2:=h.eq;have e:(10:Int) ^ i=((10 ^ i:Nat):Int):=by simp
 have h3:(10:Int) ^ i*1<=10 ^ i*carry:=Int.mul_le_mul_of_nonneg_left (by omega) (Int.le_of_lt (Int.pow_pos (by decide)));omega
end Dx
namespace Go.Proofs.YtelljijajgiabaaGreatDoor
open Go.RowKit Go.Shelf
theorem radd_all (a b:Nat) {n:Nat} (ha:(Dx.grp a).length<=n) (hb:(Dx.grp b).length<=n):Dx.dsum (fun i=>Dx.atG (Dx.grp a) i+Dx.atG (Dx.grp b) i) n=((a+b:Nat):Int):=by
 rw[Dx.dsum_add,Dx.dsum_all ha,Dx.dsum_all hb,Dx.gval_grp,Dx.gval_grp];omega
theorem rplus_any (a b:Nat) (v1 v2:Value) (w:World) (h1:DgAt w a v1) (h2:DgAt w b v2) (la:(Dx.grp a).length<=100000) (lb:(Dx.grp b).length<=100000) :
 Calls Tryz.prog 165 #[v1,v2] w fun e w'=>∃v,e=.returned v/\DgAt w' (a+b) v/\Below w.heap.size w w':=by
 obtain⟨A1,c1,rfl,hA1,hn1,hm1⟩:=h1.out;obtain ⟨A2,c2,rfl,hA2,hn2,hm2⟩:=h2.out;obtain ⟨n,hn⟩:=exK (max (Dx.grp a).length (Dx.grp b).length);have hna:(Dx.grp a).length<=n:=by rw[←hn.out];omega
 have hnb:(Dx.grp b).length<=n:=by rw[←hn.out];omega
 have hor:n=(Dx.grp a).length∨n=(Dx.grp b).length:=by rw[←hn.out];omega
 have hsum:=fun i (hi:n<=i)=>radd_all a b (Nat.le_trans hna hi) (Nat.le_trans hnb hi)
 have hbig:Kp (∀k,n=k+1->10 ^ k<=a+b):=⟨fun k hk=>by
  rcases hor with h|h
  · have:=Dx.grp_ge (a:=a) (n:=k) (by omega);omega
  · have:=Dx.grp_ge (a:=b) (n:=k) (by omega);omega⟩
 have ga:=Dx.gr_grp a;have gb:=Dx.gr_grp b;have hans:=fun {l:List Int} (hG:Dx.Gr l) (hv:Dx.gval l=((a+b:Nat):Int)) hl=>Dx.grp_exact hG hv hl
 have hfg:=fun {i:Nat} {l:List Int} {c:Int} (hi:n<=i) (h:Dx.FoldAt (fun i=>Dx.atG (Dx.grp a) i+Dx.atG (Dx.grp b) i) i l c) (hc:0<c)=>Dx.fold_ge h hc (hsum i hi)
 have hlk:Kp (∀l:List Int,l=Dx.grp (a+b)->l.length=(Dx.grp (a+b)).length):=⟨fun l h=>by rw[h]⟩
 generalize hla:Dx.grp a=l at *;generalize hlb:Dx.grp b=m at *;clear hla hlb h1 h2 hn;have hn9:n<=100000:=by omega
 have hownI:=World.ownsRow_nil w w.heap.size 3 1
 go_enter Tryz.func165,Tryz.ntmps165
 go_wp2_with fail
 go_loopw [5,6,7,8] (fun s5 s6 s7 s8 wr=>∃(i:Nat) (carry:Int) (o:List Int),s7=.int .i64 i/\s6=.int .i64 carry/\0<=carry/\carry<=1/\i<=n+1/\(i=n+1->carry=0)/\Kp (i=n+1->10 ^ n<=a+b)/\o.length<=i/\Kp (Dx.FoldAt (fun i=>Dx.atG l i+Dx.atG m i) i o carry)/\wr.ownsRow w.heap.size 3 1 s5 o.length (o.flatMap intC)/\Below w.heap.size w wr) (fun s5 s6 s7 s8 wr=>n+2-(intOf s7).toNat)
 case atStart=>exact⟨0,0,[],rfl,rfl,by omega,by omega,by omega,by omega,⟨fun h=>by omega⟩,Nat.le_refl _,⟨Dx.fold_start _⟩,hownI,Below.refl _ _⟩
 case round =>
  clear hownI;obtain ⟨i,carry,o,rfl,rfl,hc0,hc1,hin,hce,hcb,hol,hf,hown,hb⟩:=hrel;by_cases hstop:n<=i/\carry=0
  · obtain⟨hni,rfl⟩:=hstop
    have hout:Kp (o=Dx.grp (a+b)):=⟨by
     refine hans hf.out.gr ?_ ?_
     · have h3:=hf.out.eq;rw [Int.mul_zero,Int.add_zero,hsum i hni]at h3;exact h3
     · have h4:=hf.out.len;by_cases h0:i=0
       · exact .inl (List.length_eq_zero_iff.1 (by omega))
       · refine .inr ?_
         rcases (show i=n∨i=n+1 by omega) with h5|h5
         · have:=hbig.out (n-1) (by omega);rw [h4,h5];exact this
         · have:=hcb.out h5
           rw[h4,h5,Nat.add_sub_cancel];exact this⟩
    have t0:decide (i<l.length)=false:=decide_eq_false (by omega);have t1:decide (i<m.length)=false:=decide_eq_false (by omega);obtain ⟨A,cap,rfl,hA,hcap,hcm,-⟩:=own_at hown;clear hown hans hfg hsum hbig hcb hf;go_wp2;go_ret;exact ⟨_,rfl,⟨A,cap,by rw[←hout.out];rfl,by rw[←hout.out];exact hA,by rw[←hout.out];exact hcap,hcm⟩,hb⟩
  · have hx:=Dx.atG_in ga i;have hy:=Dx.atG_in gb i;have hnext:=Kp.mk (Dx.fold_step hf.out)
    have hgt:Kp (i=n->10 ^ n<=a+b):=⟨fun h=>by
     have:=hfg (i:=i) (by omega) hf.out (by omega)
     rw[←h];exact this⟩
    have hxz:l.length<=i->Dx.atG l i=0:=fun h=>Dx.atG_ge h
    have hyz:m.length<=i->Dx.atG m i=0:=fun h=>Dx.atG_ge h
    have hin':i<=n:=by omega
    have hcn:i=n->carry=1:=fun h=>by omega
    have q1:∀_:i<l.length,∃b1 o1,A1=some ⟨b1,o1,none⟩/\wr.cell? ⟨b1,o1+i,none⟩=some (.int .i64 (Dx.atG l i)):=fun h=>by
     obtain⟨b1,o1,e,hb1,hcc⟩:=(hA1.below hb) (by omega)
     have:=hcc i _ (List.getElem?_eq_getElem h) 0 _ rfl;exact ⟨b1,o1,e,by rw[Dx.atG_lt h];simpa using this⟩
    have q2:∀_:i<m.length,∃b1 o1,A2=some ⟨b1,o1,none⟩/\wr.cell? ⟨b1,o1+i,none⟩=some (.int .i64 (Dx.atG m i)):=fun h=>by
     obtain⟨b1,o1,e,hb1,hcc⟩:=(hA2.below hb) (by omega)
     have:=hcc i _ (List.getElem?_eq_getElem h) 0 _ rfl;exact ⟨b1,o1,e,by rw[Dx.atG_lt h];simpa using this⟩
    obtain⟨i0,z0,hi,hz,hs1,hz1,hby⟩:=intI;clear hf hans hfg hsum hbig hcb;generalize Dx.atG l i=x at *;generalize Dx.atG m i=y at *;by_cases hl:i<l.length
    · by_cases hm:i<m.length
      · have hdummy:=trivial;obtain ⟨b1,o1,rfl,k1⟩:=q1 hl;have t0:decide (i<l.length)=true:=decide_eq_true hl;obtain ⟨b2,o2,rfl,k2⟩:=q2 hm;have t1:decide (i<m.length)=true:=decide_eq_true hm;have hbn:=bNewW wr (.cells #[.int .i64 ((carry+x+y) % 10)] 3);have hown1:=own_callG hown hbn;clear q1 q2 hxz hyz hA1 hA2
        go_wp2_with (at_builtin;refine wpList_append_own _ rfl (.tmp 46) (.tmp 49) 25 rfl w.heap.size 3 i0 z0 1 8 Tryz.underlying25 hi hz hs1 hby hz1 (by decide) _ _ _ rfl hown1 ⟨wr.heap.size,0,none⟩ 1 1 [.int .i64 ((carry+x+y) % 10)] rfl rfl ?c1 ?c2 ?c3 ?c4 ?c5 ?_)
        case c1 =>
         intro j u hj
         match j,hj with
         | 0,hj=>simp at hj;subst hj;simp[Addr.add]
        case c2=>intro u hu;simp at hu;subst hu;rfl
        case c3=>unfold maxLen;omega
        case c4=>omega
        case c5=>have:=hbn.size;have:=hb.size;omega
        intro v' w2 hown' hgrow _;have hb':=(bCall hb hbn).grown hgrow (by have:=hbn.size;have:=hb.size;omega) (fun k hk=>(hown1.lt k hk).1);clear hown1 hown hi hz hs1 hz1 hby hgrow;go_wp2;refine ⟨⟨i+1,(carry+x+y) / 10,o++[(carry+x+y) % 10],by go_num,by first|rfl|(congr 1),by omega,by omega,by omega,by omega,⟨fun h=>hgt.out (by omega)⟩,by rw[List.length_append,List.length_singleton];omega,⟨?_⟩,?_,hb'⟩,by simp[intOf];omega⟩
        · have h7:=hnext.out
          first
           | exact h7
           | (rw [show x+y+carry=carry+x+y by omega]at h7;exact h7)
        · rw[List.length_append,List.length_singleton,List.flatMap_append];exact hown'
      · have hdummy:=trivial;obtain ⟨b1,o1,rfl,k1⟩:=q1 hl;have t0:decide (i<l.length)=true:=decide_eq_true hl;obtain rfl:=hyz (by omega);have t1:decide (i<m.length)=false:=decide_eq_false hm;have hbn:=bNewW wr (.cells #[.int .i64 ((carry+x) % 10)] 3);have hown1:=own_callG hown hbn;clear q1 q2 hxz hyz hA1 hA2
        go_wp2_with (at_builtin;refine wpList_append_own _ rfl (.tmp 46) (.tmp 49) 25 rfl w.heap.size 3 i0 z0 1 8 Tryz.underlying25 hi hz hs1 hby hz1 (by decide) _ _ _ rfl hown1 ⟨wr.heap.size,0,none⟩ 1 1 [.int .i64 ((carry+x) % 10)] rfl rfl ?c1 ?c2 ?c3 ?c4 ?c5 ?_)
        case c1 =>
         intro j u hj
         match j,hj with
         | 0,hj=>simp at hj;subst hj;simp[Addr.add]
        case c2=>intro u hu;simp at hu;subst hu;rfl
        case c3=>unfold maxLen;omega
        case c4=>omega
        case c5=>have:=hbn.size;have:=hb.size;omega
        intro v' w2 hown' hgrow _;have hb':=(bCall hb hbn).grown hgrow (by have:=hbn.size;have:=hb.size;omega) (fun k hk=>(hown1.lt k hk).1);clear hown1 hown hi hz hs1 hz1 hby hgrow;go_wp2;refine ⟨⟨i+1,(carry+x) / 10,o++[(carry+x) % 10],by go_num,by first|rfl|(congr 1),by omega,by omega,by omega,by omega,⟨fun h=>hgt.out (by omega)⟩,by rw[List.length_append,List.length_singleton];omega,⟨?_⟩,?_,hb'⟩,by simp[intOf];omega⟩
        · have h7:=hnext.out
          first
           | exact h7
           | (rw [show x+0+carry=carry+x by omega]at h7;exact h7)
        · rw[List.length_append,List.length_singleton,List.flatMap_append];exact hown'
    · by_cases hm:i<m.length
      · have hdummy:=trivial;obtain rfl:=hxz (by omega);have t0:decide (i<l.length)=false:=decide_eq_false hl;obtain ⟨b2,o2,rfl,k2⟩:=q2 hm;have t1:decide (i<m.length)=true:=decide_eq_true hm;have hbn:=bNewW wr (.cells #[.int .i64 ((carry+y) % 10)] 3);have hown1:=own_callG hown hbn;clear q1 q2 hxz hyz hA1 hA2
        go_wp2_with (at_builtin;refine wpList_append_own _ rfl (.tmp 46) (.tmp 49) 25 rfl w.heap.size 3 i0 z0 1 8 Tryz.underlying25 hi hz hs1 hby hz1 (by decide) _ _ _ rfl hown1 ⟨wr.heap.size,0,none⟩ 1 1 [.int .i64 ((carry+y) % 10)] rfl rfl ?c1 ?c2 ?c3 ?c4 ?c5 ?_)
        case c1 =>
         intro j u hj
         match j,hj with
         | 0,hj=>simp at hj;subst hj;simp[Addr.add]
        case c2=>intro u hu;simp at hu;subst hu;rfl
        case c3=>unfold maxLen;omega
        case c4=>omega
        case c5=>have:=hbn.size;have:=hb.size;omega
        intro v' w2 hown' hgrow _;have hb':=(bCall hb hbn).grown hgrow (by have:=hbn.size;have:=hb.size;omega) (fun k hk=>(hown1.lt k hk).1);clear hown1 hown hi hz hs1 hz1 hby hgrow;go_wp2;refine ⟨⟨i+1,(carry+y) / 10,o++[(carry+y) % 10],by go_num,by first|rfl|(congr 1),by omega,by omega,by omega,by omega,⟨fun h=>hgt.out (by omega)⟩,by rw[List.length_append,List.length_singleton];omega,⟨?_⟩,?_,hb'⟩,by simp[intOf];omega⟩
        · have h7:=hnext.out
          first
           | exact h7
           | (rw [show 0+y+carry=carry+y by omega]at h7;exact h7)
        · rw[List.length_append,List.length_singleton,List.flatMap_append];exact hown'
      · have hdummy:=trivial;obtain rfl:=hxz (by omega);have t0:decide (i<l.length)=false:=decide_eq_false hl;obtain rfl:=hyz (by omega);have t1:decide (i<m.length)=false:=decide_eq_false hm;obtain rfl:carry=1:=hcn (by omega);have hbn:=bNewW wr (.cells #[.int .i64 (1)] 3);have hown1:=own_callG hown hbn;clear q1 q2 hxz hyz hA1 hA2
        go_wp2_with (at_builtin;refine wpList_append_own _ rfl (.tmp 46) (.tmp 49) 25 rfl w.heap.size 3 i0 z0 1 8 Tryz.underlying25 hi hz hs1 hby hz1 (by decide) _ _ _ rfl hown1 ⟨wr.heap.size,0,none⟩ 1 1 [.int .i64 (1)] rfl rfl ?c1 ?c2 ?c3 ?c4 ?c5 ?_)
        case c2=>rfl
        case c3=>unfold maxLen;omega
        case c4=>omega
        case c5=>have:=hbn.size;have:=hb.size;omega
        intro v' w2 hown' hgrow _;have hb':=(bCall hb hbn).grown hgrow (by have:=hbn.size;have:=hb.size;omega) (fun k hk=>(hown1.lt k hk).1);clear hown1 hown hi hz hs1 hz1 hby hgrow;go_wp2;refine ⟨⟨i+1,(1) / 10,o++[(1) % 10],by go_num,by first|rfl|(congr 1),by omega,by omega,by omega,by omega,⟨fun h=>hgt.out (by omega)⟩,by rw[List.length_append,List.length_singleton];omega,⟨?_⟩,?_,hb'⟩,by simp[intOf];omega⟩
        · have h7:=hnext.out
          first
           | exact h7
           | (rw [show 0+0+1=1 by omega]at h7;exact h7)
        · rw[List.length_append,List.length_singleton,List.flatMap_append];exact hown'
theorem rgrp_le {a b:Nat} (h:b<=a):(Dx.grp b).length<=(Dx.grp a).length:=Dx.grp_len (Nat.lt_of_le_of_lt h (Dx.grp_lt a))
structure FrI (B:Nat) (v:Value):Prop where
 out:∀b off n c,v=.slice (some ⟨b,off,none⟩) n c->B<=b
theorem DgAt.far {W:World} {a B:Nat} {v:Value} (h:DgAt W a v) (hF:FrI B v) {p:Addr} (hp:p.block<B) (u:Value):DgAt (W.setCell p u) a v:=by
 obtain⟨A,cap,rfl,hA,h3,h4⟩:=h.out;refine ⟨A,cap,rfl,fun h0=>?_,h3,h4⟩;obtain ⟨b,off,rfl,hb,hc⟩:=hA h0;have hB:=hF.out b off _ _ rfl;exact ⟨b,off,rfl,Nat.lt_of_lt_of_le hb (KeepsOthers.setCell W _ u).size,fun i c hi j v hj=>(cell_block (Below.heap_setCell W p u b (by omega))).trans (hc i c hi j v hj)⟩
theorem rminus_fresh (a b:Nat) (v1 v2:Value) (w:World) (h1:DgAt w a v1) (h2:DgAt w b v2) (hba:b<=a) (la:(Dx.grp a).length<=100000) :
 Calls Tryz.prog 166 #[v1,v2] w fun e w'=>∃v,e=.returned v/\DgAt w' (a-b) v/\Below w.heap.size w w'/\FrI w.heap.size v:=by
 obtain⟨A1,c1,rfl,hA1,hn1,hm1⟩:=h1.out;obtain ⟨A2,c2,rfl,hA2,hn2,hm2⟩:=h2.out;have hlb:=rgrp_le hba
 have hsum:Dx.dsum (fun i=>Dx.atG (Dx.grp a) i-Dx.atG (Dx.grp b) i) (Dx.grp a).length=((a-b:Nat):Int):=by
  rw[Dx.dsum_sub,Dx.dsum_all (Nat.le_refl _),Dx.dsum_all hlb,Dx.gval_grp,Dx.gval_grp];omega
 have ga:=Dx.gr_grp a;have gb:=Dx.gr_grp b;generalize Dx.grp a=l at *;generalize Dx.grp b=m at *;clear h1 h2
 have hend:∀o c,Dx.FoldAt (fun i=>Dx.atG l i-Dx.atG m i) l.length o c->c<=0->Kp (Ig.trimG o=Dx.grp (a-b)):=fun o c h hc=>⟨by
  have h0:=Dx.fold_carry h (by rw[hsum];omega);obtain rfl:c=0:=by omega
  have:=Dx.fold_end h;rw [hsum,Int.toNat_natCast]at this
  exact this⟩
 clear hsum;have hownI:=World.ownsRow_nil w w.heap.size 3 1
 go_enter Tryz.func166,Tryz.ntmps166
 go_wp2_with fail
 go_loopw [5,6,7,8] (fun s5 s6 s7 s8 wr=>∃(i:Nat) (bor:Int) (o:List Int),s7=.int .i64 i/\s6=.int .i64 bor/\0<=bor/\bor<=1/\i<=l.length/\o.length<=i/\Kp (Dx.FoldAt (fun i=>Dx.atG l i-Dx.atG m i) i o (-bor))/\wr.ownsRow w.heap.size 3 1 s5 o.length (o.flatMap intC)/\Below w.heap.size w wr) (fun s5 s6 s7 s8 wr=>l.length-(intOf s7).toNat)
 case atStart=>exact⟨0,0,[],rfl,rfl,by omega,by omega,by omega,Nat.le_refl _,⟨Dx.fold_start _⟩,hownI,Below.refl _ _⟩
 case round =>
  clear hownI;obtain ⟨i,bor,o,rfl,rfl,hc0,hc1,hin,hol,hf,hown,hb⟩:=hrel;by_cases hl:i<l.length
  · have hx:=Dx.atG_in ga i;have hy:=Dx.atG_in gb i;have hnext:=Kp.mk (Dx.fold_step hf.out);have hyz:m.length<=i->Dx.atG m i=0:=fun h=>Dx.atG_ge h
    obtain⟨b1,o1,rfl,hb1,hcc⟩:=(hA1.below hb) (by omega)
    have k1:wr.cell? ⟨b1,o1+i,none⟩=some (.int .i64 (Dx.atG l i)):=by
     have:=hcc i _ (List.getElem?_eq_getElem hl) 0 _ rfl;rw [Dx.atG_lt hl];simpa using this
    have q2:∀_:i<m.length,∃b1 o1,A2=some ⟨b1,o1,none⟩/\wr.cell? ⟨b1,o1+i,none⟩=some (.int .i64 (Dx.atG m i)):=fun h=>by
     obtain⟨b1,o1,e,hb1,hcc⟩:=(hA2.below hb) (by omega)
     have:=hcc i _ (List.getElem?_eq_getElem h) 0 _ rfl;exact ⟨b1,o1,e,by rw[Dx.atG_lt h];simpa using this⟩
    have t0:decide (i<l.length)=true:=decide_eq_true hl;obtain ⟨i0,z0,hi,hz,hs1,hz1,hby⟩:=intI;clear hf hend hcc;generalize Dx.atG l i=x at *;generalize Dx.atG m i=y at *
    rcases (show bor=0∨bor=1 by omega) with rfl|rfl
    · by_cases hm:i<m.length
      · by_cases hneg:x-y<0
        · have hdummy:=trivial;obtain ⟨b2,o2,rfl,k2⟩:=q2 hm;have t1:decide (i<m.length)=true:=decide_eq_true hm;have t2:decide (x-y<0)=true:=decide_eq_true hneg;have hbn:=bNewW wr (.cells #[.int .i64 (x-y+10)] 3);have hown1:=own_callG hown hbn;clear q2 hyz hA1 hA2
          go_wp2_with (at_builtin;refine wpList_append_own _ rfl (.tmp 35) (.tmp 37) 25 rfl w.heap.size 3 i0 z0 1 8 Tryz.underlying25 hi hz hs1 hby hz1 (by decide) _ _ _ rfl hown1 ⟨wr.heap.size,0,none⟩ 1 1 [.int .i64 (x-y+10)] rfl rfl ?_ ?_ ?_ ?_ ?_ ?_)
          all_goals first
           | (intro j u hj;rcases j with _|j <;> simp at hj <;> subst hj <;> simp[Addr.add])
           | (intro u hu;simp at hu;subst hu;rfl)
           | rfl
           | (unfold maxLen;omega)
           | omega
           | (have:=hbn.size;have:=hb.size;omega)
           | skip
          intro v' w2 hown' hgrow _;have hb':=(bCall hb hbn).grown hgrow (by have:=hbn.size;have:=hb.size;omega) (fun k hk=>(hown1.lt k hk).1);clear hown1 hown hi hz hs1 hz1 hby hgrow;go_wp2;refine ⟨⟨i+1,1,o++[x-y+10],by go_num,by first|rfl|(congr 1),by omega,by omega,by omega,by rw[List.length_append,List.length_singleton];omega,⟨?_⟩,?_,hb'⟩,by simp[intOf];omega⟩
          · have h7:=hnext.out;rw [show (x-y+ -0) % 10=x-y+10 by omega,show (x-y+ -0) / 10= -1 by omega]at h7;exact h7
          · rw[List.length_append,List.length_singleton,List.flatMap_append];exact hown'
        · have hdummy:=trivial;obtain ⟨b2,o2,rfl,k2⟩:=q2 hm;have t1:decide (i<m.length)=true:=decide_eq_true hm;have t2:decide (x-y<0)=false:=decide_eq_false hneg;have hbn:=bNewW wr (.cells #[.int .i64 (x-y)] 3);have hown1:=own_callG hown hbn;clear q2 hyz hA1 hA2
          go_wp2_with (at_builtin;refine wpList_append_own _ rfl (.tmp 35) (.tmp 37) 25 rfl w.heap.size 3 i0 z0 1 8 Tryz.underlying25 hi hz hs1 hby hz1 (by decide) _ _ _ rfl hown1 ⟨wr.heap.size,0,none⟩ 1 1 [.int .i64 (x-y)] rfl rfl ?_ ?_ ?_ ?_ ?_ ?_)
          all_goals first
           | (intro j u hj;rcases j with _|j <;> simp at hj <;> subst hj <;> simp[Addr.add])
           | (intro u hu;simp at hu;subst hu;rfl)
           | rfl
           | (unfold maxLen;omega)
           | omega
           | (have:=hbn.size;have:=hb.size;omega)
           | skip
          intro v' w2 hown' hgrow _;have hb':=(bCall hb hbn).grown hgrow (by have:=hbn.size;have:=hb.size;omega) (fun k hk=>(hown1.lt k hk).1);clear hown1 hown hi hz hs1 hz1 hby hgrow;go_wp2;refine ⟨⟨i+1,0,o++[x-y],by go_num,by first|rfl|(congr 1),by omega,by omega,by omega,by rw[List.length_append,List.length_singleton];omega,⟨?_⟩,?_,hb'⟩,by simp[intOf];omega⟩
          · have h7:=hnext.out;rw [show (x-y+ -0) % 10=x-y by omega,show (x-y+ -0) / 10=0 by omega]at h7;exact h7
          · rw[List.length_append,List.length_singleton,List.flatMap_append];exact hown'
      · by_cases hneg:x<0
        · exfalso;omega
        · have hdummy:=trivial;obtain rfl:=hyz (by omega);have t1:decide (i<m.length)=false:=decide_eq_false hm;have t2:decide (x<0)=false:=decide_eq_false hneg;have hbn:=bNewW wr (.cells #[.int .i64 (x)] 3);have hown1:=own_callG hown hbn;clear q2 hyz hA1 hA2
          go_wp2_with (at_builtin;refine wpList_append_own _ rfl (.tmp 35) (.tmp 37) 25 rfl w.heap.size 3 i0 z0 1 8 Tryz.underlying25 hi hz hs1 hby hz1 (by decide) _ _ _ rfl hown1 ⟨wr.heap.size,0,none⟩ 1 1 [.int .i64 (x)] rfl rfl ?_ ?_ ?_ ?_ ?_ ?_)
          all_goals first
           | (intro j u hj;rcases j with _|j <;> simp at hj <;> subst hj <;> simp[Addr.add])
           | (intro u hu;simp at hu;subst hu;rfl)
           | rfl
           | (unfold maxLen;omega)
           | omega
           | (have:=hbn.size;have:=hb.size;omega)
           | skip
          intro v' w2 hown' hgrow _;have hb':=(bCall hb hbn).grown hgrow (by have:=hbn.size;have:=hb.size;omega) (fun k hk=>(hown1.lt k hk).1);clear hown1 hown hi hz hs1 hz1 hby hgrow;go_wp2;refine ⟨⟨i+1,0,o++[x],by go_num,by first|rfl|(congr 1),by omega,by omega,by omega,by rw[List.length_append,List.length_singleton];omega,⟨?_⟩,?_,hb'⟩,by simp[intOf];omega⟩
          · have h7:=hnext.out;rw [show (x-0+ -0) % 10=x by omega,show (x-0+ -0) / 10=0 by omega]at h7;exact h7
          · rw[List.length_append,List.length_singleton,List.flatMap_append];exact hown'
    · by_cases hm:i<m.length
      · by_cases hneg:x-1-y<0
        · have hdummy:=trivial;obtain ⟨b2,o2,rfl,k2⟩:=q2 hm;have t1:decide (i<m.length)=true:=decide_eq_true hm;have t2:decide (x-1-y<0)=true:=decide_eq_true hneg;have hbn:=bNewW wr (.cells #[.int .i64 (x-1-y+10)] 3);have hown1:=own_callG hown hbn;clear q2 hyz hA1 hA2
          go_wp2_with (at_builtin;refine wpList_append_own _ rfl (.tmp 35) (.tmp 37) 25 rfl w.heap.size 3 i0 z0 1 8 Tryz.underlying25 hi hz hs1 hby hz1 (by decide) _ _ _ rfl hown1 ⟨wr.heap.size,0,none⟩ 1 1 [.int .i64 (x-1-y+10)] rfl rfl ?_ ?_ ?_ ?_ ?_ ?_)
          all_goals first
           | (intro j u hj;rcases j with _|j <;> simp at hj <;> subst hj <;> simp[Addr.add])
           | (intro u hu;simp at hu;subst hu;rfl)
           | rfl
           | (unfold maxLen;omega)
           | omega
           | (have:=hbn.size;have:=hb.size;omega)
           | skip
          intro v' w2 hown' hgrow _;have hb':=(bCall hb hbn).grown hgrow (by have:=hbn.size;have:=hb.size;omega) (fun k hk=>(hown1.lt k hk).1);clear hown1 hown hi hz hs1 hz1 hby hgrow;go_wp2;refine ⟨⟨i+1,1,o++[x-1-y+10],by go_num,by first|rfl|(congr 1),by omega,by omega,by omega,by rw[List.length_append,List.length_singleton];omega,⟨?_⟩,?_,hb'⟩,by simp[intOf];omega⟩
          · have h7:=hnext.out;rw [show (x-y+ -1) % 10=x-1-y+10 by omega,show (x-y+ -1) / 10= -1 by omega]at h7;exact h7
          · rw[List.length_append,List.length_singleton,List.flatMap_append];exact hown'
        · have hdummy:=trivial;obtain ⟨b2,o2,rfl,k2⟩:=q2 hm;have t1:decide (i<m.length)=true:=decide_eq_true hm;have t2:decide (x-1-y<0)=false:=decide_eq_false hneg;have hbn:=bNewW wr (.cells #[.int .i64 (x-1-y)] 3);have hown1:=own_callG hown hbn;clear q2 hyz hA1 hA2
          go_wp2_with (at_builtin;refine wpList_append_own _ rfl (.tmp 35) (.tmp 37) 25 rfl w.heap.size 3 i0 z0 1 8 Tryz.underlying25 hi hz hs1 hby hz1 (by decide) _ _ _ rfl hown1 ⟨wr.heap.size,0,none⟩ 1 1 [.int .i64 (x-1-y)] rfl rfl ?_ ?_ ?_ ?_ ?_ ?_)
          all_goals first
           | (intro j u hj;rcases j with _|j <;> simp at hj <;> subst hj <;> simp[Addr.add])
           | (intro u hu;simp at hu;subst hu;rfl)
           | rfl
           | (unfold maxLen;omega)
           | omega
           | (have:=hbn.size;have:=hb.size;omega)
           | skip
          intro v' w2 hown' hgrow _;have hb':=(bCall hb hbn).grown hgrow (by have:=hbn.size;have:=hb.size;omega) (fun k hk=>(hown1.lt k hk).1);clear hown1 hown hi hz hs1 hz1 hby hgrow;go_wp2;refine ⟨⟨i+1,0,o++[x-1-y],by go_num,by first|rfl|(congr 1),by omega,by omega,by omega,by rw[List.length_append,List.length_singleton];omega,⟨?_⟩,?_,hb'⟩,by simp[intOf];omega⟩
          · have h7:=hnext.out;rw [show (x-y+ -1) % 10=x-1-y by omega,show (x-y+ -1) / 10=0 by omega]at h7;exact h7
          · rw[List.length_append,List.length_singleton,List.flatMap_append];exact hown'
      · by_cases hneg:x-1<0
        · have hdummy:=trivial;obtain rfl:=hyz (by omega);have t1:decide (i<m.length)=false:=decide_eq_false hm;have t2:decide (x-1<0)=true:=decide_eq_true hneg;have hbn:=bNewW wr (.cells #[.int .i64 (x-1+10)] 3);have hown1:=own_callG hown hbn;clear q2 hyz hA1 hA2
          go_wp2_with (at_builtin;refine wpList_append_own _ rfl (.tmp 35) (.tmp 37) 25 rfl w.heap.size 3 i0 z0 1 8 Tryz.underlying25 hi hz hs1 hby hz1 (by decide) _ _ _ rfl hown1 ⟨wr.heap.size,0,none⟩ 1 1 [.int .i64 (x-1+10)] rfl rfl ?_ ?_ ?_ ?_ ?_ ?_)
          all_goals first
           | (intro j u hj;rcases j with _|j <;> simp at hj <;> subst hj <;> simp[Addr.add])
           | (intro u hu;simp at hu;subst hu;rfl)
           | rfl
           | (unfold maxLen;omega)
           | omega
           | (have:=hbn.size;have:=hb.size;omega)
           | skip
          intro v' w2 hown' hgrow _;have hb':=(bCall hb hbn).grown hgrow (by have:=hbn.size;have:=hb.size;omega) (fun k hk=>(hown1.lt k hk).1);clear hown1 hown hi hz hs1 hz1 hby hgrow;go_wp2;refine ⟨⟨i+1,1,o++[x-1+10],by go_num,by first|rfl|(congr 1),by omega,by omega,by omega,by rw[List.length_append,List.length_singleton];omega,⟨?_⟩,?_,hb'⟩,by simp[intOf];omega⟩
          · have h7:=hnext.out;rw [show (x-0+ -1) % 10=x-1+10 by omega,show (x-0+ -1) / 10= -1 by omega]at h7;exact h7
          · rw[List.length_append,List.length_singleton,List.flatMap_append];exact hown'
        · have hdummy:=trivial;obtain rfl:=hyz (by omega);have t1:decide (i<m.length)=false:=decide_eq_false hm;have t2:decide (x-1<0)=false:=decide_eq_false hneg;have hbn:=bNewW wr (.cells #[.int .i64 (x-1)] 3);have hown1:=own_callG hown hbn;clear q2 hyz hA1 hA2
          go_wp2_with (at_builtin;refine wpList_append_own _ rfl (.tmp 35) (.tmp 37) 25 rfl w.heap.size 3 i0 z0 1 8 Tryz.underlying25 hi hz hs1 hby hz1 (by decide) _ _ _ rfl hown1 ⟨wr.heap.size,0,none⟩ 1 1 [.int .i64 (x-1)] rfl rfl ?_ ?_ ?_ ?_ ?_ ?_)
          all_goals first
           | (intro j u hj;rcases j with _|j <;> simp at hj <;> subst hj <;> simp[Addr.add])
           | (intro u hu;simp at hu;subst hu;rfl)
           | rfl
           | (unfold maxLen;omega)
           | omega
           | (have:=hbn.size;have:=hb.size;omega)
           | skip
          intro v' w2 hown' hgrow _;have hb':=(bCall hb hbn).grown hgrow (by have:=hbn.size;have:=hb.size;omega) (fun k hk=>(hown1.lt k hk).1);clear hown1 hown hi hz hs1 hz1 hby hgrow;go_wp2;refine ⟨⟨i+1,0,o++[x-1],by go_num,by first|rfl|(congr 1),by omega,by omega,by omega,by rw[List.length_append,List.length_singleton];omega,⟨?_⟩,?_,hb'⟩,by simp[intOf];omega⟩
          · have h7:=hnext.out;rw [show (x-0+ -1) % 10=x-1 by omega,show (x-0+ -1) / 10=0 by omega]at h7;exact h7
          · rw[List.length_append,List.length_singleton,List.flatMap_append];exact hown'
  · obtain rfl:i=l.length:=by omega
    have hfin:=hend o (-bor) hf.out (by omega);have t0:decide (l.length<l.length)=false:=decide_eq_false hl;obtain ⟨A,cap,rfl,hA,hcap,hcm,hfr⟩:=own_at hown;have hT:=rtrim_any o A cap wr hA hcap (by omega);have hN:=dg_of hA hcap hcm hfin;have hF:FrI w.heap.size (.slice A (Ig.trimG o).length cap):=⟨fun b off n c h=>hfr b off (by simp only[Value.slice.injEq]at h;exact h.1)⟩
    clear hfr;clear hown hend hf hA hfin;generalize (Ig.trimG o).length=n6 at *;go_wp2_with fail;refine hT.mono ?_;rintro _ _ ⟨rfl,rfl⟩;clear hT;go_wp2;go_ret;exact ⟨_,rfl,hN,hb,hF⟩
theorem rminus_any (a b:Nat) (v1 v2:Value) (w:World) (h1:DgAt w a v1) (h2:DgAt w b v2) (hba:b<=a) (la:(Dx.grp a).length<=100000) :
 Calls Tryz.prog 166 #[v1,v2] w fun e w'=>∃v,e=.returned v/\DgAt w' (a-b) v/\Below w.heap.size w w' :=
 (rminus_fresh a b v1 v2 w h1 h2 hba la).mono fun _ _ ⟨v,e,h,hb,_⟩=>⟨v,e,h,hb⟩
def rdig (d:List UInt8) (r:Nat):List Int:=(d.drop r).reverse.map fun c=>(c.toNat:Int)-48
theorem rdig_step {d:List UInt8} {r:Nat} (h:r<d.length):rdig d r=rdig d (r+1)++[(d[r].toNat:Int)-48]:=by
 unfold rdig
 rw[List.drop_eq_getElem_cons h,List.reverse_cons,List.map_append,List.map_singleton]
theorem rdig_end (d:List UInt8):rdig d d.length=[]:=by simp[rdig]
theorem rdig_all {n:Nat} (h:n≠0):rdig (Lib.decDigits n) 0=Dx.grp n:=by
 unfold rdig
 rw[List.drop_zero,Dx.dec_grp h,←List.map_reverse,List.reverse_reverse,List.map_map]
 conv=>rhs;rw[←List.map_id (Dx.grp n)]
 refine List.map_congr_left fun g hg=>?_
 have:=Dx.gr_grp n g hg
 show ((Ig.dg g.toNat).toNat:Int)-48=g
 rw[Ig.dg_nat (by omega)];omega
theorem dec_byte {n:Nat} {r:Nat} (h:r<(Lib.decDigits n).length):48<=((Lib.decDigits n)[r]).toNat/\((Lib.decDigits n)[r]).toNat<=57:=by
 have:=List.all_eq_true.1 (Ig.dec_digits n) _ (List.getElem_mem h);simpa [Ig.isD] using this
theorem dec_not0 {n:Nat} (h:n≠0):Lib.decDigits n≠[48]:=fun e=>by
 have:=Ig.nv_dec n;rw [e]at this;exact h this.symm
theorem dg_own {W:World} {B n:Nat} {v:Value} {o:List Int} (h:W.ownsRow B 3 1 v o.length (o.flatMap intC)) (ho:o=Dx.grp n):DgAt W n v:=by
 subst ho;obtain ⟨A,cap,rfl,hA,hc,hm,-⟩:=own_at h;exact ⟨A,cap,rfl,hA,hc,hm⟩
theorem rdigits_neg (z:Int) (n:Nat) (s:List UInt8) (w:World) (hz0:z<0) (hs:s=45 :: Lib.decDigits n) (hn:n≠0) (hlen:0<(Lib.decDigits n).length/\(Lib.decDigits n).length<=1000000) :
 Calls Tryz.prog 160 #[.string ⟨s.toArray⟩] w fun e w'=>∃v,e=.returned (.tuple #[.bool (decide (z<0)),v])/\DgAt w' n v/\Below w.heap.size w w':=by
 obtain⟨d,hd⟩:=exK (Lib.decDigits n);have hby:=fun r (h:r<(Lib.decDigits n).length)=>dec_byte h
 have hend:=Kp.mk (rdig_all hn);have hne:=Kp.mk (dec_not0 hn);rw [hd.out]at hs hby hend hne hlen;have hz:=Kp.mk hn;clear hd hn;have hzn:decide (z<0)=true:=decide_eq_true hz0;subst hs;have hownI:=World.ownsRow_nil w w.heap.size 3 1
 go_enter Tryz.func160,Tryz.ntmps160
 go_wp2_with fail
 go_loopw [5,6] (fun s5 s6 wr=>∃(r:Nat) (o:List Int),r<=d.length/\s6=.int .i64 ((r:Int)-1)/\Kp (o=rdig d r)/\Kp (o.length=d.length-r)/\wr.ownsRow w.heap.size 3 1 s5 o.length (o.flatMap intC)/\Below w.heap.size w wr) (fun s5 s6 wr=>(intOf s6+1).toNat)
 case atStart=>exact⟨d.length,[],Nat.le_refl _,by go_num,⟨(rdig_end _).symm⟩,⟨by simp⟩,hownI,Below.refl _ _⟩
 case round =>
  clear hownI;obtain ⟨r,o,hr,rfl,ho,hol,hown,hb⟩:=hrel
  cases r with
  | zero =>
   rw[show (((0:Nat):Int)-1)= -1 from rfl];have hfin:=dg_own hown (ho.out.trans hend.out);clear hown ho hend hby;go_wp2
   go_ret2
   exact⟨_,by rw[hzn];rfl,hfin,hb⟩
  | succ r =>
   rw[show (((r+1:Nat):Int)-1)=(r:Int) by omega];have hrl:r<d.length:=by omega
   have hx:=hby r hrl;have hst:=Kp.mk (rdig_step hrl);have q1:(d==[48])=false:=by simpa using hne.out
   have q2:(d != [48])=true:=by simpa using hne.out
   have hol2:=hol.out;have hol3:o.length<=1000000:=by omega
   clear hol2;obtain ⟨i0,z0,hi,hz2,hs1,hz1,hbys⟩:=intI;clear hend hby;generalize hxx:d[r].toNat=x at *;have hbn:=bNewW wr (.cells #[.int .i64 ((x:Int)-48)] 3);have hown1:=own_callG hown hbn
   go_wp2_with (at_builtin;refine wpList_append_own _ rfl (.tmp 24) (.tmp 30) 25 rfl w.heap.size 3 i0 z0 1 8 Tryz.underlying25 hi hz2 hs1 hbys hz1 (by decide) _ _ _ rfl hown1 ⟨wr.heap.size,0,none⟩ 1 1 [.int .i64 ((x:Int)-48)] rfl rfl ?_ ?_ ?_ ?_ ?_ ?_)
   all_goals first
    | (intro j u hj;rcases j with _|j <;> simp at hj <;> subst hj <;> simp[Addr.add])
    | (intro u hu;simp at hu;subst hu;rfl)
    | rfl
    | (unfold maxLen;omega)
    | omega
    | (have:=hbn.size;have:=hb.size;omega)
    | skip
   intro v' w2 hown' hgrow _;have hb':=(bCall hb hbn).grown hgrow (by have:=hbn.size;have:=hb.size;omega) (fun k hk=>(hown1.lt k hk).1);clear hown1 hown hi hz2 hs1 hz1 hbys hgrow;go_wp2;refine ⟨⟨r,o++[(x:Int)-48],by omega,by go_num,⟨?_⟩,⟨?_⟩,?_,hb'⟩,by simp[intOf]⟩
   · rw[hst.out,ho.out]
   · rw[List.length_append,List.length_singleton,hol.out];omega
   · rw[List.length_append,List.length_singleton,List.flatMap_append];exact hown'
theorem rdigits_pos (z:Int) (n:Nat) (s:List UInt8) (w:World) (hz0:¬z<0) (hs:s=Lib.decDigits n) (hn:n≠0) (hlen:0<(Lib.decDigits n).length/\(Lib.decDigits n).length<=1000000) :
 Calls Tryz.prog 160 #[.string ⟨s.toArray⟩] w fun e w'=>∃v,e=.returned (.tuple #[.bool (decide (z<0)),v])/\DgAt w' n v/\Below w.heap.size w w':=by
 obtain⟨d,hd⟩:=exK (Lib.decDigits n);have hby:=fun r (h:r<(Lib.decDigits n).length)=>dec_byte h
 have hend:=Kp.mk (rdig_all hn);have hne:=Kp.mk (dec_not0 hn);rw [hd.out]at hs hby hend hne hlen;have hz:=Kp.mk hn;clear hd hn;have hzn:decide (z<0)=false:=decide_eq_false hz0;obtain rfl:=hs;have hpos:0<s.length:=by omega
 have hnm:¬s[0].toNat=45:=fun h=>by have:=(hby 0 hpos).1;omega
 have t9:decide (((s[0].toNat:Nat):Int)=45)=false:=decide_eq_false (by omega);have t9':(((s[0].toNat:Nat):Int)==45)=false:=by simp;omega
 have hownI:=World.ownsRow_nil w w.heap.size 3 1
 go_enter Tryz.func160,Tryz.ntmps160
 go_wp2_with fail
 go_loopw [5,6] (fun s5 s6 wr=>∃(r:Nat) (o:List Int),r<=s.length/\s6=.int .i64 ((r:Int)-1)/\Kp (o=rdig s r)/\Kp (o.length=s.length-r)/\wr.ownsRow w.heap.size 3 1 s5 o.length (o.flatMap intC)/\Below w.heap.size w wr) (fun s5 s6 wr=>(intOf s6+1).toNat)
 case atStart=>exact⟨s.length,[],Nat.le_refl _,by go_num,⟨(rdig_end _).symm⟩,⟨by simp⟩,hownI,Below.refl _ _⟩
 case round =>
  clear hownI;obtain ⟨r,o,hr,rfl,ho,hol,hown,hb⟩:=hrel
  cases r with
  | zero =>
   rw[show (((0:Nat):Int)-1)= -1 from rfl];have hfin:=dg_own hown (ho.out.trans hend.out);clear hown ho hend hby;go_wp2
   go_ret2
   exact⟨_,by rw[hzn];rfl,hfin,hb⟩
  | succ r =>
   rw[show (((r+1:Nat):Int)-1)=(r:Int) by omega];have hrl:r<s.length:=by omega
   have hx:=hby r hrl;have hst:=Kp.mk (rdig_step hrl);have q1:(s==[48])=false:=by simpa using hne.out
   have q2:(s != [48])=true:=by simpa using hne.out
   have hol2:=hol.out;have hol3:o.length<=1000000:=by omega
   clear hol2;obtain ⟨i0,z0,hi,hz2,hs1,hz1,hbys⟩:=intI;clear hend hby;generalize hxx:s[r].toNat=x at *;have hbn:=bNewW wr (.cells #[.int .i64 ((x:Int)-48)] 3);have hown1:=own_callG hown hbn
   go_wp2_with (at_builtin;refine wpList_append_own _ rfl (.tmp 24) (.tmp 30) 25 rfl w.heap.size 3 i0 z0 1 8 Tryz.underlying25 hi hz2 hs1 hbys hz1 (by decide) _ _ _ rfl hown1 ⟨wr.heap.size,0,none⟩ 1 1 [.int .i64 ((x:Int)-48)] rfl rfl ?_ ?_ ?_ ?_ ?_ ?_)
   all_goals first
    | (intro j u hj;rcases j with _|j <;> simp at hj <;> subst hj <;> simp[Addr.add])
    | (intro u hu;simp at hu;subst hu;rfl)
    | rfl
    | (unfold maxLen;omega)
    | omega
    | (have:=hbn.size;have:=hb.size;omega)
    | skip
   intro v' w2 hown' hgrow _;have hb':=(bCall hb hbn).grown hgrow (by have:=hbn.size;have:=hb.size;omega) (fun k hk=>(hown1.lt k hk).1);clear hown1 hown hi hz2 hs1 hz1 hbys hgrow;go_wp2;refine ⟨⟨r,o++[(x:Int)-48],by omega,by go_num,⟨?_⟩,⟨?_⟩,?_,hb'⟩,by simp[intOf]⟩
   · rw[hst.out,ho.out]
   · rw[List.length_append,List.length_singleton,hol.out];omega
   · rw[List.length_append,List.length_singleton,List.flatMap_append];exact hown'
theorem rdigits_zero (w:World):Calls Tryz.prog 160 #[.string ⟨#[48]⟩] w fun e w'=>∃v,e=.returned (.tuple #[.bool false,v])/\DgAt w' 0 v/\Below w.heap.size w w':=by
 have hfin:∀wr:World,DgAt wr 0 (.slice none 0 0):=fun wr=>⟨none,0,by rw[Dx.grp_zero];rfl,by rw[Dx.grp_zero];exact At.nil,by rw[Dx.grp_zero];exact Nat.le_refl _,Nat.zero_le _⟩
 go_enter Tryz.func160,Tryz.ntmps160
 go_wp2_with fail
 go_loopw [5,6] (fun s5 s6 wr=>s5=.slice none 0 0/\s6=.int .i64 0/\wr=w) (fun s5 s6 wr=>0)
 case atStart=>exact⟨rfl,rfl,rfl⟩
 case round =>
  obtain⟨rfl,rfl,rfl⟩:=hrel;go_wp2
  go_ret2
  exact⟨_,rfl,hfin _,Below.refl _ _⟩
theorem rdigits_any (z:Int) (w:World) (hz:(Lib.decDigits z.natAbs).length<=1000000) :
 Calls Tryz.prog 160 #[.string ⟨(Lib.itoa z).toArray⟩] w fun e w'=>∃v,e=.returned (.tuple #[.bool (decide (z<0)),v])/\DgAt w' z.natAbs v/\Below w.heap.size w w':=by
 have hpos:0<(Lib.decDigits z.natAbs).length:=by
  have:=Ig.dec_ne z.natAbs
  cases h:Lib.decDigits z.natAbs with
  | nil=>exact absurd h this
  | cons a l=>simp
 by_cases h0:z=0
 · subst h0;have e:Lib.itoa 0=[48]:=by rw[Ig.itoa_nonneg (by decide),show Int.natAbs 0=0 from rfl,Ig.dec_small (by decide)];rfl
   have e2:decide ((0:Int)<0)=false:=rfl;rw [e,e2];exact rdigits_zero w
 · by_cases hn:z<0
   · exact rdigits_neg z z.natAbs _ w hn (Ig.itoa_neg hn) (by omega) ⟨hpos,hz⟩
   · exact rdigits_pos z z.natAbs _ w hn (Ig.itoa_nonneg (by omega)) (by omega) ⟨hpos,hz⟩
end Go.Proofs.YtelljijajgiabaaGreatDoor

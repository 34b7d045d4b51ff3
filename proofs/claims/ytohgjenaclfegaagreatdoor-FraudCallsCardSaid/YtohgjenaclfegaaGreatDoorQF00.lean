import Init.Data.Int.Pow
import Derived.Test.YtohgjenaclfegaaGreatDoorQT04
set_option linter.unusedVariables false
set_option linter.unusedSimpArgs false
set_option maxRecDepth 100000
set_option maxHeartbeats 8000000
namespace Go.Proofs.YtohgjenaclfegaaGreatDoor
namespace Tf
def cnt (p:Int->Bool) (a:Int):Nat->Nat
 | 0=>0
 | k+1=>cnt p a k+if p (a+k) then 1 else 0
theorem cnt_le (p:Int->Bool) (a:Int) (k:Nat):cnt p a k<=k:=by
 induction k with
 | zero=>exact Nat.le_refl _
 | succ k ih=>simp only[cnt];split <;> omega
theorem yQ {p:Int->Bool} {a:Int} {k:Nat} (h:∀t,a<=t->t<a+k->p t=false):cnt p a k=0:=by
 induction k with
 | zero=>rfl
 | succ k ih =>
  simp only[cnt];rw [ih (fun t h1 h2=>h t h1 (by omega)),h (a+k) (by omega) (by omega)];simp
theorem Kq {p:Int->Bool} {a:Int} {k:Nat} (h:∀t,a<=t->t<a+k->p t=true):cnt p a k=k:=by
 induction k with
 | zero=>rfl
 | succ k ih =>
  simp only[cnt];rw [ih (fun t h1 h2=>h t h1 (by omega)),h (a+k) (by omega) (by omega)];simp
theorem first (p:Int->Bool) (a:Int) (k:Nat):(∀j:Nat,j<k->p (a+j)=false)∨∃j:Nat,j<k/\p (a+j)=true/\∀i:Nat,i<j->p (a+i)=false:=by
 induction k with
 | zero=>exact .inl fun j h=>absurd h (by omega)
 | succ k ih =>
  rcases ih with h|⟨j,h1,h2,h3⟩
  · cases hp:p (a+k) with
    | true=>exact .inr ⟨k,by omega,hp,h⟩
    | false =>
     refine .inl fun j hj=>?_
     rcases Nat.lt_or_eq_of_le (Nat.le_of_lt_succ hj) with h4|h4
     · exact h j h4
     · rw[h4];exact hp
  · exact .inr ⟨j,by omega,h2,h3⟩
abbrev Pr:=List UInt8 × List UInt8
structure Ru where
 c:Int
 e:Int
 lo:Int
 re:Int
 pay:Int
structure Ho where
 n:Int
 f:Int
 b:Pr
 v:Int
 d:Int
def fin (r:Ru) (h:Ho):Int:=if h.v=2 then min (h.f+r.lo) h.d else h.f+r.lo
def Nx (r:Ru) (a b:Ho):Prop:=a.f<=b.f/\(a.n=b.n->fin r a+r.re<=b.f)
def Sp (r:Ru) (h:Ho):Prop:=h.f<=fin r h/\fin r h<=h.f+r.lo
def VB (r:Ru) (h:Ho) (t:Int):Bool:=decide (h.f<=t)&&decide (t<fin r h)
def held (r:Ru) (l:List Ho) (n t:Int):Bool:=l.any fun h=>h.n==n&&VB r h t
theorem Ju {r:Ru} {h:Ho} (hl:0<=r.lo) (hd:h.v=2->h.f<=h.d):Sp r h:=by
 unfold Sp fin
 split
 · have:=hd ‹_›;omega
 · omega
theorem QT {r:Ru} {l:List Ho} {n t:Int}:held r l n t=true↔∃h∈l,h.n=n/\h.f<=t/\t<fin r h:=by
 simp only[held,VB,List.any_eq_true,Bool.and_eq_true,beq_iff_eq,decide_eq_true_eq]
theorem Yz {α:Type} {R:α->α->Prop} {l:List α} (hp:l.Pairwise R) {a b:α} (ha:a∈l) (hb:b∈l):a=b∨R a b∨R b a:=by
 induction l with
 | nil=>cases ha
 | cons x l ih =>
  obtain⟨h1,h2⟩:=List.pairwise_cons.1 hp
  rcases List.mem_cons.1 ha with ea|ha
  · rcases List.mem_cons.1 hb with eb|hb
    · exact .inl (ea.trans eb.symm)
    · exact .inr (.inl (ea ▸ h1 _ hb))
  · rcases List.mem_cons.1 hb with eb|hb
    · exact .inr (.inr (eb ▸ h1 _ ha))
    · exact ih h2 ha hb
theorem rest {r:Ru} {l:List Ho} {n:Int} (hre:0<=r.re) (hp:l.Pairwise (Nx r)) (hs:∀h∈l,Sp r h) {h:Ho} (hh:h∈l) (hn:h.n=n) {t:Int} (h1:fin r h<=t) (h2:t<fin r h+r.re):held r l n t=false:=by
 cases hb:held r l n t with
 | false=>rfl
 | true =>
  obtain⟨g,hg,hgn,hg1,hg2⟩:=QT.1 hb;have:=(hs h hh).1
  rcases Yz hp hh hg with rfl|h3|h3
  · omega
  · have:=h3.2 (by omega);omega
  · have:=h3.2 (by omega);omega
def lens (r:Ru) (n:Int) (l:List Ho):Int:=l.foldl (fun s h=>if h.n=n then s+(fin r h-h.f) else s) 0
def later (s:Int) (h:Ho):Ho:={ h with f:=h.f+s,d:=if h.v=0 then h.d else h.d+s }
theorem MR (r:Ru) (s:Int) (h:Ho):fin r (later s h)=fin r h+s:=by
 have e1:(later s h).f=h.f+s:=rfl;have e2:(later s h).v=h.v:=rfl;have e3:(later s h).d=if h.v=0 then h.d else h.d+s:=rfl
 unfold fin
 rw[e1,e2,e3];by_cases h2:h.v=2
 · rw[if_pos h2,if_pos h2,if_neg (by omega)];omega
 · rw[if_neg h2,if_neg h2];omega
theorem Qj {r:Ru} {l:List Ho} (s:Int) (hp:l.Pairwise (Nx r)):(l.map (later s)).Pairwise (Nx r):=by
 rw[List.pairwise_map];refine hp.imp fun {a b} h=>⟨?_,?_⟩
 · have:=h.1;simp only[later];omega
 · intro hn;have:=h.2 hn;rw [MR];simp only[later];omega
end Tf
namespace Tf
structure WG (r:Ru):Prop where
 e1:1<=r.e
 e2:r.e<=1000
 c0:0<=r.c
 ce:r.c<=r.e
 l1:1<=r.lo
 l2:r.lo<=1000000
 r1:1<=r.re
 r2:r.re<=1000000
 p0:0<=r.pay
 p2:r.pay<=1000
structure Fm (P:Pr->Prop) (h:Ho):Prop where
 n0:0<=h.n
 n2:h.n<=99999999
 f0:0<=h.f
 f2:h.f<=10000000
 b:P h.b
 v:h.v=0/\h.d=0∨(h.v=1∨h.v=2)/\h.f<=h.d/\h.d<=11000000
structure Va (P:Pr->Prop) (r:Ru) (l:List Ho):Prop where
 len:l.length<=20
 fm:∀h∈l,Fm P h
 nx:l.Pairwise (Nx r)
theorem Va.nil (P:Pr->Prop) (r:Ru):Va P r []:=⟨Nat.zero_le _,fun h hh=>absurd hh (List.not_mem_nil),List.Pairwise.nil⟩
theorem Va.sp {P:Pr->Prop} {r:Ru} {l:List Ho} (hr:0<=r.lo) (h:Va P r l):∀g∈l,Sp r g:=fun g hg=>by
 have hf:=(h.fm g hg)
 refine Ju hr fun h2=>?_
 rcases hf.v with ⟨h3,-⟩|⟨-,h3,-⟩
 · omega
 · exact h3
theorem Va.front {P:Pr->Prop} {r:Ru} {l k:List Ho} (h:Va P r (l++k)):Va P r l :=
 ⟨by have:=h.len;simp at this;omega,fun g hg=>h.fm g (List.mem_append_left _ hg),(List.pairwise_append.1 h.nx).1⟩
theorem Va.snoc {P:Pr->Prop} {r:Ru} {l:List Ho} {h:Ho}:Va P r (l++[h])↔Va P r l/\l.length<20/\Fm P h/\∀g∈l,Nx r g h:=by
 constructor
 · intro hv;refine ⟨hv.front,by have:=hv.len;simp at this;omega,hv.fm h (by simp),fun g hg=>?_⟩;exact (List.pairwise_append.1 hv.nx).2.2 g hg h (by simp)
 · rintro ⟨h1,h2,h3,h4⟩;refine ⟨by simp;omega,fun g hg=>?_,List.pairwise_append.2 ⟨h1.nx,List.pairwise_singleton ..,fun a ha b hb=>?_⟩⟩
   · rcases List.mem_append.1 hg with hg|hg
     · exact h1.fm g hg
     · rw[List.mem_singleton.1 hg];exact h3
   · rw[List.mem_singleton.1 hb];exact h4 a ha
theorem Va.later {P:Pr->Prop} {r:Ru} {l:List Ho} {s:Int} (hs:0<=s) (h:Va P r l) (h1:∀g∈l,g.f+s<=10000000) (h2:∀g∈l,g.d+s<=11000000):Va P r (l.map (later s)) :=
 ⟨by rw[List.length_map];exact h.len,fun g hg=>by
  obtain⟨k,hk,rfl⟩:=List.mem_map.1 hg;have hf:=h.fm k hk;have a1:=h1 k hk;have a2:=h2 k hk;have a3:=hf.f0;refine ⟨hf.n0,hf.n2,by simp only[Tf.later];omega,by simp only[Tf.later];omega,hf.b,?_⟩;simp only[Tf.later]
  rcases hf.v with ⟨h3,h4⟩|⟨h3,h4,h5⟩
  · left;rw[if_pos h3];exact⟨h3,h4⟩
  · right;rw[if_neg (by omega)];exact⟨h3,by omega,by omega⟩,Qj s h.nx⟩
theorem Va.one {P:Pr->Prop} {r:Ru} {h:Ho} (hf:Fm P h):Va P r [h]:=⟨by simp,fun g hg=>by rw[List.mem_singleton.1 hg];exact hf,List.pairwise_singleton ..⟩
def nf (r:Ru) (l:List Ho) (n f:Int):Int:=l.foldl (fun f h=>if h.n=n then max f (fin r h+r.re) else f) f
theorem Xj (r:Ru) (l:List Ho) (n f:Int):f<=nf r l n f:=by
 induction l generalizing f with
 | nil=>exact Int.le_refl _
 | cons h l ih =>
  simp only[nf,List.foldl_cons];refine Int.le_trans ?_ (ih _)
  split <;> omega
theorem YJ {r:Ru} {l:List Ho} {n:Int} (f:Int) {h:Ho} (hh:h∈l) (hn:h.n=n):fin r h+r.re<=nf r l n f:=by
 induction l generalizing f with
 | nil=>cases hh
 | cons g l ih =>
  simp only[nf,List.foldl_cons]
  rcases List.mem_cons.1 hh with e|hh
  · subst e;rw [if_pos hn];exact Int.le_trans (by omega) (Xj r l n _)
  · exact ih _ hh
theorem nf_ub {r:Ru} {l:List Ho} {n f m:Int} (h0:f<=m) (hl:∀h∈l,fin r h+r.re<=m):nf r l n f<=m:=by
 induction l generalizing f with
 | nil=>exact h0
 | cons g l ih =>
  simp only[nf,List.foldl_cons];refine ih ?_ fun h hh=>hl h (List.mem_cons_of_mem _ hh)
  have:=hl g (List.mem_cons_self ..)
  split <;> omega
structure X4 where
 a:Int
 b:Int
 c:Int
 d:Int
def mkH (B:Int->Pr) (r:Ru) (l:List Ho) (last:Int) (x:X4):Ho :=
 let n:=5+Tp.pick x.a 3
 let f:=nf r l n (last+Tp.pick x.b 8)
 ⟨n,f,B (Tp.pick (x.b.tdiv 8) (r.c+1)),Tp.pick x.c 3,if Tp.pick x.c 3=0 then 0 else f+Tp.pick x.d (r.lo+3)⟩
def WY (B:Int->Pr) (r:Ru) (s:List Ho × Int) (x:X4):List Ho × Int:=(s.1++[mkH B r s.1 s.2 x],(mkH B r s.1 s.2 x).f)
structure TS (P:Pr->Prop) (r:Ru) (k:Nat) (s:List Ho × Int):Prop where
 va:Va P r s.1
 len:s.1.length=k
 le:∀h∈s.1,h.f<=s.2
 nn:∀h∈s.1,5<=h.n/\h.n<=7
 dd:∀h∈s.1,h.d<=h.f+22
 l0:0<=s.2
 l2:s.2<=48*k
theorem TS.step {P:Pr->Prop} {B:Int->Pr} {r:Ru} {k:Nat} {s:List Ho × Int} (hr:WG r) (hlo:r.lo<=20) (hre:r.re<=20) (hB:∀p,0<=p->p<=r.c->P (B p)) (hk:k<8) (h:TS P r k s) (x:X4):TS P r (k+1) (WY B r s x):=by
 obtain⟨l,last⟩:=s;have va:=h.va;have hlen:=h.len;have hle:=h.le;have hl0:=h.l0;have hl2:=h.l2;simp only at va hlen hle hl0 hl2;have p1:=Tp.rU x.a (show (0:Int)<3 by decide);have p2:=Tp.rU x.b (show (0:Int)<8 by decide);have p3:=Tp.rU (x.b.tdiv 8) (show 0<r.c+1 by have:=hr.c0;omega);have p4:=Tp.rU x.c (show (0:Int)<3 by decide);have p5:=Tp.rU x.d (show 0<r.lo+3 by have:=hr.l1;omega);have hlo1:=hr.l1;have hsp:=va.sp (by omega);have hf1:=Xj r l (5+Tp.pick x.a 3) (last+Tp.pick x.b 8)
 have hf2:nf r l (5+Tp.pick x.a 3) (last+Tp.pick x.b 8)<=last+40:=nf_ub (by omega) fun g hg=>by
  have:=(hsp g hg).2;have:=hle g hg;omega
 have hf3:∀g∈l,g.n=5+Tp.pick x.a 3->fin r g+r.re<=nf r l (5+Tp.pick x.a 3) (last+Tp.pick x.b 8):=fun g hg hn=>YJ _ hg hn
 have hm:∃m:Ho,m=mkH B r l last x/\m.n=5+Tp.pick x.a 3/\m.f=nf r l (5+Tp.pick x.a 3) (last+Tp.pick x.b 8)/\P m.b/\m.v=Tp.pick x.c 3/\m.d=if Tp.pick x.c 3=0 then 0 else m.f+Tp.pick x.d (r.lo+3) :=
  ⟨_,rfl,rfl,rfl,hB _ p3.1 (by omega),rfl,rfl⟩
 obtain⟨m,hm,m1,m2,m3,m4,m5⟩:=hm;have hst:WY B r (l,last) x=(l++[m],m.f):=by rw[hm];rfl
 rw[hst];generalize nf r l (5+Tp.pick x.a 3) (last+Tp.pick x.b 8)=F at *
 have hfm:Fm P m:=by
  refine⟨by omega,by omega,by omega,by omega,m3,?_⟩;by_cases hv:Tp.pick x.c 3=0
  · left;rw[if_pos hv]at m5;exact⟨by omega,m5⟩
  · right;rw[if_neg hv]at m5;exact⟨by omega,by omega,by omega⟩
 have hva:Va P r (l++[m]):=Va.snoc.2 ⟨va,by omega,hfm,fun g hg=>⟨by have:=hle g hg;omega,fun hn=>by have:=hf3 g hg (by omega);omega⟩⟩;refine ⟨hva,by simp[hlen],?_,?_,?_,?_,?_⟩
 · intro g hg
   rcases List.mem_append.1 hg with hg|hg
   · have:=hle g hg;show g.f<=m.f;omega
   · rw[List.mem_singleton.1 hg];exact Int.le_refl _
 · intro g hg
   rcases List.mem_append.1 hg with hg|hg
   · exact h.nn g hg
   · rw[List.mem_singleton.1 hg];omega
 · intro g hg
   rcases List.mem_append.1 hg with hg|hg
   · exact h.dd g hg
   · rw[List.mem_singleton.1 hg,m5];split <;> omega
 · show 0<=m.f;omega
 · show m.f<=_;push_cast;omega
end Tf
namespace Tf
theorem Va.step {P:Pr->Prop} {r:Ru} {l:List Ho} {k:Nat} (hk:k<l.length) (h20:l.length<=20) (h:Va P r (l.take k)) (hf:Fm P l[k]) (ho:∀(hj:0<k),(l[k-1]'(by omega)).f<=l[k].f) (hn:∀(j:Nat) (hj:j<k),(l[j]'(by omega)).n=l[k].n->fin r (l[j]'(by omega))+r.re<=l[k].f):Va P r (l.take (k+1)):=by
 rw[List.take_add_one,List.getElem?_eq_getElem hk,Option.toList_some];refine Va.snoc.2 ⟨h,by rw[List.length_take];omega,hf,fun g hg=>?_⟩;obtain ⟨j,hj,rfl⟩:=List.getElem_of_mem hg;rw [List.length_take]at hj;have e:(l.take k)[j]=l[j]'(by omega):=List.getElem_take;refine ⟨?_,fun h1=>?_⟩
 · rw[e]
   rcases Nat.lt_or_ge j (k-1) with h1|h1
   · have h2:=List.pairwise_iff_getElem.1 h.nx j (k-1) (by rw[List.length_take];omega) (by rw[List.length_take];omega) h1;have e2:(l.take k)[k-1]'(by rw[List.length_take];omega)=l[k-1]'(by omega):=List.getElem_take;have h3:=h2.1;rw [e,e2]at h3;exact Int.le_trans h3 (ho (by omega))
   · have hjk:j=k-1:=by omega
     subst hjk;exact ho (by omega)
 · rw[e]at h1 ⊢;exact hn j (by omega) h1
theorem Va.back {P:Pr->Prop} {r:Ru} {l:List Ho} {k:Nat} (hk:k<l.length) (h:Va P r l):Va P r (l.take k)/\Fm P l[k]/\∀(j:Nat) (hj:j<k),Nx r (l[j]'(by omega)) l[k] :=
 ⟨by rw[←List.take_append_drop k l]at h;exact h.front,h.fm _ (List.getElem_mem hk),fun j hj=>List.pairwise_iff_getElem.1 h.nx j k (by omega) hk hj⟩
theorem Va.Vh {P:Pr->Prop} {r:Ru} {l:List Ho} (h:20<l.length):¬Va P r l:=fun hv=>by have:=hv.len;omega
theorem Va.YI {P:Pr->Prop} {r:Ru} {l:List Ho} {k:Nat} (hk:k<l.length) (h:¬Fm P l[k]):¬Va P r l:=fun hv=>h (hv.back hk).2.1
theorem Va.PV {P:Pr->Prop} {r:Ru} {l:List Ho} {k j:Nat} (hk:k<l.length) (hj:j<k) (h:¬Nx r (l[j]'(by omega)) l[k]):¬Va P r l:=fun hv=>h ((hv.back hk).2.2 j hj)
theorem Va.whole {P:Pr->Prop} {r:Ru} {l:List Ho} (h:Va P r (l.take l.length)):Va P r l:=by rwa [List.take_length]at h
def owed (r:Ru) (h:Ho):Int:=if h.v=1/\h.d<h.f+r.lo then 0 else r.pay*(fin r h-h.f)
end Tf
open Go.RowKit Go.Shelf
def Gh (c e lo re pay:Int):Bool:=Ku c e&&(Tp.within lo 1 1000000&&Tp.within re 1 1000000)&&Tp.within pay 0 1000
theorem pq {c e lo re pay:Int}:Gh c e lo re pay=true↔Tf.WG ⟨c,e,lo,re,pay⟩:=by
 unfold Gh
 rw[Bool.and_eq_true,Bool.and_eq_true,Bool.and_eq_true,tN,Tp.within_iff,Tp.within_iff,Tp.within_iff]
 constructor
 · rintro ⟨⟨⟨h1,h2,h3,h4⟩,h5,h6⟩,h7⟩;refine ⟨h1,h2,h3,h4,?_,?_,?_,?_,?_,?_⟩ <;> dsimp only <;> omega
 · rintro ⟨h1,h2,h3,h4,h5,h6,h7,h8,h9,h10⟩;dsimp only at *;omega
def DU (c e:Int) (p:Tf.Pr):Prop:=∃q,Rq.Fq q/\p=kJ q/\0<=q/\q<=Rat.divInt c e
noncomputable def yF (c e:Int) (h:Tf.Ho):Bool:=@decide (Tf.Fm (DU c e) h) (Classical.propDecidable _)
theorem AV {c e:Int} {h:Tf.Ho} (hf:Tf.Fm (DU c e) h):yF c e h=true:=@decide_eq_true _ (Classical.propDecidable _) hf
theorem AY {c e:Int} {h:Tf.Ho} (hf:¬Tf.Fm (DU c e) h):yF c e h=false:=@decide_eq_false _ (Classical.propDecidable _) hf
theorem sS {c e:Int} {h:Tf.Ho}:yF c e h=true↔Tf.Fm (DU c e) h:=by
 constructor
 · intro h1;by_cases hf:Tf.Fm (DU c e) h
   · exact hf
   · rw[AY hf]at h1;cases h1
 · exact AV
def NJ (v d f:Int):Bool:=if v=0 then decide (d=0) else (decide (v=1)||decide (v=2))&&Tp.within d f 11000000
theorem UC {v d f:Int}:NJ v d f=true↔(v=0/\d=0∨(v=1∨v=2)/\f<=d/\d<=11000000):=by
 unfold NJ
 split
 · rw[decide_eq_true_eq];omega
 · rw[Bool.and_eq_true,Bool.or_eq_true,decide_eq_true_eq,decide_eq_true_eq,Tp.within_iff];omega
theorem Rt {c e:Int} {h:Tf.Ho} {q:Rat} (hq:Rq.Fq q) (hb:h.b=kJ q):Tf.Fm (DU c e) h↔(0<=h.n/\h.n<=99999999)/\(0<=h.f/\h.f<=10000000)/\(0<=q/\q<=Rat.divInt c e)/\NJ h.v h.d h.f=true:=by
 rw[UC]
 constructor
 · rintro ⟨h1,h2,h3,h4,⟨q',h5,h6,h7,h8⟩,h9⟩
   have e1:q'=q:=by
    rw[hb]at h6;have e2:=congrArg Prod.fst h6;have e3:=congrArg Prod.snd h6;have e4:q.num=q'.num:=Ig.dX e2;have e5:(q.den:Int)=q'.den:=Ig.dX e3;exact (Rat.ext e4 (by exact_mod_cast e5)).symm
   subst e1;exact ⟨⟨h1,h2⟩,⟨h3,h4⟩,⟨h7,h8⟩,h9⟩
 · rintro ⟨⟨h1,h2⟩,⟨h3,h4⟩,⟨h7,h8⟩,h9⟩;exact ⟨h1,h2,h3,h4,⟨q,hq,hb,h7,h8⟩,h9⟩
theorem ZQ {c e:Int} {h:Tf.Ho} (hb:Rq.okB h.b.1 h.b.2=false):¬Tf.Fm (DU c e) h:=fun hf=>by
 obtain⟨q,h1,h2,-,-⟩:=hf.b;have h3:=Rq.vC h1;rw [h2]at hb;rw [show Rq.okB (kJ q).1 (kJ q).2=Rq.okB (Go.Lib.itoa q.num) (Go.Lib.itoa (q.den:Int)) from rfl,h3]at hb;cases hb
theorem bW (n lo hi:Int) (w:World) :
 Calls Tryz.prog 53 #[.int .i64 n,.int .i64 lo,.int .i64 hi] w fun e w'=>e=.returned (.bool (Tp.within n lo hi))/\w=w':=by
 by_cases h1:lo<=n <;> by_cases h2:n<=hi
 all_goals
  go_enter Tryz.func53,Tryz.ntmps53
  go_wp2;go_ret;exact ⟨by simp[Tp.within, *] <;> omega,rfl⟩
theorem vK (c e:Int) (w:World) :
 aT 54 #[.agg #[.int .i64 c,.int .i64 e]] w (.bool (Ku c e)):=by
 have hI1:=fun w0=>aO (bW e 1 1000 w0)
 have hI2:=fun w0=>aO (bW c 0 e w0)
 have hd:Kp (Ku c e=(Tp.within e 1 1000&&Tp.within c 0 e)):=⟨rfl⟩
 have B:=Bx.mk w 39 #[.int .i64 c,.int .i64 e];have hb:=bNew (bH w) (.cells #[.int .i64 c,.int .i64 e] 39);have c0:=B.cell 0 rfl;have c1:=B.cell 1 rfl;generalize Tp.within c 0 e=r2 at *
 cases h1:Tp.within e 1 1000 with
 | true =>
  rw[h1]at hI1 hd;clear h1
  go_enter Tryz.func54,Tryz.ntmps54
  go_wp2_with fail;refine (hI1 _).mono ?_;rintro e w1 ⟨rfl,hb1⟩;have d0:=(B.call hb1).cell 0 rfl;have d1:=(B.call hb1).cell 1 rfl;go_wp2_with fail;refine (hI2 _).mono ?_;rintro e w2 ⟨rfl,hb2⟩;go_wp2;go_ret;exact ⟨eF (by rw[hd.out];simp),ah (ah hb hb1) hb2⟩
 | false =>
  rw[h1]at hI1 hd;clear h1
  go_enter Tryz.func54,Tryz.ntmps54
  go_wp2_with fail;refine (hI1 _).mono ?_;rintro e w1 ⟨rfl,hb1⟩;go_wp2;go_ret;exact ⟨eF (by rw[hd.out];simp),ah hb hb1⟩
theorem nC (c e lo re pay:Int) (w:World) :
 aT 106 #[.agg #[.int .i64 c,.int .i64 e,.int .i64 lo,.int .i64 re,.int .i64 pay]] w (.bool (Gh c e lo re pay)):=by
 have hI1:=fun w0=>aO (bW lo 1 1000000 w0)
 have hI2:=fun w0=>aO (bW re 1 1000000 w0)
 have NT:=fun w0=>vK c e w0
 have hI4:=fun w0=>aO (bW pay 0 1000 w0)
 have hd:Kp (Gh c e lo re pay=(Ku c e&&(Tp.within lo 1 1000000&&Tp.within re 1 1000000)&&Tp.within pay 0 1000)):=⟨rfl⟩
 generalize Tp.within lo 1 1000000=s1 at *;generalize Tp.within re 1 1000000=s2 at *;generalize Ku c e=s3 at *;generalize Tp.within pay 0 1000=s4 at *;generalize Gh c e lo re pay=res at *;have B:=Bx.mk w 135 #[.int .i64 c,.int .i64 e,.int .i64 lo,.int .i64 re,.int .i64 pay];have hb:=aA w (.cells #[.int .i64 c,.int .i64 e,.int .i64 lo,.int .i64 re,.int .i64 pay] 135);cases s1 <;> cases s2 <;> cases s3
 · obtain rfl:=hd.out
   go_enter Tryz.func106,Tryz.ntmps106
   obtain⟨cB0,cB1,cB2,cB3,aV⟩:=B.p5;go_wp2_with fail;refine (hI1 _).mono ?_;rintro _ w1 ⟨rfl,hb1⟩;clear cB0 cB1 cB2 cB3 aV;replace B:=B.call hb1;replace hb:=ah hb hb1;clear hb1;obtain ⟨cB0,cB1,cB2,cB3,aV⟩:=B.p5;go_wp2_with fail;refine (NT _).mono ?_;rintro _ w2 ⟨rfl,hb1⟩;clear cB0 cB1 cB2 cB3 aV;replace B:=B.call hb1;replace hb:=ah hb hb1;clear hb1;obtain ⟨cB0,cB1,cB2,cB3,aV⟩:=B.p5;go_wp2;go_ret;exact ⟨by simp,hb⟩
 · obtain rfl:=hd.out
   go_enter Tryz.func106,Tryz.ntmps106
   obtain⟨cB0,cB1,cB2,cB3,aV⟩:=B.p5;go_wp2_with fail;refine (hI1 _).mono ?_;rintro _ w1 ⟨rfl,hb1⟩;clear cB0 cB1 cB2 cB3 aV;replace B:=B.call hb1;replace hb:=ah hb hb1;clear hb1;obtain ⟨cB0,cB1,cB2,cB3,aV⟩:=B.p5;go_wp2_with fail;refine (NT _).mono ?_;rintro _ w2 ⟨rfl,hb1⟩;clear cB0 cB1 cB2 cB3 aV;replace B:=B.call hb1;replace hb:=ah hb hb1;clear hb1;obtain ⟨cB0,cB1,cB2,cB3,aV⟩:=B.p5;go_wp2;go_ret;exact ⟨by simp,hb⟩
 · obtain rfl:=hd.out
   go_enter Tryz.func106,Tryz.ntmps106
   obtain⟨cB0,cB1,cB2,cB3,aV⟩:=B.p5;go_wp2_with fail;refine (hI1 _).mono ?_;rintro _ w1 ⟨rfl,hb1⟩;clear cB0 cB1 cB2 cB3 aV;replace B:=B.call hb1;replace hb:=ah hb hb1;clear hb1;obtain ⟨cB0,cB1,cB2,cB3,aV⟩:=B.p5;go_wp2_with fail;refine (NT _).mono ?_;rintro _ w2 ⟨rfl,hb1⟩;clear cB0 cB1 cB2 cB3 aV;replace B:=B.call hb1;replace hb:=ah hb hb1;clear hb1;obtain ⟨cB0,cB1,cB2,cB3,aV⟩:=B.p5;go_wp2;go_ret;exact ⟨by simp,hb⟩
 · obtain rfl:=hd.out
   go_enter Tryz.func106,Tryz.ntmps106
   obtain⟨cB0,cB1,cB2,cB3,aV⟩:=B.p5;go_wp2_with fail;refine (hI1 _).mono ?_;rintro _ w1 ⟨rfl,hb1⟩;clear cB0 cB1 cB2 cB3 aV;replace B:=B.call hb1;replace hb:=ah hb hb1;clear hb1;obtain ⟨cB0,cB1,cB2,cB3,aV⟩:=B.p5;go_wp2_with fail;refine (NT _).mono ?_;rintro _ w2 ⟨rfl,hb1⟩;clear cB0 cB1 cB2 cB3 aV;replace B:=B.call hb1;replace hb:=ah hb hb1;clear hb1;obtain ⟨cB0,cB1,cB2,cB3,aV⟩:=B.p5;go_wp2;go_ret;exact ⟨by simp,hb⟩
 · obtain rfl:=hd.out
   go_enter Tryz.func106,Tryz.ntmps106
   obtain⟨cB0,cB1,cB2,cB3,aV⟩:=B.p5;go_wp2_with fail;refine (hI1 _).mono ?_;rintro _ w1 ⟨rfl,hb1⟩;clear cB0 cB1 cB2 cB3 aV;replace B:=B.call hb1;replace hb:=ah hb hb1;clear hb1;obtain ⟨cB0,cB1,cB2,cB3,aV⟩:=B.p5;go_wp2_with fail;refine (hI2 _).mono ?_;rintro _ w2 ⟨rfl,hb1⟩;clear cB0 cB1 cB2 cB3 aV;replace B:=B.call hb1;replace hb:=ah hb hb1;clear hb1;obtain ⟨cB0,cB1,cB2,cB3,aV⟩:=B.p5;go_wp2_with fail;refine (NT _).mono ?_;rintro _ w3 ⟨rfl,hb1⟩;clear cB0 cB1 cB2 cB3 aV;replace B:=B.call hb1;replace hb:=ah hb hb1;clear hb1;obtain ⟨cB0,cB1,cB2,cB3,aV⟩:=B.p5;go_wp2;go_ret;exact ⟨by simp,hb⟩
 · obtain rfl:=hd.out
   go_enter Tryz.func106,Tryz.ntmps106
   obtain⟨cB0,cB1,cB2,cB3,aV⟩:=B.p5;go_wp2_with fail;refine (hI1 _).mono ?_;rintro _ w1 ⟨rfl,hb1⟩;clear cB0 cB1 cB2 cB3 aV;replace B:=B.call hb1;replace hb:=ah hb hb1;clear hb1;obtain ⟨cB0,cB1,cB2,cB3,aV⟩:=B.p5;go_wp2_with fail;refine (hI2 _).mono ?_;rintro _ w2 ⟨rfl,hb1⟩;clear cB0 cB1 cB2 cB3 aV;replace B:=B.call hb1;replace hb:=ah hb hb1;clear hb1;obtain ⟨cB0,cB1,cB2,cB3,aV⟩:=B.p5;go_wp2_with fail;refine (NT _).mono ?_;rintro _ w3 ⟨rfl,hb1⟩;clear cB0 cB1 cB2 cB3 aV;replace B:=B.call hb1;replace hb:=ah hb hb1;clear hb1;obtain ⟨cB0,cB1,cB2,cB3,aV⟩:=B.p5;go_wp2;go_ret;exact ⟨by simp,hb⟩
 · obtain rfl:=hd.out
   go_enter Tryz.func106,Tryz.ntmps106
   obtain⟨cB0,cB1,cB2,cB3,aV⟩:=B.p5;go_wp2_with fail;refine (hI1 _).mono ?_;rintro _ w1 ⟨rfl,hb1⟩;clear cB0 cB1 cB2 cB3 aV;replace B:=B.call hb1;replace hb:=ah hb hb1;clear hb1;obtain ⟨cB0,cB1,cB2,cB3,aV⟩:=B.p5;go_wp2_with fail;refine (hI2 _).mono ?_;rintro _ w2 ⟨rfl,hb1⟩;clear cB0 cB1 cB2 cB3 aV;replace B:=B.call hb1;replace hb:=ah hb hb1;clear hb1;obtain ⟨cB0,cB1,cB2,cB3,aV⟩:=B.p5;go_wp2_with fail;refine (NT _).mono ?_;rintro _ w3 ⟨rfl,hb1⟩;clear cB0 cB1 cB2 cB3 aV;replace B:=B.call hb1;replace hb:=ah hb hb1;clear hb1;obtain ⟨cB0,cB1,cB2,cB3,aV⟩:=B.p5;go_wp2;go_ret;exact ⟨by simp,hb⟩
 · obtain rfl:=hd.out
   go_enter Tryz.func106,Tryz.ntmps106
   obtain⟨cB0,cB1,cB2,cB3,aV⟩:=B.p5;go_wp2_with fail;refine (hI1 _).mono ?_;rintro _ w1 ⟨rfl,hb1⟩;clear cB0 cB1 cB2 cB3 aV;replace B:=B.call hb1;replace hb:=ah hb hb1;clear hb1;obtain ⟨cB0,cB1,cB2,cB3,aV⟩:=B.p5;go_wp2_with fail;refine (hI2 _).mono ?_;rintro _ w2 ⟨rfl,hb1⟩;clear cB0 cB1 cB2 cB3 aV;replace B:=B.call hb1;replace hb:=ah hb hb1;clear hb1;obtain ⟨cB0,cB1,cB2,cB3,aV⟩:=B.p5;go_wp2_with fail;refine (NT _).mono ?_;rintro _ w3 ⟨rfl,hb1⟩;clear cB0 cB1 cB2 cB3 aV;replace B:=B.call hb1;replace hb:=ah hb hb1;clear hb1;obtain ⟨cB0,cB1,cB2,cB3,aV⟩:=B.p5;go_wp2_with fail;refine (hI4 _).mono ?_;rintro _ w4 ⟨rfl,hb1⟩;clear cB0 cB1 cB2 cB3 aV;replace B:=B.call hb1;replace hb:=ah hb hb1;clear hb1;obtain ⟨cB0,cB1,cB2,cB3,aV⟩:=B.p5;go_wp2;go_ret;exact ⟨by simp,hb⟩
namespace Tf
theorem Nc {m z:Rat} {n:Nat} (hm:0<=m) (h:comb (List.replicate (n+1) m)=some z):∃x,comb (List.replicate n m)=some x/\x<=z:=by
 rw[List.replicate_succ',Bf]at h;obtain ⟨x,y,h1,h2,-,h3⟩:=PD h;cases h2
 exact⟨x,h1,by grind⟩
theorem Qh {a b:Rat} (h:a<=b):Ar a<=Ar b:=by
 unfold Ar
 split <;> split <;> grind
theorem more {m z:Rat} {n:Nat} {v:Rat} (hm:0<=m) (h:comb (List.replicate (n+1) m)=some z) (hv:Ar z<=v):∃x,comb (List.replicate n m)=some x/\Ar x<=v:=by
 obtain⟨x,h1,h2⟩:=Nc hm h;exact ⟨x,h1,Rat.le_trans (Qh h2) hv⟩
end Tf
namespace Tf
def jd:List Rat->Rat
 | []=>0
 | q :: l=>l.foldl (fun m x=>if x<m then x else m) q
theorem LY {l:List Rat} (h:l≠[]) (x:Rat):jd (l++[x])=if x<jd l then x else jd l:=by
 cases l with
 | nil=>exact absurd rfl h
 | cons q l =>
  show (l++[x]).foldl _ q=_
  rw[List.foldl_append,List.foldl_cons,List.foldl_nil];rfl
theorem JE:∀(l:List Rat) (q:Rat),(l.foldl (fun m x=>if x<m then x else m) q=q∨l.foldl (fun m x=>if x<m then x else m) q∈l)/\l.foldl (fun m x=>if x<m then x else m) q<=q/\∀y∈l,l.foldl (fun m x=>if x<m then x else m) q<=y
 | [],q=>⟨.inl rfl,Rat.le_refl,fun y hy=>absurd hy List.not_mem_nil⟩
 | x :: l,q=>by
  obtain⟨h1,h2,h3⟩:=JE l (if x<q then x else q);rw [List.foldl_cons];have hx:(if x<q then x else q)<=x/\(if x<q then x else q)<=q:=by split <;> grind
  refine⟨?_,Rat.le_trans h2 hx.2,fun y hy=>?_⟩
  · rcases h1 with h1|h1
    · rw[h1]
      split
      · exact .inr (List.mem_cons_self ..)
      · exact .inl rfl
    · exact .inr (List.mem_cons_of_mem _ h1)
  · rcases List.mem_cons.1 hy with e|hy
    · rw[e];exact Rat.le_trans h2 hx.1
    · exact h3 y hy
theorem JD {l:List Rat} (h:l≠[]):jd l∈l/\∀y∈l,jd l<=y:=by
 cases l with
 | nil=>exact absurd rfl h
 | cons q l =>
  obtain⟨h1,h2,h3⟩:=JE l q;refine ⟨?_,fun y hy=>?_⟩
  · rcases h1 with h1|h1
    · show l.foldl _ q∈_;rw[h1];exact List.mem_cons_self ..
    · exact List.mem_cons_of_mem _ h1
  · rcases List.mem_cons.1 hy with e|hy
    · rw[e];exact h2
    · exact h3 y hy
noncomputable def Oh (l:List Rat):Option Rat:=if 1<=l.length/\l.length<=10 then (comb (List.replicate l.length (jd l))).map Ar else none
end Tf
namespace Tf
structure Made (P:Pr->Prop) (r:Ru) (l:List Ho):Prop where
 va:Va P r l
 len:l.length<=8
 f0:∀h∈l,0<=h.f/\h.f<=384
 nn:∀h∈l,5<=h.n/\h.n<=7
 d0:∀h∈l,0<=h.d/\h.d<=406
 vv:∀h∈l,h.v=0∨h.v=1∨h.v=2
 sp:∀h∈l,Sp r h
theorem TS.made {P:Pr->Prop} {r:Ru} {k:Nat} {s:List Ho × Int} (hr:WG r) (hk:k<=8) (h:TS P r k s):Made P r s.1:=by
 have hl:=h.l2;have hlo:=hr.l1;refine ⟨h.va,by rw[h.len];exact hk,fun g hg=>?_,h.nn,fun g hg=>?_,fun g hg=>?_,h.va.sp (by omega)⟩
 · have a:=(h.va.fm g hg).f0;have b:=h.le g hg;omega
 · have a:=(h.va.fm g hg).f0;have b:=h.le g hg;have c:=h.dd g hg
   rcases (h.va.fm g hg).v with ⟨h1,h2⟩|⟨h1,h2,h3⟩ <;> omega
 · rcases (h.va.fm g hg).v with ⟨h1,h2⟩|⟨h1,h2,h3⟩ <;> omega
end Tf
def Yc (r:Tf.Ru) (l:List Tf.Ho):Prop:=Tf.WG r/\Tf.Va (DU r.c r.e) r l
noncomputable def vS (r:Tf.Ru) (l:List Tf.Ho):Bool:=@decide (Yc r l) (Classical.propDecidable _)
theorem wY {r:Tf.Ru} {l:List Tf.Ho} (h:Yc r l):vS r l=true:=@decide_eq_true _ (Classical.propDecidable _) h
theorem uZ {r:Tf.Ru} {l:List Tf.Ho} (h:¬Yc r l):vS r l=false:=@decide_eq_false _ (Classical.propDecidable _) h
theorem Jo {r:Tf.Ru} {l:List Tf.Ho}:vS r l=true↔Yc r l:=by
 constructor
 · intro h1;by_cases h:Yc r l
   · exact h
   · rw[uZ h]at h1;cases h1
 · exact wY
theorem zV {r:Tf.Ru} {l:List Tf.Ho} (h:Gh r.c r.e r.lo r.re r.pay=false):vS r l=false :=
 uZ fun hv=>by rw[pq.2 hv.1]at h;cases h
noncomputable def EX (r:Tf.Ru) (l:List Tf.Ho) (n t:Int):Bool:=vS r l&&Tf.held r l n t
theorem XA {r:Tf.Ru} {l:List Tf.Ho} (h:Yc r l) (n t:Int):EX r l n t=Tf.held r l n t:=by unfold EX;rw[wY h];rfl
theorem heB_f {r:Tf.Ru} {l:List Tf.Ho} (h:¬Yc r l) (n t:Int):EX r l n t=false:=by unfold EX;rw[uZ h];rfl
namespace Tf
structure Vd (r:Ru) (f a:Int) (b:Pr):Prop where
 f0:fin r ⟨5,f,b,0,0⟩=f+r.lo
 f1:fin r ⟨5,f,b,1,f+a⟩=f+r.lo
 o0:owed r ⟨5,f,b,0,0⟩=r.pay*r.lo
 late:f+r.lo<=f+a->fin r ⟨5,f,b,2,f+a⟩=f+r.lo/\owed r ⟨5,f,b,1,f+a⟩=r.pay*r.lo/\owed r ⟨5,f,b,2,f+a⟩=r.pay*r.lo
 early:f+a<f+r.lo->fin r ⟨5,f,b,2,f+a⟩=f+a/\owed r ⟨5,f,b,1,f+a⟩=0/\owed r ⟨5,f,b,2,f+a⟩=r.pay*(f+a-f)
end Tf
namespace Tf
structure Su where
 kind:Int
 n:Int
 c:Int
 e:Int
 iP:Int
 count:Int
 times:List Int
 width:Int
 things:Int
 marked:Int
structure X6 where
 a:Int
 b:Int
 c:Int
 d:Int
 e:Int
 f:Int
structure GoodS (s:Su):Prop where
 k1:1<=s.kind
 k3:s.kind<=3
 e1:1<=s.e
 e2:s.e<=1000
 c0:0<=s.c
 ce:s.c<=s.e
 t0:0<=s.iP
 t8:s.iP<=8
 n0:0<=s.count
 n1:s.count<=s.iP+1
 so:Tb.So s.times
 len:s.times.length<=12
 tm:∀t∈s.times,0<=t/\t<=59940
 w:s.kind=1->1<=s.width/\s.width<=12
 w0:0<=s.width/\s.width<=12
 th:s.kind=3->s.iP<=s.things/\s.things<=16
 mr:s.kind=3->0<=s.marked/\s.marked<=s.things
 th0:0<=s.things/\s.things<=16
 mr0:0<=s.marked/\s.marked<=16
end Tf
inductive OB:Option Rat->List UInt8->List UInt8->Int->Prop
 | good {q:Rat} {ra rb:List UInt8} (hu:Un q) (lq:LQ q ra rb):OB (some q) ra rb 0
 | bad:OB none [] [] 360
def UnO (o:Option Rat):Prop:=∀q,o=some q->Un q
theorem OB.ex {o:Option Rat} (h:UnO o):∃(ra rb:List UInt8) (code:Int),OB o ra rb code:=by
 cases o with
 | none=>exact⟨_,_,_,.bad⟩
 | some q =>
  obtain⟨a,b,lq⟩:=LQ.ex q;exact ⟨a,b,0,.good (h q rfl) lq⟩
noncomputable def ji (os:List (Option Rat)):Option Rat:=if os.all Option.isSome then Tf.Oh (os.filterMap id) else none
theorem V5 (qs:List Rat):(qs.map some).filterMap id=qs:=by
 induction qs with
 | nil=>rfl
 | cons q qs ih=>simp
theorem jw (qs:List Rat):ji (qs.map some)=Tf.Oh qs:=by
 unfold ji
 rw[if_pos (by simp),V5]
structure pY where
 s:Tf.Su
 A:Option Addr
 cap:Nat
def GH (m:pY):List Value:=[.int .i64 m.s.kind,.int .i64 m.s.n,.int .i64 m.s.c,.int .i64 m.s.e,.int .i64 m.s.iP,.int .i64 m.s.count,.slice m.A m.s.times.length m.cap,.int .i64 m.s.width,.int .i64 m.s.things,.int .i64 m.s.marked]
theorem Jt (m:pY):(GH m).length=10:=rfl
structure qh (w:World) (B:Nat) (m:pY):Prop where
 at_:At 1 aZ w B m.A m.s.times
 cap:m.s.times.length<=m.cap
 len:m.s.times.length<=9223372036854775807
theorem qh.below {w w':World} {B:Nat} {m:pY} (h:qh w B m) (hb:Below B w w'):qh w' B m:=⟨h.at_.below hb,h.cap,h.len⟩
theorem qh.more {w:World} {B B':Nat} {m:pY} (h:qh w B m) (hB:B<=B'):qh w B' m:=⟨h.at_.more hB,h.cap,h.len⟩
theorem qh.call {w w':World} {m:pY} (h:qh w w.heap.size m) (hb:Below w.heap.size w w'):qh w' w'.heap.size m:=(h.below hb).more hb.size
def j_ (h:Tf.Ho):List Value:=[.int .i64 h.n,.int .i64 h.f,.string ⟨h.b.1.toArray⟩,.string ⟨h.b.2.toArray⟩,.int .i64 h.v,.int .i64 h.d]
theorem wJ (h:Tf.Ho):(j_ h).length=6:=rfl
def Yi (h:Tf.Ho):Prop:=h.b.1.length<=9223372036854775807/\h.b.2.length<=9223372036854775807
end Go.Proofs.YtohgjenaclfegaaGreatDoor

import Init.Data.Int.Pow
import Derived.Test.YtohgjenaclfegaaGreatDoorQT03
set_option linter.unusedVariables false
set_option linter.unusedSimpArgs false
set_option maxRecDepth 100000
set_option maxHeartbeats 8000000
namespace Go.Proofs.YtohgjenaclfegaaGreatDoor
namespace Tf
def cnt (p:Int->Bool) (a:Int):Nat->Nat
 | 0=>0
 | k+1=>cnt p a k+if p (a+k) then 1 else 0
theorem cnt_le (p:Int->Bool) (a:Int) (k:Nat):cnt p a k<=k:=by
 induction k with
 | zero=>exact Nat.le_refl _
 | succ k ih=>simp only[cnt];split <;> omega
theorem uJ {p:Int->Bool} {a:Int} {k:Nat} (h:∀t,a<=t->t<a+k->p t=false):cnt p a k=0:=by
 induction k with
 | zero=>rfl
 | succ k ih =>
  simp only[cnt];rw [ih (fun t h1 h2=>h t h1 (by omega)),h (a+k) (by omega) (by omega)];simp
theorem Fv {p:Int->Bool} {a:Int} {k:Nat} (h:∀t,a<=t->t<a+k->p t=true):cnt p a k=k:=by
 induction k with
 | zero=>rfl
 | succ k ih =>
  simp only[cnt];rw [ih (fun t h1 h2=>h t h1 (by omega)),h (a+k) (by omega) (by omega)];simp
theorem first (p:Int->Bool) (a:Int) (k:Nat):(∀j:Nat,j<k->p (a+j)=false)∨∃j:Nat,j<k/\p (a+j)=true/\∀i:Nat,i<j->p (a+i)=false:=by
 induction k with
 | zero=>exact .inl fun j h=>absurd h (by omega)
 | succ k ih =>
  rcases ih with h|⟨j,h1,h2,h3⟩
  · cases hp:p (a+k) with
    | true=>exact .inr ⟨k,by omega,hp,h⟩
    | false =>
     refine .inl fun j hj=>?_
     rcases Nat.lt_or_eq_of_le (Nat.le_of_lt_succ hj) with h4|h4
     · exact h j h4
     · rw[h4];exact hp
  · exact .inr ⟨j,by omega,h2,h3⟩
abbrev Pr:=List UInt8 × List UInt8
structure Ru where
 c:Int
 e:Int
 lo:Int
 re:Int
 pay:Int
structure Ho where
 n:Int
 f:Int
 b:Pr
 v:Int
 d:Int
def fin (r:Ru) (h:Ho):Int:=if h.v=2 then min (h.f+r.lo) h.d else h.f+r.lo
def Nx (r:Ru) (a b:Ho):Prop:=a.f<=b.f/\(a.n=b.n->fin r a+r.re<=b.f)
def Sp (r:Ru) (h:Ho):Prop:=h.f<=fin r h/\fin r h<=h.f+r.lo
def inH (r:Ru) (h:Ho) (t:Int):Bool:=decide (h.f<=t)&&decide (t<fin r h)
def held (r:Ru) (l:List Ho) (n t:Int):Bool:=l.any fun h=>h.n==n&&inH r h t
theorem QF {r:Ru} {h:Ho} (hl:0<=r.lo) (hd:h.v=2->h.f<=h.d):Sp r h:=by
 unfold Sp fin
 split
 · have:=hd ‹_›;omega
 · omega
theorem LM {r:Ru} {l:List Ho} {n t:Int}:held r l n t=true↔∃h∈l,h.n=n/\h.f<=t/\t<fin r h:=by
 simp only[held,inH,List.any_eq_true,Bool.and_eq_true,beq_iff_eq,decide_eq_true_eq]
theorem SI {α:Type} {R:α->α->Prop} {l:List α} (hp:l.Pairwise R) {a b:α} (ha:a∈l) (hb:b∈l):a=b∨R a b∨R b a:=by
 induction l with
 | nil=>cases ha
 | cons x l ih =>
  obtain⟨h1,h2⟩:=List.pairwise_cons.1 hp
  rcases List.mem_cons.1 ha with ea|ha
  · rcases List.mem_cons.1 hb with eb|hb
    · exact .inl (ea.trans eb.symm)
    · exact .inr (.inl (ea ▸ h1 _ hb))
  · rcases List.mem_cons.1 hb with eb|hb
    · exact .inr (.inr (eb ▸ h1 _ ha))
    · exact ih h2 ha hb
theorem rest {r:Ru} {l:List Ho} {n:Int} (hre:0<=r.re) (hp:l.Pairwise (Nx r)) (hs:∀h∈l,Sp r h) {h:Ho} (hh:h∈l) (hn:h.n=n) {t:Int} (h1:fin r h<=t) (h2:t<fin r h+r.re):held r l n t=false:=by
 cases hb:held r l n t with
 | false=>rfl
 | true =>
  obtain⟨g,hg,hgn,hg1,hg2⟩:=LM.1 hb;have:=(hs h hh).1
  rcases SI hp hh hg with rfl|h3|h3
  · omega
  · have:=h3.2 (by omega);omega
  · have:=h3.2 (by omega);omega
def later (s:Int) (h:Ho):Ho:={ h with f:=h.f+s,d:=if h.v=0 then h.d else h.d+s }
theorem Hw (r:Ru) (s:Int) (h:Ho):fin r (later s h)=fin r h+s:=by
 have e1:(later s h).f=h.f+s:=rfl;have e2:(later s h).v=h.v:=rfl;have e3:(later s h).d=if h.v=0 then h.d else h.d+s:=rfl
 unfold fin
 rw[e1,e2,e3];by_cases h2:h.v=2
 · rw[if_pos h2,if_pos h2,if_neg (by omega)];omega
 · rw[if_neg h2,if_neg h2];omega
theorem KC {r:Ru} {l:List Ho} (s:Int) (hp:l.Pairwise (Nx r)):(l.map (later s)).Pairwise (Nx r):=by
 rw[List.pairwise_map];refine hp.imp fun {a b} h=>⟨?_,?_⟩
 · have:=h.1;simp only[later];omega
 · intro hn;have:=h.2 hn;rw [Hw];simp only[later];omega
end Tf
namespace Tf
structure UW (r:Ru):Prop where
 e1:1<=r.e
 e2:r.e<=1000
 c0:0<=r.c
 ce:r.c<=r.e
 l1:1<=r.lo
 l2:r.lo<=1000000
 r1:1<=r.re
 r2:r.re<=1000000
 p0:0<=r.pay
 p2:r.pay<=1000
structure Fm (P:Pr->Prop) (h:Ho):Prop where
 n0:0<=h.n
 n2:h.n<=99999999
 f0:0<=h.f
 f2:h.f<=10000000
 b:P h.b
 v:h.v=0/\h.d=0∨(h.v=1∨h.v=2)/\h.f<=h.d/\h.d<=11000000
structure Va (P:Pr->Prop) (r:Ru) (l:List Ho):Prop where
 len:l.length<=20
 fm:∀h∈l,Fm P h
 nx:l.Pairwise (Nx r)
theorem Va.nil (P:Pr->Prop) (r:Ru):Va P r []:=⟨Nat.zero_le _,fun h hh=>absurd hh (List.not_mem_nil),List.Pairwise.nil⟩
theorem Va.sp {P:Pr->Prop} {r:Ru} {l:List Ho} (hr:0<=r.lo) (h:Va P r l):∀g∈l,Sp r g:=fun g hg=>by
 have hf:=(h.fm g hg)
 refine QF hr fun h2=>?_
 rcases hf.v with ⟨h3,-⟩|⟨-,h3,-⟩
 · omega
 · exact h3
theorem Va.front {P:Pr->Prop} {r:Ru} {l k:List Ho} (h:Va P r (l++k)):Va P r l :=
 ⟨by have:=h.len;simp at this;omega,fun g hg=>h.fm g (List.mem_append_left _ hg),(List.pairwise_append.1 h.nx).1⟩
theorem Va.snoc {P:Pr->Prop} {r:Ru} {l:List Ho} {h:Ho}:Va P r (l++[h])↔Va P r l/\l.length<20/\Fm P h/\∀g∈l,Nx r g h:=by
 constructor
 · intro hv;refine ⟨hv.front,by have:=hv.len;simp at this;omega,hv.fm h (by simp),fun g hg=>?_⟩;exact (List.pairwise_append.1 hv.nx).2.2 g hg h (by simp)
 · rintro ⟨h1,h2,h3,h4⟩;refine ⟨by simp;omega,fun g hg=>?_,List.pairwise_append.2 ⟨h1.nx,List.pairwise_singleton ..,fun a ha b hb=>?_⟩⟩
   · rcases List.mem_append.1 hg with hg|hg
     · exact h1.fm g hg
     · rw[List.mem_singleton.1 hg];exact h3
   · rw[List.mem_singleton.1 hb];exact h4 a ha
theorem Va.later {P:Pr->Prop} {r:Ru} {l:List Ho} {s:Int} (hs:0<=s) (h:Va P r l) (h1:∀g∈l,g.f+s<=10000000) (h2:∀g∈l,g.d+s<=11000000):Va P r (l.map (later s)) :=
 ⟨by rw[List.length_map];exact h.len,fun g hg=>by
  obtain⟨k,hk,rfl⟩:=List.mem_map.1 hg;have hf:=h.fm k hk;have a1:=h1 k hk;have a2:=h2 k hk;have a3:=hf.f0;refine ⟨hf.n0,hf.n2,by simp only[Tf.later];omega,by simp only[Tf.later];omega,hf.b,?_⟩;simp only[Tf.later]
  rcases hf.v with ⟨h3,h4⟩|⟨h3,h4,h5⟩
  · left;rw[if_pos h3];exact⟨h3,h4⟩
  · right;rw[if_neg (by omega)];exact⟨h3,by omega,by omega⟩,KC s h.nx⟩
theorem Va.one {P:Pr->Prop} {r:Ru} {h:Ho} (hf:Fm P h):Va P r [h]:=⟨by simp,fun g hg=>by rw[List.mem_singleton.1 hg];exact hf,List.pairwise_singleton ..⟩
def nf (r:Ru) (l:List Ho) (n f:Int):Int:=l.foldl (fun f h=>if h.n=n then max f (fin r h+r.re) else f) f
theorem QO (r:Ru) (l:List Ho) (n f:Int):f<=nf r l n f:=by
 induction l generalizing f with
 | nil=>exact Int.le_refl _
 | cons h l ih =>
  simp only[nf,List.foldl_cons];refine Int.le_trans ?_ (ih _)
  split <;> omega
theorem S9 {r:Ru} {l:List Ho} {n:Int} (f:Int) {h:Ho} (hh:h∈l) (hn:h.n=n):fin r h+r.re<=nf r l n f:=by
 induction l generalizing f with
 | nil=>cases hh
 | cons g l ih =>
  simp only[nf,List.foldl_cons]
  rcases List.mem_cons.1 hh with e|hh
  · subst e;rw [if_pos hn];exact Int.le_trans (by omega) (QO r l n _)
  · exact ih _ hh
theorem VF {r:Ru} {l:List Ho} {n f m:Int} (h0:f<=m) (hl:∀h∈l,fin r h+r.re<=m):nf r l n f<=m:=by
 induction l generalizing f with
 | nil=>exact h0
 | cons g l ih =>
  simp only[nf,List.foldl_cons];refine ih ?_ fun h hh=>hl h (List.mem_cons_of_mem _ hh)
  have:=hl g (List.mem_cons_self ..)
  split <;> omega
structure X4 where
 a:Int
 b:Int
 c:Int
 d:Int
def Zn (B:Int->Pr) (r:Ru) (l:List Ho) (last:Int) (x:X4):Ho :=
 let n:=5+Tp.pick x.a 3
 let f:=nf r l n (last+Tp.pick x.b 8)
 ⟨n,f,B (Tp.pick (x.b.tdiv 8) (r.c+1)),Tp.pick x.c 3,if Tp.pick x.c 3=0 then 0 else f+Tp.pick x.d (r.lo+3)⟩
def QE (B:Int->Pr) (r:Ru) (s:List Ho × Int) (x:X4):List Ho × Int:=(s.1++[Zn B r s.1 s.2 x],(Zn B r s.1 s.2 x).f)
structure NQ (P:Pr->Prop) (r:Ru) (k:Nat) (s:List Ho × Int):Prop where
 va:Va P r s.1
 len:s.1.length=k
 le:∀h∈s.1,h.f<=s.2
 nn:∀h∈s.1,5<=h.n/\h.n<=7
 dd:∀h∈s.1,h.d<=h.f+22
 l0:0<=s.2
 l2:s.2<=48*k
theorem NQ.step {P:Pr->Prop} {B:Int->Pr} {r:Ru} {k:Nat} {s:List Ho × Int} (hr:UW r) (hlo:r.lo<=20) (hre:r.re<=20) (hB:∀p,0<=p->p<=r.c->P (B p)) (hk:k<8) (h:NQ P r k s) (x:X4):NQ P r (k+1) (QE B r s x):=by
 obtain⟨l,last⟩:=s;have va:=h.va;have hlen:=h.len;have hle:=h.le;have hl0:=h.l0;have hl2:=h.l2;simp only at va hlen hle hl0 hl2;have p1:=Tp.oU x.a (show (0:Int)<3 by decide);have p2:=Tp.oU x.b (show (0:Int)<8 by decide);have p3:=Tp.oU (x.b.tdiv 8) (show 0<r.c+1 by have:=hr.c0;omega);have p4:=Tp.oU x.c (show (0:Int)<3 by decide);have p5:=Tp.oU x.d (show 0<r.lo+3 by have:=hr.l1;omega);have hlo1:=hr.l1;have hsp:=va.sp (by omega);have hf1:=QO r l (5+Tp.pick x.a 3) (last+Tp.pick x.b 8)
 have hf2:nf r l (5+Tp.pick x.a 3) (last+Tp.pick x.b 8)<=last+40:=VF (by omega) fun g hg=>by
  have:=(hsp g hg).2;have:=hle g hg;omega
 have hf3:∀g∈l,g.n=5+Tp.pick x.a 3->fin r g+r.re<=nf r l (5+Tp.pick x.a 3) (last+Tp.pick x.b 8):=fun g hg hn=>S9 _ hg hn
 have hm:∃m:Ho,m=Zn B r l last x/\m.n=5+Tp.pick x.a 3/\m.f=nf r l (5+Tp.pick x.a 3) (last+Tp.pick x.b 8)/\P m.b/\m.v=Tp.pick x.c 3/\m.d=if Tp.pick x.c 3=0 then 0 else m.f+Tp.pick x.d (r.lo+3) :=
  ⟨_,rfl,rfl,rfl,hB _ p3.1 (by omega),rfl,rfl⟩
 obtain⟨m,hm,m1,m2,m3,m4,m5⟩:=hm;have hst:QE B r (l,last) x=(l++[m],m.f):=by rw[hm];rfl
 rw[hst];generalize nf r l (5+Tp.pick x.a 3) (last+Tp.pick x.b 8)=F at *
 have hfm:Fm P m:=by
  refine⟨by omega,by omega,by omega,by omega,m3,?_⟩;by_cases hv:Tp.pick x.c 3=0
  · left;rw[if_pos hv]at m5;exact⟨by omega,m5⟩
  · right;rw[if_neg hv]at m5;exact⟨by omega,by omega,by omega⟩
 have hva:Va P r (l++[m]):=Va.snoc.2 ⟨va,by omega,hfm,fun g hg=>⟨by have:=hle g hg;omega,fun hn=>by have:=hf3 g hg (by omega);omega⟩⟩;refine ⟨hva,by simp[hlen],?_,?_,?_,?_,?_⟩
 · intro g hg
   rcases List.mem_append.1 hg with hg|hg
   · have:=hle g hg;show g.f<=m.f;omega
   · rw[List.mem_singleton.1 hg];exact Int.le_refl _
 · intro g hg
   rcases List.mem_append.1 hg with hg|hg
   · exact h.nn g hg
   · rw[List.mem_singleton.1 hg];omega
 · intro g hg
   rcases List.mem_append.1 hg with hg|hg
   · exact h.dd g hg
   · rw[List.mem_singleton.1 hg,m5];split <;> omega
 · show 0<=m.f;omega
 · show m.f<=_;push_cast;omega
end Tf
namespace Tf
theorem Va.step {P:Pr->Prop} {r:Ru} {l:List Ho} {k:Nat} (hk:k<l.length) (h20:l.length<=20) (h:Va P r (l.take k)) (hf:Fm P l[k]) (ho:∀(hj:0<k),(l[k-1]'(by omega)).f<=l[k].f) (hn:∀(j:Nat) (hj:j<k),(l[j]'(by omega)).n=l[k].n->fin r (l[j]'(by omega))+r.re<=l[k].f):Va P r (l.take (k+1)):=by
 rw[List.take_add_one,List.getElem?_eq_getElem hk,Option.toList_some];refine Va.snoc.2 ⟨h,by rw[List.length_take];omega,hf,fun g hg=>?_⟩;obtain ⟨j,hj,rfl⟩:=List.getElem_of_mem hg;rw [List.length_take]at hj;have e:(l.take k)[j]=l[j]'(by omega):=List.getElem_take;refine ⟨?_,fun h1=>?_⟩
 · rw[e]
   rcases Nat.lt_or_ge j (k-1) with h1|h1
   · have h2:=List.pairwise_iff_getElem.1 h.nx j (k-1) (by rw[List.length_take];omega) (by rw[List.length_take];omega) h1;have e2:(l.take k)[k-1]'(by rw[List.length_take];omega)=l[k-1]'(by omega):=List.getElem_take;have h3:=h2.1;rw [e,e2]at h3;exact Int.le_trans h3 (ho (by omega))
   · have hjk:j=k-1:=by omega
     subst hjk;exact ho (by omega)
 · rw[e]at h1 ⊢;exact hn j (by omega) h1
theorem Va.back {P:Pr->Prop} {r:Ru} {l:List Ho} {k:Nat} (hk:k<l.length) (h:Va P r l):Va P r (l.take k)/\Fm P l[k]/\∀(j:Nat) (hj:j<k),Nx r (l[j]'(by omega)) l[k] :=
 ⟨by rw[←List.take_append_drop k l]at h;exact h.front,h.fm _ (List.getElem_mem hk),fun j hj=>List.pairwise_iff_getElem.1 h.nx j k (by omega) hk hj⟩
theorem Va.whole {P:Pr->Prop} {r:Ru} {l:List Ho} (h:Va P r (l.take l.length)):Va P r l:=by rwa [List.take_length]at h
def owed (r:Ru) (h:Ho):Int:=if h.v=1/\h.d<h.f+r.lo then 0 else r.pay*(fin r h-h.f)
end Tf
open Go.RowKit Go.Shelf
def Zc (c e lo re pay:Int):Bool:=Uy c e&&(Tp.within lo 1 1000000&&Tp.within re 1 1000000)&&Tp.within pay 0 1000
theorem OT {c e lo re pay:Int}:Zc c e lo re pay=true↔Tf.UW ⟨c,e,lo,re,pay⟩:=by
 unfold Zc
 rw[Bool.and_eq_true,Bool.and_eq_true,Bool.and_eq_true,yO,Tp.within_iff,Tp.within_iff,Tp.within_iff]
 constructor
 · rintro ⟨⟨⟨h1,h2,h3,h4⟩,h5,h6⟩,h7⟩;refine ⟨h1,h2,h3,h4,?_,?_,?_,?_,?_,?_⟩ <;> dsimp only <;> omega
 · rintro ⟨h1,h2,h3,h4,h5,h6,h7,h8,h9,h10⟩;dsimp only at *;omega
def Yk (c e:Int) (p:Tf.Pr):Prop:=∃q,Rq.Fq q/\p=txQ q/\0<=q/\q<=Rat.divInt c e
noncomputable def YT (c e:Int) (h:Tf.Ho):Bool:=@decide (Tf.Fm (Yk c e) h) (Classical.propDecidable _)
theorem XG {c e:Int} {h:Tf.Ho} (hf:Tf.Fm (Yk c e) h):YT c e h=true:=@decide_eq_true _ (Classical.propDecidable _) hf
theorem XH {c e:Int} {h:Tf.Ho} (hf:¬Tf.Fm (Yk c e) h):YT c e h=false:=@decide_eq_false _ (Classical.propDecidable _) hf
theorem P8 {c e:Int} {h:Tf.Ho}:YT c e h=true↔Tf.Fm (Yk c e) h:=by
 constructor
 · intro h1;by_cases hf:Tf.Fm (Yk c e) h
   · exact hf
   · rw[XH hf]at h1;cases h1
 · exact XG
theorem jD (n lo hi:Int) (w:World) :
 Calls Tryz.prog 53 #[.int .i64 n,.int .i64 lo,.int .i64 hi] w fun e w'=>e=.returned (.bool (Tp.within n lo hi))/\w=w':=by
 by_cases h1:lo<=n <;> by_cases h2:n<=hi
 all_goals
  go_enter Tryz.func53,Tryz.ntmps53
  go_wp2;go_ret;exact ⟨by simp[Tp.within, *] <;> omega,rfl⟩
theorem AA (c e:Int) (w:World) :
 bP 54 #[.agg #[.int .i64 c,.int .i64 e]] w (.bool (Uy c e)):=by
 have hI1:=fun w0=>bG (jD e 1 1000 w0)
 have hI2:=fun w0=>bG (jD c 0 e w0)
 have hd:Kp (Uy c e=(Tp.within e 1 1000&&Tp.within c 0 e)):=⟨rfl⟩
 have B:=Bx.mk w 39 #[.int .i64 c,.int .i64 e];have hb:=bNew (aP w) (.cells #[.int .i64 c,.int .i64 e] 39);have c0:=B.cell 0 rfl;have c1:=B.cell 1 rfl;generalize Tp.within c 0 e=r2 at *
 cases h1:Tp.within e 1 1000 with
 | true =>
  rw[h1]at hI1 hd;clear h1
  go_enter Tryz.func54,Tryz.ntmps54
  go_wp2_with fail;refine (hI1 _).mono ?_;rintro e w1 ⟨rfl,hb1⟩;have d0:=(B.call hb1).cell 0 rfl;have d1:=(B.call hb1).cell 1 rfl;go_wp2_with fail;refine (hI2 _).mono ?_;rintro e w2 ⟨rfl,hb2⟩;go_wp2;go_ret;exact ⟨fD (by rw[hd.out];simp),ah (ah hb hb1) hb2⟩
 | false =>
  rw[h1]at hI1 hd;clear h1
  go_enter Tryz.func54,Tryz.ntmps54
  go_wp2_with fail;refine (hI1 _).mono ?_;rintro e w1 ⟨rfl,hb1⟩;go_wp2;go_ret;exact ⟨fD (by rw[hd.out];simp),ah hb hb1⟩
namespace Tf
theorem Ie {m z:Rat} {n:Nat} (hm:0<=m) (h:comb (List.replicate (n+1) m)=some z):∃x,comb (List.replicate n m)=some x/\x<=z:=by
 rw[List.replicate_succ',Ic]at h;obtain ⟨x,y,h1,h2,-,h3⟩:=JU h;cases h2
 exact⟨x,h1,by grind⟩
theorem Ky {a b:Rat} (h:a<=b):U6 a<=U6 b:=by
 unfold U6
 split <;> split <;> grind
theorem more {m z:Rat} {n:Nat} {v:Rat} (hm:0<=m) (h:comb (List.replicate (n+1) m)=some z) (hv:U6 z<=v):∃x,comb (List.replicate n m)=some x/\U6 x<=v:=by
 obtain⟨x,h1,h2⟩:=Ie hm h;exact ⟨x,h1,Rat.le_trans (Ky h2) hv⟩
end Tf
namespace Tf
end Tf
namespace Tf
structure Made (P:Pr->Prop) (r:Ru) (l:List Ho):Prop where
 va:Va P r l
 len:l.length<=8
 f0:∀h∈l,0<=h.f/\h.f<=384
 nn:∀h∈l,5<=h.n/\h.n<=7
 d0:∀h∈l,0<=h.d/\h.d<=406
 vv:∀h∈l,h.v=0∨h.v=1∨h.v=2
 sp:∀h∈l,Sp r h
theorem NQ.made {P:Pr->Prop} {r:Ru} {k:Nat} {s:List Ho × Int} (hr:UW r) (hk:k<=8) (h:NQ P r k s):Made P r s.1:=by
 have hl:=h.l2;have hlo:=hr.l1;refine ⟨h.va,by rw[h.len];exact hk,fun g hg=>?_,h.nn,fun g hg=>?_,fun g hg=>?_,h.va.sp (by omega)⟩
 · have a:=(h.va.fm g hg).f0;have b:=h.le g hg;omega
 · have a:=(h.va.fm g hg).f0;have b:=h.le g hg;have c:=h.dd g hg
   rcases (h.va.fm g hg).v with ⟨h1,h2⟩|⟨h1,h2,h3⟩ <;> omega
 · rcases (h.va.fm g hg).v with ⟨h1,h2⟩|⟨h1,h2,h3⟩ <;> omega
end Tf
namespace Tf
structure Vd (r:Ru) (f a:Int) (b:Pr):Prop where
 f0:fin r ⟨5,f,b,0,0⟩=f+r.lo
 f1:fin r ⟨5,f,b,1,f+a⟩=f+r.lo
 o0:owed r ⟨5,f,b,0,0⟩=r.pay*r.lo
 late:f+r.lo<=f+a->fin r ⟨5,f,b,2,f+a⟩=f+r.lo/\owed r ⟨5,f,b,1,f+a⟩=r.pay*r.lo/\owed r ⟨5,f,b,2,f+a⟩=r.pay*r.lo
 early:f+a<f+r.lo->fin r ⟨5,f,b,2,f+a⟩=f+a/\owed r ⟨5,f,b,1,f+a⟩=0/\owed r ⟨5,f,b,2,f+a⟩=r.pay*(f+a-f)
end Tf
namespace Tf
structure Su where
 kind:Int
 n:Int
 c:Int
 e:Int
 xP:Int
 count:Int
 times:List Int
 width:Int
 things:Int
 marked:Int
structure X6 where
 a:Int
 b:Int
 c:Int
 d:Int
 e:Int
 f:Int
structure GoodS (s:Su):Prop where
 k1:1<=s.kind
 k3:s.kind<=3
 e1:1<=s.e
 e2:s.e<=1000
 c0:0<=s.c
 ce:s.c<=s.e
 t0:0<=s.xP
 t8:s.xP<=8
 n0:0<=s.count
 n1:s.count<=s.xP+1
 so:Tb.So s.times
 len:s.times.length<=12
 tm:∀t∈s.times,0<=t/\t<=59940
 w:s.kind=1->1<=s.width/\s.width<=12
 w0:0<=s.width/\s.width<=12
 th:s.kind=3->s.xP<=s.things/\s.things<=16
 mr:s.kind=3->0<=s.marked/\s.marked<=s.things
 th0:0<=s.things/\s.things<=16
 mr0:0<=s.marked/\s.marked<=16
end Tf
inductive OB:Option Rat->List UInt8->List UInt8->Int->Prop
 | good {q:Rat} {ra rb:List UInt8} (hu:Un q) (lq:LQ q ra rb):OB (some q) ra rb 0
 | bad:OB none [] [] 360
def UnO (o:Option Rat):Prop:=∀q,o=some q->Un q
theorem OB.ex {o:Option Rat} (h:UnO o):∃(ra rb:List UInt8) (code:Int),OB o ra rb code:=by
 cases o with
 | none=>exact⟨_,_,_,.bad⟩
 | some q =>
  obtain⟨a,b,lq⟩:=LQ.ex q;exact ⟨a,b,0,.good (h q rfl) lq⟩
structure YV where
 s:Tf.Su
 A:Option Addr
 cap:Nat
structure yV (w:World) (B:Nat) (m:YV):Prop where
 at_:At 1 aV w B m.A m.s.times
 cap:m.s.times.length<=m.cap
 len:m.s.times.length<=9223372036854775807
theorem yV.below {w w':World} {B:Nat} {m:YV} (h:yV w B m) (hb:Below B w w'):yV w' B m:=⟨h.at_.below hb,h.cap,h.len⟩
theorem yV.more {w:World} {B B':Nat} {m:YV} (h:yV w B m) (hB:B<=B'):yV w B' m:=⟨h.at_.more hB,h.cap,h.len⟩
theorem yV.call {w w':World} {m:YV} (h:yV w w.heap.size m) (hb:Below w.heap.size w w'):yV w' w'.heap.size m:=(h.below hb).more hb.size
end Go.Proofs.YtohgjenaclfegaaGreatDoor

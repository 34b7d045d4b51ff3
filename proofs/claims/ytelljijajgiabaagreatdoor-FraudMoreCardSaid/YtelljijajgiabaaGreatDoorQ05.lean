import Derived.Test.YtelljijajgiabaaGreatDoorQ04
set_option linter.unusedVariables false
set_option linter.unusedSimpArgs false
set_option maxRecDepth 100000
set_option maxHeartbeats 8000000
namespace Rq
def Sz (k:Nat) (z:Int):Prop:=z.natAbs<10 ^ k
theorem Sz.mono {j k:Nat} {z:Int} (h:Sz j z) (hk:j<=k):Sz k z:=Nat.lt_of_lt_of_le h (Nat.pow_le_pow_right (by decide) hk)
theorem Sz.fits {k:Nat} {z:Int} (h:Sz k z) (hk:k<=200):Ig.fits z:=h.mono hk
theorem Sz.add {k:Nat} {x y:Int} (hx:Sz k x) (hy:Sz k y):Sz (k+1) (x+y):=by
 unfold Sz at *
 rw[Nat.pow_succ];omega
theorem Sz.neg {k:Nat} {x:Int} (hx:Sz k x):Sz k (-x):=by unfold Sz at *;omega
theorem Sz.mul {j k:Nat} {x y:Int} (hx:Sz j x) (hy:Sz k y):Sz (j+k) (x*y):=by
 unfold Sz at *
 rw[Int.natAbs_mul,Nat.pow_add];exact Nat.mul_lt_mul'' hx hy
theorem O_:Sz 1 1:=by unfold Sz;decide
theorem Uw:Sz 1 0:=by unfold Sz;decide
structure Qz (j k:Nat) (q:Rat):Prop where
 num:Sz j q.num
 den:Sz k (q.den:Int)
theorem Qz.fq {j k:Nat} {q:Rat} (h:Qz j k q) (hj:j<=200) (hk:k<=200):Fq q:=⟨h.num.fits hj,h.den.fits hk⟩
theorem Qz.mono {j k j' k':Nat} {q:Rat} (h:Qz j k q) (hj:j<=j') (hk:k<=k'):Qz j' k' q:=⟨h.num.mono hj,h.den.mono hk⟩
def kY (x y:Rat):Int:=Go.Proofs.YtelljijajgiabaaGreatDoor.dA (x.num*y.den) (y.num*x.den)
theorem YR {x y:Rat}:kY x y= -1↔x<y:=by
 rw[Rat.lt_iff]
 unfold kY Go.Proofs.YtelljijajgiabaaGreatDoor.dA
 split
 · simp[*]
 · split <;> simp[*]
theorem SB {x y:Rat}:kY x y=1↔y<x:=by
 rw[Rat.lt_iff]
 unfold kY Go.Proofs.YtelljijajgiabaaGreatDoor.dA
 split
 · simp;omega
 · split <;> simp[*]
theorem cmp_eq {x y:Rat}:kY x y=0↔x=y:=by
 have h:=Rat.divInt_eq_divInt_iff (n₁:=x.num) (n₂:=y.num) (lQ x) (lQ y);rw [Rat.num_divInt_den,Rat.num_divInt_den]at h;rw [h]
 unfold kY Go.Proofs.YtelljijajgiabaaGreatDoor.dA
 split
 · simp;omega
 · split <;> simp <;> omega
theorem iU (x y:Rat):(kY x y= -1/\x<y)∨(kY x y=0/\x=y)∨(kY x y=1/\y<x):=by
 have h:kY x y= -1∨kY x y=0∨kY x y=1:=by
  unfold kY Go.Proofs.YtelljijajgiabaaGreatDoor.dA
  split
  · simp
  · split <;> simp
 rcases h with h|h|h
 · exact .inl ⟨h,YR.1 h⟩
 · exact .inr (.inl ⟨h,cmp_eq.1 h⟩)
 · exact .inr (.inr ⟨h,SB.1 h⟩)
end Rq
namespace Go.Proofs.YtelljijajgiabaaGreatDoor.RK
open Go.RowKit
structure Cls (K:World->World->Prop):Prop where
 refl:∀w,K w w
 trans:∀ {a b c},K a b->K b c->K a c
 drawn:∀(w:World) n,K w { w with drawn:=n }
def eP (K:World->World->Prop) (p:Value->World->Prop):Prop:=∀v w w',p v w->K w w'->p v w'
def ak (u:Value):Value->World->Prop:=fun v _=>v=u
def jJ:Value->World->Prop:=fun _ _=>True
theorem aF {K:World->World->Prop} (u:Value):eP K (ak u):=fun _ _ _ h _=>h
theorem jo {K:World->World->Prop}:eP K jJ:=fun _ _ _ _ _=>trivial
def rel (ps:List (Value->World->Prop)) (i:Nat) (v:Value) (w:World):Prop:=(ps.getD i jJ) v w
def bV (K:World->World->Prop):List (Value->World->Prop)->Prop
 | []=>True
 | p :: l=>eP K p/\bV K l
def cZ (vs:Nat->Value) (w:World):Nat->List (Value->World->Prop)->Prop
 | _,[]=>True
 | k,p :: l=>p (vs k) w/\cZ vs w (k+1) l
theorem bV.get {K:World->World->Prop}:∀(ps:List (Value->World->Prop)) (i:Nat),bV K ps->eP K (ps.getD i jJ)
 | [],i,_=>by simpa using jo
 | p :: l,0,h=>by simpa using h.1
 | p :: l,i+1,h=>by simpa using bV.get l i h.2
theorem ig {vs:Nat->Value} {w:World}:∀(ps:List (Value->World->Prop)) (k:Nat),(∀i,i<ps.length->(ps.getD i jJ) (vs (k+i)) w)->cZ vs w k ps
 | [],_,_=>trivial
 | p :: l,k,h=>⟨by simpa using h 0 (by simp),ig l (k+1) fun i hi=>by
  have:=h (i+1) (by simp;omega)
  rw[show k+1+i=k+(i+1) by omega];simpa using this⟩
def zZ (o:Oper) (j:Nat):Bool:=o.after.toList.any fun e=>Region.binds .any e&&e.on==j
def aQ (vs:Nat->Value):Nat->List (Option Tmp)->Act->Act
 | _,[],a=>a
 | k,d :: rest,a=>aQ vs (k+1) rest (a.put d (vs k))
theorem dK (vs:Nat->Value):∀(l:List Oper) (k:Nat) (a:Act),dR vs k l a=aQ vs k (l.map (·.dst)) a
 | [],_,_=>rfl
 | o :: l,k,a=>dK vs l (k+1) _
def Users (K:World->World->Prop) (P:Program) (ps:List (Value->World->Prop)) (w0:World) (a0:Act):List (Option Tmp)->List Oper->List (Value->World->Prop)->Prop
 | pre,o :: l,q :: qs=>(∀(vs:Nat->Value) (w:World),K w0 w->(∀j,zZ o j=true->rel ps j (vs j) w) ->
  wpList P #[] (fun e a' w'=>e=.normal/\a'.defers=a0.defers/\K w w'/\q (qV o a') w') [o] (aQ vs 0 pre a0) w)/\Users K P ps w0 a0 (pre++[o.dst]) l qs
 | _,_,_=>True
theorem Users.rg {K:World->World->Prop} {P:Program} {ps:List (Value->World->Prop)} {w0:World} {a0:Act} {L:List Oper} {n:Nat} (hlk:iD L.toArray n=true) (hnp:n<=ps.length):∀(l:List Oper) (k:Nat),(∀j,l[j]? = (L.take n)[k+j]?)->Users K P ps w0 a0 ((L.take k).map (·.dst)) l (ps.drop k)->RS.dw K (fun _=>none) P L.toArray (fun i _ v w=>rel ps i v w) w0 a0 k l
 | [],_,_,_=>trivial
 | o :: l,k,hl,h=>by
  have h0:(L.take n)[k]? = some o:=by simpa using (hl 0).symm
  obtain⟨hkn,hLo⟩:=fC h0;have hkp:k<ps.length:=by omega
  rw[List.drop_eq_getElem_cons hkp]at h;refine ⟨fun vs w hb hE=>?_,Users.rg hlk hnp l (k+1) (fun j=>by have:=hl (j+1);simpa [Nat.add_assoc,Nat.add_comm 1 j] using this) ?_⟩
  · have h1:=List.all_eq_true.1 hlk k (List.mem_range.2 hkn);have Rt:L.toArray[k]? = some o:=by simpa using hLo
    simp only[Rt,Bool.and_eq_true]at h1
    have hu:=h.1 vs w hb fun j hj=>by
     obtain⟨e,he,t_⟩:=List.any_eq_true.1 hj;simp only[Bool.and_eq_true,beq_iff_eq]at t_;have:=RS.iH _ hE e he t_.1
     rwa [t_.2]at this
    have hfr:seen L.toArray vs k a0=aQ vs 0 ((L.take k).map (·.dst)) a0:=dK vs _ 0 a0;rw [hfr];refine sW (ops:=#[]) (by simpa using h1.1.1) ?_;have hq:ps[k]=ps.getD k jJ:=by simp[List.getD_eq_getElem?_getD,hkp]
    rw[hq]at hu;exact hu
  · have h2:=h.2
    have e1:(L.take k).map (·.dst)++[o.dst]=(L.take (k+1)).map (·.dst):=by
     rw[List.take_add_one,hLo];simp
    rw[e1]at h2;exact h2
theorem dJ {K:World->World->Prop} (hK:Cls K) {P:Program} {l:List Oper} {Q:Exit->Act->World->Prop} {a0:Act} {w0:World} (ps:List (Value->World->Prop)) (n sz:Nat) (hnp:ps.length=n) (hsz:a0.tmps.size=sz)
 (hB:(nH l.toArray sz&&iD l.toArray n&&(decide (l.length<=n)||(Region.sinkB .any l.toArray n&&Region.chainB .any l.toArray n))&&decide (n<=l.length)&&Region.seqB .any l.toArray (l.length-n) n ((List.range l.length).map fun i=>decide (i<n)).toArray)=true)
 (hst:bV K ps) (hsteps:Users K P ps w0 a0 [] (l.take n) ps)
 (hfin:∀vs w',K w0 w'->cZ vs w' 0 ps->wpList P l.toArray Q (l.drop n) (aQ vs 0 ((l.take n).map (·.dst)) a0) w'):wpAny P .any l.toArray Q l.toArray.size (Array.replicate l.toArray.size false) a0 { w0 with drawn:=w0.drawn+1 }:=by
 subst hnp hsz;have hlk:iD l.toArray ps.length=true:=by simp only[Bool.and_eq_true]at hB;exact hB.1.1.1.2
 replace hB:(nH l.toArray a0.tmps.size&&mQ l.toArray ps.length&&(decide (l.length<=ps.length)||(Region.sinkB .any l.toArray ps.length&&Region.chainB .any l.toArray ps.length))&&decide (ps.length<=l.length)&&Region.seqB .any l.toArray (l.length-ps.length) ps.length ((List.range l.length).map fun i=>decide (i<ps.length)).toArray)=true:=by
  simp only[Bool.and_eq_true]at hB ⊢;exact ⟨⟨⟨⟨hB.1.1.1.1,Dc hlk⟩,hB.1.1.2⟩,hB.1.2⟩,hB.2⟩
 refine RS.eu ⟨hK.refl,hK.trans,hK.drawn⟩ (fun _=>none) ps.length (fun i _ v w=>rel ps i v w) hB (fun _ _ _ _ h=>by cases h) (fun i _ v w w' h hb=>bV.get ps i hst v w w' h hb) (Users.rg hlk (Nat.le_refl _) (l.take ps.length) 0 (fun j=>by simp) hsteps) fun vs w' hb hR=>by rw[dK];exact hfin vs w' hb (ig ps 0 fun i hi=>by rw[Nat.zero_add];exact hR i hi)
theorem aA {K:World->World->Prop} (hK:Cls K) {P:Program} {id:Nat} {l:List Oper} {Q:Exit->Act->World->Prop} {a0:Act} {w0:World} (ps:List (Value->World->Prop)) (n sz:Nat) (hm:P.follows .mixedOrders=true) (hnp:ps.length=n) (hsz:a0.tmps.size=sz)
 (hB:(nH l.toArray sz&&iD l.toArray n&&(decide (l.length<=n)||(Region.sinkB .any l.toArray n&&Region.chainB .any l.toArray n))&&decide (n<=l.length)&&Region.seqB .any l.toArray (l.length-n) n ((List.range l.length).map fun i=>decide (i<n)).toArray)=true)
 (hst:bV K ps) (hsteps:Users K P ps w0 a0 [] (l.take n) ps)
 (hfin:∀vs w',K w0 w'->cZ vs w' 0 ps->wpList P l.toArray Q (l.drop n) (aQ vs 0 ((l.take n).map (·.dst)) a0) w'):(Code.region id l.toArray true).wp P Q a0 w0 :=
 wp_region_any hm (dJ hK ps n sz hnp hsz hB hst hsteps hfin)
end Go.Proofs.YtelljijajgiabaaGreatDoor.RK
namespace Go.Proofs.YtelljijajgiabaaGreatDoor
open Go.RowKit Go.Shelf
structure Wk (w0 W:World) (g:Nat) (bad:Bool):Prop where
 hb:Below w0.heap.size w0 W
 ge:w0.heap.size<=g
 bx:Bx W g 108 #[.bool bad]
section
variable {w0 W W':World} {g:Nat} {bad:Bool}
theorem Wk.call (h:Wk w0 W g bad) (hb:Below W.heap.size W W'):Wk w0 W' g bad:=⟨aj h.hb hb,h.ge,h.bx.call hb⟩
theorem Wk.cell (h:Wk w0 W g bad):W.cell? ⟨g,0,none⟩=some (.bool bad):=h.bx.cell 0 rfl
theorem Wk.frozen (h:Wk w0 W g bad):W.frozen? ⟨g,0,none⟩=false:=h.bx.frozen 0
theorem Wk.set (h:Wk w0 W g bad) (b:Bool):Wk w0 (W.setCell ⟨g,0,none⟩ (.bool b)) g b:=⟨aJ h.hb h.ge _,h.ge,by simpa using h.bx.set 0 (.bool b)⟩
theorem Wk.far (h:Wk w0 W g bad) {p:Addr} (hp:g≠p.block) (hp2:w0.heap.size<=p.block) (u:Value):Wk w0 (W.setCell p u) g bad:=⟨aJ h.hb hp2 _,h.ge,h.bx.far hp u⟩
end
structure Ks (g:Nat) (W W':World):Prop where
 size:W.heap.size<=W'.heap.size
 same:∀k,k<W.heap.size->k≠g->W'.heap[k]? = W.heap[k]?
theorem Ks.of {g:Nat} {W W':World} (h:Below W.heap.size W W'):Ks g W W':=⟨h.size,fun k hk _=>h.block k hk⟩
theorem Ks.set {g:Nat} {W W':World} (h:Ks g W W') (hg:g<W'.heap.size) (u:Value):Ks g W (W'.setCell ⟨g,0,none⟩ u) :=
 ⟨Nat.le_trans h.size (by simp[World.setCell]),fun k hk hne=>(Below.heap_setCell W' ⟨g,0,none⟩ u k hne).trans (h.same k hk hne)⟩
theorem Ks.trans {g:Nat} {W W' W'':World} (h:Ks g W W') (h':Ks g W' W''):Ks g W W'' :=
 ⟨Nat.le_trans h.size h'.size,fun k hk hne=>(h'.same k (Nat.lt_of_lt_of_le hk h.size) hne).trans (h.same k hk hne)⟩
theorem Bx.ks {g k:Nat} {W W':World} {t:TypeId} {cs:Array Value} (h:Bx W k t cs) (hk:Ks g W W') (hne:k≠g):Bx W' k t cs:=(hk.same k h.lt hne).trans h
theorem NU (a b:List UInt8) (w0 W:World) (g:Nat) (h:Wk w0 W g true) :
 Calls Tryz.prog 110 #[.pointer (some ⟨g,0,none⟩),.func (.func 111) #[] #[],.string ⟨a.toArray⟩,.string ⟨b.toArray⟩] W fun e w'=>e=.returned (.string ⟨#[]⟩)/\w'=W:=by
 have hc:=h.cell
 go_enter Tryz.func110,Tryz.ntmps110
 go_wp2;go_ret;exact ⟨rfl,rfl⟩
theorem JX (a b s:List UInt8) (e:Int) (w0 W:World) (g:Nat) (h:Wk w0 W g false)
 (hop:∀W',Below w0.heap.size w0 W'->aW 111 #[.string ⟨a.toArray⟩,.string ⟨b.toArray⟩] W' (.tuple #[.string ⟨s.toArray⟩,.int .i64 e])) :
 Calls Tryz.prog 110 #[.pointer (some ⟨g,0,none⟩),.func (.func 111) #[] #[],.string ⟨a.toArray⟩,.string ⟨b.toArray⟩] W fun e' w'=>e'=.returned (.string ⟨s.toArray⟩)/\Wk w0 w' g (e != 0)/\Ks g W w':=by
 have hc:=h.cell;have hO:=hop W h.hb;clear hop
 go_enter Tryz.func110,Tryz.ntmps110
 go_wp2_with fail;refine hO.mono ?_;rintro _ w1 ⟨rfl,hb1⟩;have h1:=h.call hb1;have hc1:=h1.cell;have hf1:=h1.frozen;have h2:=h1.set (e != 0);have hk:=(Ks.of (g:=g) hb1).set h1.bx.lt (.bool (e != 0));clear hO hc h hb1;go_wp2;go_ret;exact ⟨rfl,h2,hk⟩
theorem zX (a b s:List UInt8) (e:Int) (w0 W:World) (g:Nat) (h:Wk w0 W g false)
 (hop:∀W',Below w0.heap.size w0 W'->aW 112 #[.string ⟨a.toArray⟩,.string ⟨b.toArray⟩] W' (.tuple #[.string ⟨s.toArray⟩,.int .i64 e])) :
 Calls Tryz.prog 110 #[.pointer (some ⟨g,0,none⟩),.func (.func 112) #[] #[],.string ⟨a.toArray⟩,.string ⟨b.toArray⟩] W fun e' w'=>e'=.returned (.string ⟨s.toArray⟩)/\Wk w0 w' g (e != 0)/\Ks g W w':=by
 have hc:=h.cell;have hO:=hop W h.hb;clear hop
 go_enter Tryz.func110,Tryz.ntmps110
 go_wp2_with fail;refine hO.mono ?_;rintro _ w1 ⟨rfl,hb1⟩;have h1:=h.call hb1;have hc1:=h1.cell;have hf1:=h1.frozen;have h2:=h1.set (e != 0);have hk:=(Ks.of (g:=g) hb1).set h1.bx.lt (.bool (e != 0));clear hO hc h hb1;go_wp2;go_ret;exact ⟨rfl,h2,hk⟩
theorem zY (a b s:List UInt8) (e:Int) (w0 W:World) (g:Nat) (h:Wk w0 W g false)
 (hop:∀W',Below w0.heap.size w0 W'->aW 96 #[.string ⟨a.toArray⟩,.string ⟨b.toArray⟩] W' (.tuple #[.string ⟨s.toArray⟩,.int .i64 e])) :
 Calls Tryz.prog 110 #[.pointer (some ⟨g,0,none⟩),.func (.func 96) #[] #[],.string ⟨a.toArray⟩,.string ⟨b.toArray⟩] W fun e' w'=>e'=.returned (.string ⟨s.toArray⟩)/\Wk w0 w' g (e != 0)/\Ks g W w':=by
 have hc:=h.cell;have hO:=hop W h.hb;clear hop
 go_enter Tryz.func110,Tryz.ntmps110
 go_wp2_with fail;refine hO.mono ?_;rintro _ w1 ⟨rfl,hb1⟩;have h1:=h.call hb1;have hc1:=h1.cell;have hf1:=h1.frozen;have h2:=h1.set (e != 0);have hk:=(Ks.of (g:=g) hb1).set h1.bx.lt (.bool (e != 0));clear hO hc h hb1;go_wp2;go_ret;exact ⟨rfl,h2,hk⟩
theorem NV (a b:List UInt8) (w0 W:World) (g:Nat) (h:Wk w0 W g true) :
 Calls Tryz.prog 110 #[.pointer (some ⟨g,0,none⟩),.func (.func 131) #[] #[],.string ⟨a.toArray⟩,.string ⟨b.toArray⟩] W fun e w'=>e=.returned (.string ⟨#[]⟩)/\w'=W:=by
 have hc:=h.cell
 go_enter Tryz.func110,Tryz.ntmps110
 go_wp2;go_ret;exact ⟨rfl,rfl⟩
theorem JY (a b s:List UInt8) (e:Int) (w0 W:World) (g:Nat) (h:Wk w0 W g false)
 (hop:∀W',Below w0.heap.size w0 W'->aW 131 #[.string ⟨a.toArray⟩,.string ⟨b.toArray⟩] W' (.tuple #[.string ⟨s.toArray⟩,.int .i64 e])) :
 Calls Tryz.prog 110 #[.pointer (some ⟨g,0,none⟩),.func (.func 131) #[] #[],.string ⟨a.toArray⟩,.string ⟨b.toArray⟩] W fun e' w'=>e'=.returned (.string ⟨s.toArray⟩)/\Wk w0 w' g (e != 0)/\Ks g W w':=by
 have hc:=h.cell;have hO:=hop W h.hb;clear hop
 go_enter Tryz.func110,Tryz.ntmps110
 go_wp2_with fail;refine hO.mono ?_;rintro _ w1 ⟨rfl,hb1⟩;have h1:=h.call hb1;have hc1:=h1.cell;have hf1:=h1.frozen;have h2:=h1.set (e != 0);have hk:=(Ks.of (g:=g) hb1).set h1.bx.lt (.bool (e != 0));clear hO hc h hb1;go_wp2;go_ret;exact ⟨rfl,h2,hk⟩
theorem JW (a b s:List UInt8) (e:Int) (w0 W:World) (g:Nat) (h:Wk w0 W g false)
 (hop:∀W',Below w0.heap.size w0 W'->aW 159 #[.string ⟨a.toArray⟩,.string ⟨b.toArray⟩] W' (.tuple #[.string ⟨s.toArray⟩,.int .i64 e])) :
 Calls Tryz.prog 110 #[.pointer (some ⟨g,0,none⟩),.func (.func 159) #[] #[],.string ⟨a.toArray⟩,.string ⟨b.toArray⟩] W fun e' w'=>e'=.returned (.string ⟨s.toArray⟩)/\Wk w0 w' g (e != 0)/\Ks g W w':=by
 have hc:=h.cell;have hO:=hop W h.hb;clear hop
 go_enter Tryz.func110,Tryz.ntmps110
 go_wp2_with fail;refine hO.mono ?_;rintro _ w1 ⟨rfl,hb1⟩;have h1:=h.call hb1;have hc1:=h1.cell;have hf1:=h1.frozen;have h2:=h1.set (e != 0);have hk:=(Ks.of (g:=g) hb1).set h1.bx.lt (.bool (e != 0));clear hO hc h hb1;go_wp2;go_ret;exact ⟨rfl,h2,hk⟩
theorem U2 (a b:List UInt8) (w0 W:World) (g:Nat) (h:Wk w0 W g true) :
 Calls Tryz.prog 70 #[.pointer (some ⟨g,0,none⟩),.string ⟨a.toArray⟩,.string ⟨b.toArray⟩] W fun e w'=>e=.returned (.string ⟨#[]⟩)/\w'=W:=by
 have hD:=NU a b w0 W g h;clear h
 go_enter Tryz.func70,Tryz.ntmps70
 go_wp2_with fail;refine hD.mono ?_;rintro _ w1 ⟨rfl,rfl⟩;clear hD;go_wp2;go_ret;exact ⟨rfl,rfl⟩
theorem Gz {a b:Nat} (hb:0<b) (h:a % b=0):(-(a:Int)) / (b:Int)= -((a / b:Nat):Int)/\(-(a:Int)) % (b:Int)=0:=by
 refine (Int.ediv_emod_unique (by omega)).2 ⟨?_,Int.le_refl _,by omega⟩;have h1:=Nat.div_add_mod a b;rw [h]at h1;rw [Int.mul_neg,Int.zero_add,←Int.natCast_mul];omega
theorem Qk {a b:Nat} (hb:0<b) (h:a % b≠0):(-(a:Int)) / (b:Int)= -((a / b+1:Nat):Int)/\(-(a:Int)) % (b:Int)=((b-a % b:Nat):Int):=by
 have h2:=Nat.mod_lt a hb;refine (Int.ediv_emod_unique (by omega)).2 ⟨?_,by omega,by omega⟩;have h1:=Nat.div_add_mod a b;rw [Int.mul_neg,←Int.natCast_mul,Nat.mul_add,Nat.mul_one];omega
theorem sG (x:Int):(x=(x.natAbs:Int)/\decide (x<0)=false)∨(x= -(x.natAbs:Int)/\decide (x<0)=true):=by
 by_cases h:x<0
 · exact .inr ⟨by omega,by simpa using h⟩
 · exact .inl ⟨by omega,by simpa using h⟩
theorem H6 {x y:Int} (hy:y≠0) (h:decide (x<0)=false∨x.natAbs % y.natAbs=0):dM (decide (x<0) != decide (y<0)) (x.natAbs / y.natAbs)=x / y/\((x.natAbs % y.natAbs:Nat):Int)=x % y:=by
 have hb:0<y.natAbs:=by omega
 have hx:=sG x;have hy:=sG y;generalize x.natAbs=a at *;generalize y.natAbs=b at *;generalize decide (x<0)=n at *;generalize decide (y<0)=m at *
 rcases hx with ⟨rfl,rfl⟩|⟨rfl,rfl⟩ <;> rcases hy with ⟨rfl,rfl⟩|⟨rfl,rfl⟩
 · simp[dM]
 · simp[dM,Int.ediv_neg]
 · have hr:a % b=0:=by simpa using h
   have:=Gz hb hr;simp [dM,this.1,this.2,hr]
 · have hr:a % b=0:=by simpa using h
   have:=Gz hb hr;simp [dM,Int.ediv_neg,this.1,this.2,hr]
theorem HY {x y:Int} (hy:y≠0) (h:decide (x<0)=true) (h':x.natAbs % y.natAbs≠0):dM (decide (x<0) != decide (y<0)) (x.natAbs / y.natAbs+1)=x / y/\((y.natAbs-x.natAbs % y.natAbs:Nat):Int)=x % y:=by
 have hb:0<y.natAbs:=by omega
 have hx:=sG x;have hy:=sG y;generalize x.natAbs=a at *;generalize y.natAbs=b at *;generalize decide (x<0)=n at *;generalize decide (y<0)=m at *;subst h;have hx:x= -(a:Int):=by simpa using hx
 subst hx;have h3:=Qk hb h'
 rcases hy with ⟨rfl,rfl⟩|⟨rfl,rfl⟩
 · rw[h3.1,h3.2];simp[dM]
 · rw[Int.ediv_neg,Int.emod_neg,h3.1,h3.2];simp[dM]
theorem gJ {x:Int} (y:Int) (h:Ig.fits x):Ig.fits (x / y):=Nat.lt_of_le_of_lt (Int.natAbs_ediv_le_natAbs x y) h
theorem mY (x:Int) {y:Int} (hy:y≠0) (h:Ig.fits y):Ig.fits (x % y):=by
 have h1:=Int.emod_nonneg x hy;have h2:=Int.emod_lt x hy
 unfold Ig.fits at *
 omega
theorem vZ (x y:Int) (w:World) (hx:Ig.fits x) (hy:Ig.fits y) (hy0:y≠0) (hE:Env w) :
 aW 66 #[.string ⟨(Lib.itoa x).toArray⟩,.string ⟨(Lib.itoa y).toArray⟩] w (.tuple #[.string ⟨(Lib.itoa (x / y)).toArray⟩,.string ⟨(Lib.itoa (x % y)).toArray⟩,.int .i64 0]):=by
 have hB:=both_any x y w hx hy;have lx:=Ig.gI hx;have ly:=Ig.gI hy;have fq:=gJ y hx;have fr:=mY x hy0 hy;have hay:0<y.natAbs:=by omega
 have k1:decide (x<0)=false∨x.natAbs % y.natAbs=0->Kp (Ig.iq (dM (decide (x<0) != decide (y<0)) (x.natAbs / y.natAbs))=Lib.itoa (x / y)/\Ig.resE (dM (decide (x<0) != decide (y<0)) (x.natAbs / y.natAbs))=0/\Ig.iq (dM false (x.natAbs % y.natAbs))=Lib.itoa (x % y)/\Ig.resE (dM false (x.natAbs % y.natAbs))=0):=fun h=>⟨by
  have h1:=H6 hy0 h;rw [h1.1,show dM false (x.natAbs % y.natAbs)=x % y from h1.2]
  exact⟨Ig.dh fq,Ig.dO fq,Ig.dh fr,Ig.dO fr⟩⟩
 have k2:decide (x<0)=true->x.natAbs % y.natAbs≠0->Kp (Ig.iq (dM (decide (x<0) != decide (y<0)) (x.natAbs / y.natAbs+1))=Lib.itoa (x / y)/\Ig.resE (dM (decide (x<0) != decide (y<0)) (x.natAbs / y.natAbs+1))=0/\Ig.iq (dM false (y.natAbs-x.natAbs % y.natAbs))=Lib.itoa (x % y)/\Ig.resE (dM false (y.natAbs-x.natAbs % y.natAbs))=0):=fun h h'=>⟨by
  have h1:=HY hy0 h h';rw [h1.1,show dM false (y.natAbs-x.natAbs % y.natAbs)=x % y from h1.2]
  exact⟨Ig.dh fq,Ig.dO fq,Ig.dh fr,Ig.dO fr⟩⟩
 clear fq fr;generalize Lib.itoa (x / y)=SQ at *;generalize Lib.itoa (x % y)=SR at *;generalize decide (x<0)=nx at *;generalize decide (y<0)=ny at *;generalize x.natAbs=ax at *;generalize y.natAbs=ay at *;generalize Lib.itoa x=sx at *;generalize Lib.itoa y=sy at *;clear hx hy hy0;have lq:(Ig.grp (ax / ay)).length<=50:=Ig.jW lx (Nat.div_le_self _ _);have uo:(Ig.grp (ax / ay+1)).length<=50+1:=Ig.qP lq (by rw[vG];decide);have lr:(Ig.grp (ax % ay)).length<=50:=Ig.jW lx (Nat.mod_le _ _);have lr1:(Ig.grp (ay-ax % ay)).length<=50:=Ig.jW ly (Nat.sub_le _ _);have hrle:ax % ay<=ay:=Nat.le_of_lt (Nat.mod_lt _ hay);have hly:(Ig.grp ay).length≠0:=fun e=>by have:=Ig.jh.1 e;omega
 go_enter Tryz.func66,Tryz.ntmps66
 go_wp2_with fail;refine hB.mono ?_;rintro _ w1 ⟨u,v,rfl,hu,hv,hb1⟩;obtain ⟨A1,c1,rfl,-⟩:=id hu.out;obtain ⟨A2,c2,rfl,-⟩:=id hv.out;clear hB;have hb2:=bNew (au w1 (.cells #[.bool nx,.slice A1 (Ig.grp ax).length c1] 129)) (.cells #[.bool ny,.slice A2 (Ig.grp ay).length c2] 129);have B1:=(Bx.mk w1 129 #[.bool nx,.slice A1 (Ig.grp ax).length c1]).new (.cells #[.bool ny,.slice A2 (Ig.grp ay).length c2] 129);have B2:=Bx.mk (w1.alloc (.cells #[.bool nx,.slice A1 (Ig.grp ax).length c1] 129)) 129 #[.bool ny,.slice A2 (Ig.grp ay).length c2];rw [ah]at B2;have t0:decide (((Ig.grp ay).length:Int)=0)=false:=decide_eq_false (by omega);have t1:(((Ig.grp ay).length:Int)==0)=false:=beq_eq_false_iff_ne.2 (by omega);go_wp2_with fail;clear t0 t1;replace hu:=hu.call hb2;replace hv:=hv.call hb2;replace hb1:=aj hb1 hb2;have hO:=Gs ax ay _ _ _ hu hv hay (by omega) (by omega);generalize hg:((w1.alloc (.cells #[.bool nx,.slice A1 (Ig.grp ax).length c1] 129)).alloc (.cells #[.bool ny,.slice A2 (Ig.grp ay).length c2] 129))=W0 at *;clear hg hb2;refine hO.mono ?_;rintro _ W1 ⟨q,r,rfl,hq,hr,hb3⟩;clear hO;obtain ⟨A3,c3,rfl,-⟩:=id hq.out;obtain ⟨A4,c4,rfl,-⟩:=id hr.out;replace B1:=B1.call hb3;replace B2:=B2.call hb3;replace hv:=hv.call hb3;replace hb1:=aj hb1 hb3;have hE1:=hE.below hb1;have p0:=B1.cell 0 rfl;have p2:=B2.cell 0 rfl;clear hb3 hu hE;cases nx
 · have hk:=k1 (.inl rfl);clear k1 k2;cases ny
   · go_wp2_with fail;have hT1:=dY false (ax / ay) _ W1 hq (by omega) hE1;have hk1:Ig.iq (dM false (ax / ay))=SQ:=hk.out.1;have hk2:Ig.resE (dM false (ax / ay))=0:=hk.out.2.1;rw [hk1,hk2]at hT1;refine hT1.mono ?_;rintro _ w6 ⟨rfl,hb6⟩;have QL:=hr.call hb6;have Rw:=hE1.below hb6;have hb7:=aj hb1 hb6;have hT2:=dY false (ax % ay) _ w6 QL (by first|omega|(rw [hn4.out];omega)) Rw;rw [hk.out.2.2.1,hk.out.2.2.2]at hT2;clear hT1 hk hk1 hk2;go_wp2_with fail;refine hT2.mono ?_;rintro _ w7 ⟨rfl,hb8⟩;clear hT2;go_wp2
     go_ret3
     exact⟨rfl,aj hb7 hb8⟩
   · go_wp2_with fail;have hT1:=dY true (ax / ay) _ W1 hq (by omega) hE1;have hk1:Ig.iq (dM true (ax / ay))=SQ:=hk.out.1;have hk2:Ig.resE (dM true (ax / ay))=0:=hk.out.2.1;rw [hk1,hk2]at hT1;refine hT1.mono ?_;rintro _ w6 ⟨rfl,hb6⟩;have QL:=hr.call hb6;have Rw:=hE1.below hb6;have hb7:=aj hb1 hb6;have hT2:=dY false (ax % ay) _ w6 QL (by first|omega|(rw [hn4.out];omega)) Rw;rw [hk.out.2.2.1,hk.out.2.2.2]at hT2;clear hT1 hk hk1 hk2;go_wp2_with fail;refine hT2.mono ?_;rintro _ w7 ⟨rfl,hb8⟩;clear hT2;go_wp2
     go_ret3
     exact⟨rfl,aj hb7 hb8⟩
 · by_cases hr0:ax % ay=0
   · have hk:=k1 (.inr hr0);have hl0:((Ig.grp (ax % ay)).length:Int)=0:=by rw[hr0,Ig.aP];rfl
     have t0:decide (0<(Ig.grp (ax % ay)).length)=false:=decide_eq_false (by omega);clear k1 k2 hl0 hr0;generalize hn4:(Ig.grp (ax % ay)).length=n4 at *;replace hn4:=Kp.mk hn4;cases ny
     · go_wp2_with fail;have hT1:=dY true (ax / ay) _ W1 hq (by omega) hE1;have hk1:Ig.iq (dM true (ax / ay))=SQ:=hk.out.1;have hk2:Ig.resE (dM true (ax / ay))=0:=hk.out.2.1;rw [hk1,hk2]at hT1;refine hT1.mono ?_;rintro _ w6 ⟨rfl,hb6⟩;have QL:=hr.call hb6;have Rw:=hE1.below hb6;have hb7:=aj hb1 hb6;have hT2:=dY false (ax % ay) _ w6 QL (by first|omega|(rw [hn4.out];omega)) Rw;rw [hk.out.2.2.1,hk.out.2.2.2]at hT2;clear hT1 hk hk1 hk2;go_wp2_with fail;refine hT2.mono ?_;rintro _ w7 ⟨rfl,hb8⟩;clear hT2;go_wp2
       go_ret3
       exact⟨rfl,aj hb7 hb8⟩
     · go_wp2_with fail;have hT1:=dY false (ax / ay) _ W1 hq (by omega) hE1;have hk1:Ig.iq (dM false (ax / ay))=SQ:=hk.out.1;have hk2:Ig.resE (dM false (ax / ay))=0:=hk.out.2.1;rw [hk1,hk2]at hT1;refine hT1.mono ?_;rintro _ w6 ⟨rfl,hb6⟩;have QL:=hr.call hb6;have Rw:=hE1.below hb6;have hb7:=aj hb1 hb6;have hT2:=dY false (ax % ay) _ w6 QL (by first|omega|(rw [hn4.out];omega)) Rw;rw [hk.out.2.2.1,hk.out.2.2.2]at hT2;clear hT1 hk hk1 hk2;go_wp2_with fail;refine hT2.mono ?_;rintro _ w7 ⟨rfl,hb8⟩;clear hT2;go_wp2
       go_ret3
       exact⟨rfl,aj hb7 hb8⟩
   · have hk:=k2 rfl hr0;have hl0:(Ig.grp (ax % ay)).length≠0:=fun e=>hr0 (Ig.jh.1 e)
     have t0:decide (0<(Ig.grp (ax % ay)).length)=true:=decide_eq_true (by omega);clear k1 k2 hl0 hr0;generalize hn4:(Ig.grp (ax % ay)).length=n4 at *;replace hn4:=Kp.mk hn4;go_wp2_with fail;clear t0;have hly':=Kp.mk ly;have hlq':=Kp.mk lq;have p1:=fun w2 (hb2:Below W1.heap.size W1 w2)=>(hb2.cell (p:=⟨w1.heap.size+1,1,none⟩) B2.lt).trans (B2.cell 1 rfl)
     refine aA [ak (.slice A3 (Ig.grp (ax / ay)).length c3),(fun v W=>aI W 1 v),(fun v W=>aI W (ax / ay+1) v),ak (.pointer (some ⟨w1.heap.size+1,1,none⟩)),ak (.slice A2 (Ig.grp ay).length c2),ak (.slice A4 n4 c4),(fun v W=>aI W (ay-ax % ay) v)] 7 75 (by kernel_rfl) rfl rfl (by kernel_rfl) ?_ ?_ ?_
     · simp only[bV]
       and_intros <;> first|exact aF _|exact fun v w w' h hb=>h.call hb|trivial
     · simp only[Users,List.take,List.length];refine ⟨?_,?_,?_,?_,?_,?_,?_,trivial⟩;all_goals (intro vs w2 hb2 hd;have c5:=p1 w2 hb2;have hq2:=hq.call hb2;have hr2:=hr.call hb2;have hv2:=hv.call hb2;clear p1;simp only[aQ,Act.put,List.nil_append,List.cons_append,List.setIfInBounds_toArray,List.set_cons_succ,List.set_cons_zero,Nat.reduceAdd])
       · clear hd;go_wp2;exact⟨Below.refl _ _,rfl⟩
       · clear hd;have hC:=one_any w2;go_wp2_with fail;refine hC.mono ?_;clear hC;rintro _ w9 ⟨v9,rfl,rZ,aY⟩;go_wp2;exact rZ
       · have e:=hd 0 rfl;change vs 0=_ at e;have e':aI w2 1 (vs 1):=hd 1 rfl;clear hd;rw[e];have hC:=uT (ax / ay) 1 _ (vs 1) w2 hq2 e' (by omega) (by rw[vG];decide);go_wp2_with fail;refine hC.mono ?_;clear hC;rintro _ w9 ⟨v9,rfl,rZ,aY⟩;go_wp2;exact rZ
       · clear hd;go_wp2;exact⟨Below.refl _ _,rfl⟩
       · have e:=hd 3 rfl;change vs 3=_ at e;clear hd;rw[e];go_wp2;exact⟨Below.refl _ _,rfl⟩
       · clear hd;go_wp2;exact⟨Below.refl _ _,rfl⟩
       · have e:=hd 4 rfl;change vs 4=_ at e;have e':=hd 5 rfl;change vs 5=_ at e';clear hd;rw[e,e'];have hC:=rX ay (ax % ay) _ _ w2 hv2 hr2 hrle (by omega);go_wp2_with fail;refine hC.mono ?_;clear hC;rintro _ w9 ⟨v9,rfl,rZ,aY⟩;go_wp2;exact rZ
     · clear p1;intro vs wa hba hR;simp only[cZ,ak]at hR;obtain ⟨-,-,e2,-,-,-,e6,-⟩:=hR;simp only[List.drop,List.take,List.map,aQ,Act.put,List.setIfInBounds_toArray,List.set_cons_succ,List.set_cons_zero,Nat.reduceAdd];generalize vs 2=z2 at *;generalize vs 6=z6 at *;generalize vs 0=z0,vs 1=z1,vs 3=z3,vs 4=z4,vs 5=z5;obtain ⟨A7,c7,rfl,-⟩:=id e2.out;obtain ⟨A8,c8,rfl,-⟩:=id e6.out;replace B1:=B1.call hba;replace B2:=B2.call hba;have p0:=B1.cell 0 rfl;have p2:=B2.cell 0 rfl;replace hb1:=aj hb1 hba;replace hE1:=hE1.below hba;clear hba;cases ny
       · go_wp2_with fail;have hT1:=dY true (ax / ay+1) _ wa e2 (by omega) hE1;have hk1:Ig.iq (dM true (ax / ay+1))=SQ:=hk.out.1;have hk2:Ig.resE (dM true (ax / ay+1))=0:=hk.out.2.1;rw [hk1,hk2]at hT1;refine hT1.mono ?_;rintro _ w6 ⟨rfl,hb6⟩;have QL:=e6.call hb6;have Rw:=hE1.below hb6;have hb7:=aj hb1 hb6;have hT2:=dY false (ay-ax % ay) _ w6 QL (by first|omega|(rw [hn4.out];omega)) Rw;rw [hk.out.2.2.1,hk.out.2.2.2]at hT2;clear hT1 hk hk1 hk2;go_wp2_with fail;refine hT2.mono ?_;rintro _ w7 ⟨rfl,hb8⟩;clear hT2;go_wp2
         go_ret3
         exact⟨rfl,aj hb7 hb8⟩
       · go_wp2_with fail;have hT1:=dY false (ax / ay+1) _ wa e2 (by omega) hE1;have hk1:Ig.iq (dM false (ax / ay+1))=SQ:=hk.out.1;have hk2:Ig.resE (dM false (ax / ay+1))=0:=hk.out.2.1;rw [hk1,hk2]at hT1;refine hT1.mono ?_;rintro _ w6 ⟨rfl,hb6⟩;have QL:=e6.call hb6;have Rw:=hE1.below hb6;have hb7:=aj hb1 hb6;have hT2:=dY false (ay-ax % ay) _ w6 QL (by first|omega|(rw [hn4.out];omega)) Rw;rw [hk.out.2.2.1,hk.out.2.2.2]at hT2;clear hT1 hk hk1 hk2;go_wp2_with fail;refine hT2.mono ?_;rintro _ w7 ⟨rfl,hb8⟩;clear hT2;go_wp2
         go_ret3
         exact⟨rfl,aj hb7 hb8⟩
theorem rG (n:Int) (w:World) (h0: -9223372036854775808<=n) (h1:n<=9223372036854775807) (hE:Env w) :
 aW 64 #[.int .i64 n] w (.string ⟨(Lib.itoa n).toArray⟩):=by
 have hC:=IK n w h0 h1 hE
 go_enter Tryz.func64,Tryz.ntmps64
 go_wp2_with fail;refine hC.mono ?_;rintro _ w1 ⟨rfl,hb⟩;clear hC;go_wp2;go_ret;exact ⟨rfl,hb⟩
end Go.Proofs.YtelljijajgiabaaGreatDoor
namespace Rq
theorem F9 {n d:Int} (hd:d≠0) (hn:Ig.fits n) (hf:Ig.fits d):Fq (Rat.divInt n d):=by
 have key:∀ {n d:Int},0<d->Ig.fits n->Ig.fits d->Fq (Rat.divInt n d):=fun {n d} h hn hf=>by
  have h1:=mP (n:=n) h;refine ⟨?_,?_⟩
  · rw[h1.1];exact Go.Proofs.YtelljijajgiabaaGreatDoor.gJ _ hn
  · rw[h1.2];exact Go.Proofs.YtelljijajgiabaaGreatDoor.gJ _ hf
 have hneg:∀ {z:Int},Ig.fits z->Ig.fits (0-z):=fun h=>by unfold Ig.fits at *;omega
 by_cases h:0<d
 · exact key h hn hf
 · rw[zC];exact key (by omega) (hneg hn) (hneg hf)
end Rq
namespace Go.Proofs.YtelljijajgiabaaGreatDoor
open Go.RowKit Go.Shelf
def QZ:Value:=.agg #[.string ⟨#[]⟩,.string ⟨#[]⟩]
theorem uS (x y:Int) (w0 W:World) (g:Nat) (hx:Ig.fits x) (hy:Ig.fits y) (hy0:y≠0) (hE:Env w0) (h:Wk w0 W g false) :
 Calls Tryz.prog 113 #[.pointer (some ⟨g,0,none⟩),.string ⟨(Lib.itoa x).toArray⟩,.string ⟨(Lib.itoa y).toArray⟩] W fun e w'=>e=.returned (.string ⟨(Lib.itoa (x / y)).toArray⟩)/\Wk w0 w' g false/\Ks g W w':=by
 have hop:∀W',Below w0.heap.size w0 W'->aW 159 #[.string ⟨(Lib.itoa x).toArray⟩,.string ⟨(Lib.itoa y).toArray⟩] W' (.tuple #[.string ⟨(Lib.itoa (x / y)).toArray⟩,.int .i64 0]):=by
  intro W' hb;have hD:=vZ x y W' hx hy hy0 (hE.below hb);clear h hx hy;generalize Lib.itoa (x / y)=q at *;generalize Lib.itoa (x % y)=r at *;generalize Lib.itoa x=sx at *;generalize Lib.itoa y=sy at *;clear hb hE hy0
  go_enter Tryz.func159,Tryz.ntmps159
  go_wp2_with fail;refine hD.mono ?_;rintro _ w1 ⟨rfl,hb1⟩;clear hD;go_wp2
  go_ret2
  exact⟨rfl,hb1⟩
 have hD:=JW _ _ _ 0 w0 W g h hop;clear hop h hx hy hy0;generalize Lib.itoa (x / y)=q at *;generalize Lib.itoa x=sx at *;generalize Lib.itoa y=sy at *
 go_enter Tryz.func113,Tryz.ntmps113
 go_wp2_with fail;refine hD.mono ?_;rintro _ w1 ⟨rfl,hw,hk⟩;clear hD;go_wp2;go_ret;exact ⟨rfl,hw,hk⟩
theorem yL (x y:Int) (w0 W:World) (g:Nat) (hx:Ig.fits x) (hy:Ig.fits y) (hE:Env w0) (h:Wk w0 W g false) :
 Calls Tryz.prog 70 #[.pointer (some ⟨g,0,none⟩),.string ⟨(Lib.itoa x).toArray⟩,.string ⟨(Lib.itoa y).toArray⟩] W fun e w'=>e=.returned (.string ⟨(Ig.iq (x*y)).toArray⟩)/\Wk w0 w' g (Ig.resE (x*y) != 0)/\Ks g W w':=by
 have hD:=JX _ _ _ _ w0 W g h (fun W' hb=>MB x y W' hx hy (hE.below hb));clear h hx hy;generalize Ig.iq (x*y)=p at *;generalize Ig.resE (x*y)=e at *;generalize Lib.itoa x=sx at *;generalize Lib.itoa y=sy at *
 go_enter Tryz.func70,Tryz.ntmps70
 go_wp2_with fail;refine hD.mono ?_;rintro _ w1 ⟨rfl,hw,hk⟩;clear hD;go_wp2;go_ret;exact ⟨rfl,hw,hk⟩
theorem kT (x y:Int) (w0 W:World) (g:Nat) (hx:Ig.fits x) (hy:Ig.fits y) (hxy:Ig.fits (x*y)) (hE:Env w0) (h:Wk w0 W g false) :
 Calls Tryz.prog 70 #[.pointer (some ⟨g,0,none⟩),.string ⟨(Lib.itoa x).toArray⟩,.string ⟨(Lib.itoa y).toArray⟩] W fun e w'=>e=.returned (.string ⟨(Lib.itoa (x*y)).toArray⟩)/\Wk w0 w' g false/\Ks g W w':=by
 have h1:=yL x y w0 W g hx hy hE h;rw [Ig.dh hxy,Ig.dO hxy]at h1;exact h1
theorem zB (x y:Int) (w0 W:World) (g:Nat) (hx:Ig.fits x) (hy:Ig.fits y) (hxy:¬Ig.fits (x*y)) (hE:Env w0) (h:Wk w0 W g false) :
 Calls Tryz.prog 70 #[.pointer (some ⟨g,0,none⟩),.string ⟨(Lib.itoa x).toArray⟩,.string ⟨(Lib.itoa y).toArray⟩] W fun e w'=>e=.returned (.string ⟨#[]⟩)/\Wk w0 w' g true/\Ks g W w':=by
 have h1:=yL x y w0 W g hx hy hE h;rw [Ig.FZ hxy,Ig.zi hxy]at h1;exact h1
theorem aU {fn:Func} {t u:Tmp} {g:Nat} {n d:ByteArray} {e:Value} (h:fn.results=#[.cell t 51,.tmp u]) (tmps:Array Value) (w:World) (ht:tmps.getD t undef=.pointer (some ⟨g,0,none⟩)) (hu:tmps.getD u undef=e) (hB:Bx w g 51 #[.string n,.string d]) :
 (results fn tmps).run Tryz.prog w=.ok (.tuple #[.agg #[.string n,.string d],e]) w:=by
 have h0:=hB.cell 0 rfl;have h1:=hB.cell 1 rfl;have ht':tmps[t]?.getD undef=.pointer (some ⟨g,0,none⟩):=by simpa using ht
 have hu':tmps[u]?.getD undef=e:=by simpa using hu
 simp only[results,h];simp [go_sem,ht',hu',h0,h1,loadVar]
structure Rs (w0 W:World) (g gr:Nat) (bad:Bool) (n d:ByteArray):Prop where
 wk:Wk w0 W g bad
 ne:g≠gr
 ge:w0.heap.size<=gr
 bx:Bx W gr 51 #[.string n,.string d]
section
variable {w0 W W':World} {g gr:Nat} {bad:Bool} {n d:ByteArray}
theorem Rs.mk' (h:Wk w0 W g bad):Rs w0 (W.alloc (.cells #[.string n,.string d] 51)) g W.heap.size bad n d :=
 ⟨h.call (au W _),Nat.ne_of_lt h.bx.lt,h.hb.size,Bx.mk _ _ _⟩
theorem Rs.step (h:Rs w0 W g gr bad n d) {b:Bool} (hw:Wk w0 W' g b) (hk:Ks g W W'):Rs w0 W' g gr b n d:=⟨hw,h.ne,h.ge,h.bx.ks hk (fun e=>h.ne e.symm)⟩
theorem Rs.call (h:Rs w0 W g gr bad n d) (hb:Below W.heap.size W W'):Rs w0 W' g gr bad n d:=⟨h.wk.call hb,h.ne,h.ge,h.bx.call hb⟩
theorem Rs.set (h:Rs w0 W g gr bad n d) (n' d':ByteArray):Rs w0 ((W.setCell ⟨gr,0,none⟩ (.string n')).setCell ⟨gr,1,none⟩ (.string d')) g gr bad n' d':=by
 refine⟨(h.wk.far (p:=⟨gr,0,none⟩) h.ne h.ge _).far (p:=⟨gr,1,none⟩) h.ne h.ge _,h.ne,h.ge,?_⟩;have:=(h.bx.set 0 (.string n')).set 1 (.string d');simpa using this
end
theorem F8 (n d:List UInt8) (w0 W:World) (g:Nat) (h:Wk w0 W g true) :
 Calls Tryz.prog 71 #[.pointer (some ⟨g,0,none⟩),.string ⟨n.toArray⟩,.string ⟨d.toArray⟩] W fun e w'=>e=.returned (.tuple #[QZ,.int .i64 40])/\Below w0.heap.size w0 w':=by
 unfold QZ
 have h0:=Rs.mk' (n:=⟨#[]⟩) (d:=⟨#[]⟩) h;have hc:=h0.wk.cell;have f0:=h0.bx.frozen 0;have f1:=h0.bx.frozen 1;clear h
 go_enter Tryz.func71,Tryz.ntmps71
 go_wp2;refine bodyPost_ret (aU rfl _ _ rfl rfl h0.bx) rfl ⟨rfl,h0.wk.hb⟩
theorem nP {n d:Int} (hd:d≠0):((Nat.gcd n.natAbs d.natAbs:Nat):Int)≠0:=by
 intro h;have:=Nat.eq_zero_of_gcd_eq_zero_right (show Nat.gcd n.natAbs d.natAbs=0 by omega);omega
theorem F6 (n d:Int) (w0 W:World) (g:Nat) (hn:Ig.fits n) (hf:Ig.fits d) (hd:0<d) (hE:Env w0) (h:Wk w0 W g false) :
 Calls Tryz.prog 71 #[.pointer (some ⟨g,0,none⟩),.string ⟨(Lib.itoa n).toArray⟩,.string ⟨(Lib.itoa d).toArray⟩] W fun e w'=>e=.returned (.tuple #[QV (Rat.divInt n d),.int .i64 0])/\Below w0.heap.size w0 w':=by
 unfold QV
 have e:=Rq.mP (n:=n) hd;rw [e.1,e.2];have h0:=Rs.mk' (n:=⟨#[]⟩) (d:=⟨#[]⟩) h;have hc:=h0.wk.cell;have hne:(Lib.itoa d==[48])=false:=by rw[iE];exact decide_eq_false (by omega)
 have hC:=fun w1=>kZ d 0 w1 hf ji
 rw[jy]at hC;have hlt:decide (dA d 0<0)=false:=decide_eq_false (by unfold dA;rw[if_neg (by omega),if_pos (by omega)];decide);have hG:=fun w1 hw=>zY _ _ _ 0 w0 w1 g hw (fun W' hb=>Fh n d W' hn hf (hE.below hb))
 have hg:=oG hn hf;have hg0:=nP (n:=n) (d:=d) (by omega);have hQ1:=fun w1 hw=>uS n _ w0 w1 g hn hg hg0 hE hw
 have hQ2:=fun w1 hw=>uS d _ w0 w1 g hf hg hg0 hE hw
 generalize dA d 0=cc at *;generalize ((Nat.gcd n.natAbs d.natAbs:Nat):Int)=gg at *;generalize Lib.itoa (n / gg)=sn at *;generalize Lib.itoa (d / gg)=sd at *;generalize Lib.itoa gg=sg at *;generalize Lib.itoa n=sn0 at *;generalize Lib.itoa d=sd0 at *;clear e hn hf hd hg hg0 h
 go_enter Tryz.func71,Tryz.ntmps71
 go_wp2_with fail;refine (hC _).mono ?_;rintro _ w1 ⟨rfl,hb1⟩;have h1:=h0.call hb1;clear hC h0 hc hb1;go_wp2_with fail;refine (hG _ h1.wk).mono ?_;rintro _ w2 ⟨rfl,hw2,hk2⟩;have h2:=h1.step hw2 hk2;clear hG h1 hw2 hk2;go_wp2_with fail;refine (hQ1 _ h2.wk).mono ?_;rintro _ w3 ⟨rfl,hw3,hk3⟩;have h3:=h2.step hw3 hk3;clear hQ1 h2 hw3 hk3;go_wp2_with fail;refine (hQ2 _ h3.wk).mono ?_;rintro _ w4 ⟨rfl,hw4,hk4⟩;have h4:=h3.step hw4 hk4;clear hQ2 h3 hw4 hk4;have h5:=h4.call (au w4 (.cells #[.string ⟨sn.toArray⟩,.string ⟨sd.toArray⟩] 51));have B5:=Bx.mk w4 51 #[.string ⟨sn.toArray⟩,.string ⟨sd.toArray⟩];have c0:=B5.cell 0 rfl;have c1:=B5.cell 1 rfl;have hc5:=h5.wk.cell;have r0:=h5.bx.cell 0 rfl;have r1:=h5.bx.cell 1 rfl;have f0:=h5.bx.frozen 0;have f1:=h5.bx.frozen 1;have h6:=h5.set ⟨sn.toArray⟩ ⟨sd.toArray⟩;clear h4;go_wp2;refine bodyPost_ret (aU rfl _ _ rfl rfl h6.bx) rfl ⟨rfl,h6.wk.hb⟩
theorem F7 (n d:Int) (w0 W:World) (g:Nat) (hn:Ig.fits n) (hf:Ig.fits d) (hd:d<0) (hE:Env w0) (h:Wk w0 W g false) :
 Calls Tryz.prog 71 #[.pointer (some ⟨g,0,none⟩),.string ⟨(Lib.itoa n).toArray⟩,.string ⟨(Lib.itoa d).toArray⟩] W fun e w'=>e=.returned (.tuple #[QV (Rat.divInt n d),.int .i64 0])/\Below w0.heap.size w0 w':=by
 unfold QV
 have hneg:∀ {z:Int},Ig.fits z->Ig.fits (0-z):=fun h=>by unfold Ig.fits at *;omega
 have hS1:=fun w1 hw=>zX _ _ _ _ w0 w1 g hw (fun W' hb=>Md 0 n W' ji hn (hE.below hb))
 have hS2:=fun w1 hw=>zX _ _ _ _ w0 w1 g hw (fun W' hb=>Md 0 d W' ji hf (hE.below hb))
 rw[Ig.dh (hneg hn),Ig.dO (hneg hn),jy]at hS1;rw [Ig.dh (hneg hf),Ig.dO (hneg hf),jy]at hS2;have hlt:decide (dA d 0<0)=true:=decide_eq_true (by unfold dA;rw[if_pos (by omega)];decide);have hne:(Lib.itoa d==[48])=false:=by rw[iE];exact decide_eq_false (by omega)
 have hC:=fun w1=>kZ d 0 w1 hf ji
 rw[jy]at hC;generalize dA d 0=cc at *;rw [Rq.zC];replace hn:=hneg hn;replace hf:=hneg hf;clear hneg;generalize Lib.itoa n=so at *;generalize Lib.itoa d=sp at *;obtain ⟨n,rfl⟩:∃n',n=0-n':=⟨0-n,by omega⟩
 obtain⟨d,rfl⟩:∃d',d=0-d':=⟨0-d,by omega⟩
 rw[show 0-(0-n)=n by omega]at *;rw [show 0-(0-d)=d by omega]at *;replace hd:0<d:=by omega
 have e:=Rq.mP (n:=n) hd;rw [e.1,e.2];have h0:=Rs.mk' (n:=⟨#[]⟩) (d:=⟨#[]⟩) h;have hc:=h0.wk.cell;have hG:=fun w1 hw=>zY _ _ _ 0 w0 w1 g hw (fun W' hb=>Fh n d W' hn hf (hE.below hb))
 have hg:=oG hn hf;have hg0:=nP (n:=n) (d:=d) (by omega);have hQ1:=fun w1 hw=>uS n _ w0 w1 g hn hg hg0 hE hw
 have hQ2:=fun w1 hw=>uS d _ w0 w1 g hf hg hg0 hE hw
 generalize ((Nat.gcd n.natAbs d.natAbs:Nat):Int)=gg at *;generalize Lib.itoa (n / gg)=sn at *;generalize Lib.itoa (d / gg)=sd at *;generalize Lib.itoa gg=sg at *;generalize Lib.itoa n=sn0 at *;generalize Lib.itoa d=sd0 at *;clear e hn hf hd hg hg0 h
 go_enter Tryz.func71,Tryz.ntmps71
 go_wp2_with fail;refine (hC _).mono ?_;rintro _ w1 ⟨rfl,hb1⟩;have h1:=h0.call hb1;clear hC h0 hc hb1;go_wp2_with fail;refine (hS1 _ h1.wk).mono ?_;rintro _ wa ⟨rfl,IV,hka⟩;replace h1:=h1.step IV hka;clear hS1 IV hka;go_wp2_with fail;refine (hS2 _ h1.wk).mono ?_;rintro _ wb ⟨rfl,hwb,hkb⟩;replace h1:=h1.step hwb hkb;clear hS2 hwb hkb;go_wp2_with fail;refine (hG _ h1.wk).mono ?_;rintro _ w2 ⟨rfl,hw2,hk2⟩;have h2:=h1.step hw2 hk2;clear hG h1 hw2 hk2;go_wp2_with fail;refine (hQ1 _ h2.wk).mono ?_;rintro _ w3 ⟨rfl,hw3,hk3⟩;have h3:=h2.step hw3 hk3;clear hQ1 h2 hw3 hk3;go_wp2_with fail;refine (hQ2 _ h3.wk).mono ?_;rintro _ w4 ⟨rfl,hw4,hk4⟩;have h4:=h3.step hw4 hk4;clear hQ2 h3 hw4 hk4;have h5:=h4.call (au w4 (.cells #[.string ⟨sn.toArray⟩,.string ⟨sd.toArray⟩] 51));have B5:=Bx.mk w4 51 #[.string ⟨sn.toArray⟩,.string ⟨sd.toArray⟩];have c0:=B5.cell 0 rfl;have c1:=B5.cell 1 rfl;have hc5:=h5.wk.cell;have r0:=h5.bx.cell 0 rfl;have r1:=h5.bx.cell 1 rfl;have f0:=h5.bx.frozen 0;have f1:=h5.bx.frozen 1;have h6:=h5.set ⟨sn.toArray⟩ ⟨sd.toArray⟩;clear h4;go_wp2;refine bodyPost_ret (aU rfl _ _ rfl rfl h6.bx) rfl ⟨rfl,h6.wk.hb⟩
theorem o8 (n d:Int) (w0 W:World) (g:Nat) (hn:Ig.fits n) (hf:Ig.fits d) (hd:d≠0) (hE:Env w0) (h:Wk w0 W g false) :
 Calls Tryz.prog 71 #[.pointer (some ⟨g,0,none⟩),.string ⟨(Lib.itoa n).toArray⟩,.string ⟨(Lib.itoa d).toArray⟩] W fun e w'=>e=.returned (.tuple #[QV (Rat.divInt n d),.int .i64 0])/\Below w0.heap.size w0 w':=by
 by_cases h0:0<d
 · exact F6 n d w0 W g hn hf h0 hE h
 · exact F7 n d w0 W g hn hf (by omega) hE h
noncomputable def BI (l:List (List UInt8 × List UInt8)):Bool:=l.any fun p=> !Rq.okB p.1 p.2
theorem Oh {l:List (List UInt8 × List UInt8)} {i:Nat} (h:i<l.length):BI (l.take (i+1))=(BI (l.take i)|| !Rq.okB l[i].1 l[i].2):=by
 unfold BI
 rw[List.take_succ_eq_append_getElem h,List.any_append];simp
theorem check_any (l:List (List UInt8 × List UInt8)) (cap gl:Nat) (cs:Array Value) (w0 W:World) (g:Nat) (bad:Bool) (hE:Env w0) (h:Wk w0 W g bad) (hne:g≠gl) (hB:Bx W gl 51 cs)
 (hcs:∀i (hi:i<l.length),cs[i*2]? = some (.string ⟨l[i].1.toArray⟩)/\cs[i*2+1]? = some (.string ⟨l[i].2.toArray⟩)/\l[i].1.length<=1000000/\l[i].2.length<=1000000) (hl:l.length<=1000) (hlc:l.length<=cap) :
 Calls Tryz.prog 69 #[.pointer (some ⟨g,0,none⟩),.slice (some ⟨gl,0,none⟩) l.length cap] W fun e w'=>(∃v,e=.returned v)/\Wk w0 w' g (bad||BI l):=by
 go_enter Tryz.func69,Tryz.ntmps69
 go_wp2_with fail
 go_loopw [5,8] (fun s5 s8 wr=>∃(i:Nat) (b:Bool),i<=l.length/\s8=.int .i64 i/\Wk w0 wr g b/\Bx wr gl 51 cs/\Kp (b=(bad||BI (l.take i)))) (fun s5 s8 wr=>l.length-(intOf s8).toNat)
 case atStart=>exact⟨0,bad,by omega,rfl,h,hB,⟨by simp[BI]⟩⟩
 case round =>
  clear h hB;obtain ⟨i,b,hi,rfl,hW,hB,hb⟩:=hrel;by_cases hil:i<l.length
  · obtain⟨h0,h1,l0,l1⟩:=hcs i hil;have c0:wr.cell? ⟨gl,i*2,none⟩=some (.string ⟨l[i].1.toArray⟩):=hB.cell _ h0;have c1:wr.cell? ⟨gl,i*2+1,none⟩=some (.string ⟨l[i].2.toArray⟩):=hB.cell _ h1;have hst:=Kp.mk (Oh hil);have hnext:∀b',b'=(b|| !Rq.okB l[i].1 l[i].2)->Kp (b'=(bad||BI (l.take (i+1)))):=fun b' h=>⟨by rw[h,hb.out,hst.out,Bool.or_assoc]⟩
    have hV:=fun w1 hE1=>qc l[i].1 l[i].2 w1 l0 l1 hE1
    have t0:decide (i<l.length)=true:=decide_eq_true hil;clear hst hb h0 h1 hcs;generalize Rq.okB l[i].1 l[i].2=ok at *;generalize l[i].1=p at *;generalize l[i].2=q at *;have Vl:=hW.call (au wr (.cells #[.string ⟨p.toArray⟩,.string ⟨q.toArray⟩] 51));have hBn:=hB.new (.cells #[.string ⟨p.toArray⟩,.string ⟨q.toArray⟩] 51);have Bx1:=Bx.mk wr 51 #[.string ⟨p.toArray⟩,.string ⟨q.toArray⟩];have x0:=Bx1.cell 0 rfl;have x1:=Bx1.cell 1 rfl;have hc:=Vl.cell;have hf:=Vl.frozen;cases b
    · have hVn:=hV _ (hE.below Vl.hb);clear hV hW hB;go_wp2_with fail;refine hVn.mono ?_;rintro _ w3 ⟨rfl,hb3⟩;have hW3:=Vl.call hb3;have hB3:=hBn.call hb3;clear hVn Vl hBn hc hf hb3;have hc:=hW3.cell;have hf:=hW3.frozen;have OM:=hW3.set (!ok);have hB4:=hB3.far (p:=⟨g,0,none⟩) (fun e=>hne e.symm) (.bool (!ok));have hn:=hnext (!ok) (by simp);clear hW3 hB3 hnext;go_wp2;exact ⟨⟨i+1,!ok,by omega,by go_num,OM,hB4,hn⟩,by simp[intOf];omega⟩
    · have OM:=Vl.set true;have hB4:=hBn.far (p:=⟨g,0,none⟩) (fun e=>hne e.symm) (.bool true);have hn:=hnext true (by simp);clear hV hW hB Vl hBn hnext;go_wp2;exact ⟨⟨i+1,true,by omega,by go_num,OM,hB4,hn⟩,by simp[intOf];omega⟩
  · obtain rfl:i=l.length:=by omega
    have t0:decide (l.length<l.length)=false:=decide_eq_false hil;have hb2:Kp (b=(bad||BI l)):=⟨by rw[hb.out,List.take_length]⟩
    clear hb hcs;go_wp2;exact bodyPost_end (results_none rfl _ _ _) rfl ⟨⟨_,rfl⟩,hb2.out ▸ hW⟩
end Go.Proofs.YtelljijajgiabaaGreatDoor

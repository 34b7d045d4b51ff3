import Derived.Laws.IdiomCopy
import Derived.Test.YtohgjenaclfegaaGreatDoorQF03
set_option linter.unusedVariables false
set_option linter.unusedSimpArgs false
set_option maxRecDepth 100000
set_option maxHeartbeats 8000000
namespace Go.Proofs.YtohgjenaclfegaaGreatDoor
open Go.RowKit Go.Shelf
theorem LW (n:Nat) (hn:n<=10) (w:World):Calls Tryz.prog 225 #[.int .u64 1,.int .u64 n] w fun e w'=>e=.returned (.tuple #[.int .u64 0,.int .u64 n])/\w=w':=by
 rcases (show n=0∨n=1∨n=2∨n=3∨n=4∨n=5∨n=6∨n=7∨n=8∨n=9∨n=10 by omega) with rfl|rfl|rfl|rfl|rfl|rfl|rfl|rfl|rfl|rfl|rfl
 all_goals
  go_enter Tryz.func225,Tryz.ntmps225
  go_wp2
  go_ret2
  exact⟨rfl,rfl⟩
theorem P5 (n:Nat) (hn:n<=10) (w:World):Calls Tryz.prog 162 #[.int .u64 1,.int .u64 n] w fun e w'=>e=.returned (.tuple #[.int .u64 0,.int .u64 n])/\w=w':=by
 have h:=fun w0=>LW n hn w0
 go_enter Tryz.func162,Tryz.ntmps162
 go_wp2_with fail;refine (h _).mono ?_;rintro _ _ ⟨rfl,rfl⟩;go_wp2
 go_ret2
 exact⟨rfl,rfl⟩
theorem RY {P:Program} (w:World) (dT sT ty elem:TypeId) (size:Nat) (b o dLen dCap:Nat) (a:Addr) (sLen sCap:Nat) (cs:List Value)
 (hu:P.underlying dT=some (.slice elem)) (hs:(P.info? elem).map (·.size)=some size) (hn:cs.length=Nat.min sLen dLen*size)
 (hsrc:∀j v,cs[j]? = some v->w.cell? (a.add j)=some v) (hc:∀j,j<cs.length->(w.cell? ⟨b,o+j,none⟩).isSome=true) (hf:∀j,j<cs.length->w.frozen? ⟨b,o+j,none⟩=false) (h1:∀v∈cs,v.oneCell'=true) :
 (Builtin.copy_ #[dT,sT] ty #[.slice (some ⟨b,o,none⟩) dLen dCap,.slice (some a) sLen sCap]).run P w=.ok (goInt (Nat.min sLen dLen)) (w.setCells b o cs):=by
 have hl:=run_loadCells_list (P:=P) w a cs hsrc;have hst:=run_storeCells_cells (P:=P) b o cs 0 w (by simpa using hc) (by simpa using hf) h1
 cases hq:P.info? elem with
 | none=>simp[hq]at hs
 | some i =>
  have hi:i.size=size:=by simpa [hq] using hs
  rw[hn]at hl;simp [Builtin.copy_,run_underlying hu,Builtin.lenOf,Builtin.firstCells,sizeOf,typeInfo,hq,hi,hl,hst]
theorem YN:∃z:Array Value,z.size=2/\∀(n:Nat) (w:World),n<=1000->(Instr.makeSlice 192 (.int .i64 n) (.int .i64 n)).run Tryz.prog w=.ok (.slice (some ⟨w.heap.size,0,none⟩) n n) (w.alloc (.cells (madeCells z (n*2)) 77)):=by
 obtain⟨i,z,h1,h2,h3,h4,h5⟩:=U9;refine ⟨z.cells,h4,fun n w hn=>?_⟩;have h:=run_make (P:=Tryz.prog) w 192 77 i z Tryz.underlying192 h1 h2 .i64 .i64 n n (by omega) (by omega) (by rw[h5];omega) (by omega);rw [h3,Int.toNat_natCast]at h;exact h
def jJ (a b:List UInt8) (k:Nat):List Value:=(List.replicate k (a,b)).flatMap kD
theorem jI (a b:List UInt8) (k:Nat):(jJ a b k).length=k*2:=by unfold jJ;rw[jR (f:=kD) (size:=2) (fun _=>rfl)];simp
theorem Em (a b:List UInt8) (j k:Nat):jJ a b j++jJ a b k=jJ a b (j+k):=by unfold jJ;rw[←List.flatMap_append,List.replicate_append_replicate]
theorem Ag (a b:List UInt8) {j k:Nat} (h:j<=k):(jJ a b k).take (j*2)=jJ a b j:=by
 obtain⟨m,rfl⟩:=Nat.exists_eq_add_of_le h;rw [←Em,List.take_append_of_le_length (by rw[jI];exact Nat.le_refl _),List.take_of_length_le (by rw[jI];exact Nat.le_refl _)]
theorem OY (a b:List UInt8) (k:Nat):∀v∈jJ a b k,v.oneCell'=true:=by
 intro v hv
 unfold jJ at hv
 obtain⟨p,-,hp⟩:=List.mem_flatMap.1 hv;simp only[kD,List.mem_cons,List.not_mem_nil,or_false]at hp
 rcases hp with rfl|rfl <;> rfl
theorem RV (a b:List UInt8) {W:World} {g n k:Nat} {cells:Array Value} (hB:Bx W g 77 cells) (hs:cells.size=n*2) (hk:k<n) (hf:cells.toList.take (k*2)=jJ a b k) :
 ∃(W':World) (cells':Array Value),(∀ty,(Builtin.copy_ #[192,192] ty #[.slice (some ⟨g,k*2,none⟩) (n-k) (n-k),.slice (some ⟨g,0,none⟩) k n]).run Tryz.prog W=.ok (.int .i64 ((Nat.min k (n-k):Nat):Int)) W') /\
  Bx W' g 77 cells'/\cells'.size=n*2/\cells'.toList.take ((k+Nat.min k (n-k))*2)=jJ a b (k+Nat.min k (n-k))/\(∀B,B<=g->Below B W W'):=by
 have hm1:Nat.min k (n-k)<=k:=Nat.min_le_left _ _;have hm2:Nat.min k (n-k)<=n-k:=Nat.min_le_right _ _
 have hsz:(Tryz.prog.info? 77).map (·.size)=some 2:=by
  obtain⟨i,z,h1,h2,h3,h4,h5⟩:=U9;rw [h1,Option.map_some,h3]
 have hget:∀(j:Nat) (v:Value),(jJ a b (Nat.min k (n-k)))[j]? = some v->cells[j]? = some v:=fun j v hj=>by
  have hlt:=(List.getElem?_eq_some_iff.1 hj).1;rw [jI]at hlt;rw [←Ag a b hm1,←hf,List.getElem?_take,if_pos hlt,List.getElem?_take,if_pos (by omega)]at hj;simpa using hj
 have hrun:=fun ty=>RY (P:=Tryz.prog) W 192 192 ty 77 2 g (k*2) (n-k) (n-k) ⟨g,0,none⟩ k n (jJ a b (Nat.min k (n-k))) Tryz.underlying192 hsz (jI a b _) (fun j v hj=>by
  rw[Addr.add_lit,Nat.zero_add]
  exact hB.cell j (hget j v hj)) (fun j hj=>by
   rw[jI]at hj
   rw[hB.cell (k*2+j) (v:=cells[k*2+j]'(by omega)) (by simp)];rfl) (fun j hj=>hB.frozen _) (OY a b _)
 obtain⟨cells',h1,h2,h3⟩:=hB.setCells (jJ a b (Nat.min k (n-k))) (k*2) W cells (by rw[jI];omega);refine ⟨_,cells',hrun,h1,by rw[h2,hs],?_,fun B hBg=>?_⟩
 · rw[jI,hf,Em]at h3;rw [Nat.add_mul];exact h3
 · have:∀(vs:List Value) (o:Nat) (w':World),Below B W w'->Below B W (w'.setCells g o vs):=by
    intro vs
    induction vs with
    | nil=>intro o w' h;exact h
    | cons a l ih=>intro o w' h;exact ih _ _ (h.setCell hBg _)
   exact this _ _ _ (Below.refl _ _)
theorem aak (a b:List UInt8) {W:World} {g n:Nat} {cells:Array Value} (hB:Bx W g 77 cells) (hs:cells.size=n*2) (hf:cells.toList.take (n*2)=jJ a b n):At 2 kD W W.heap.size (some ⟨g,0,none⟩) (List.replicate n (a,b)):=fun _ =>
 ⟨g,0,rfl,hB.lt,fun i c hi j u hj=>by
  have hj2:j<2:=(List.getElem?_eq_some_iff.1 hj).1;have hfl:=flat_get (f:=kD) (size:=2) (fun _=>rfl) (List.replicate n (a,b)) i j c hi hj2;have hil:=(List.getElem?_eq_some_iff.1 hi).1;rw [List.length_replicate]at hil;rw [Nat.zero_add];refine hB.cell _ ?_
  have e:cells[i*2+j]? = (cells.toList.take (n*2))[i*2+j]? := by
   rw[List.getElem?_take,if_pos (by omega)];simp
  rw[e,hf,show jJ a b n=(List.replicate n (a,b)).flatMap kD from rfl,hfl,hj]⟩
def KR (B g n q:Nat) (a b:List UInt8) (w w':World):Prop:=Below B w w'/\w.heap.size<=w'.heap.size/\∀c,Bx w g 77 c->c.size=n*2->∃c',Bx w' g 77 c'/\c'.size=n*2/\∀p,p<=q->c.toList.take (p*2)=jJ a b p->c'.toList.take (p*2)=jJ a b p
theorem bT (B g n q:Nat) (a b:List UInt8):RS.Cls (KR B g n q a b) :=
 ⟨fun w=>⟨Below.refl _ _,Nat.le_refl _,fun c h hs=>⟨c,h,hs,fun p _ h=>h⟩⟩,
  fun h1 h2=>⟨h1.1.trans h2.1,Nat.le_trans h1.2.1 h2.2.1,fun c h hs=>by
   obtain⟨c1,a1,a2,a3⟩:=h1.2.2 c h hs;obtain ⟨c2,b1,b2,b3⟩:=h2.2.2 c1 a1 a2
   exact⟨c2,b1,b2,fun p hp h=>b3 p hp (a3 p hp h)⟩⟩,
  fun w n'=>⟨⟨rfl,rfl,rfl,Nat.le_refl _,fun _ _=>rfl⟩,Nat.le_refl _,fun c h hs=>⟨c,h,hs,fun p _ h=>h⟩⟩⟩
def CoR (g n q m:Nat) (a b:List UInt8):RS.Rl:=fun _ v w=>v=.int .i64 m/\∃c,Bx w g 77 c/\c.size=n*2/\c.toList.take (q*2)=jJ a b q
theorem UR (B g n q m:Nat) (a b:List UInt8):RS.dG (KR B g n q a b) (CoR g n q m a b):=fun x v w w' ⟨e,c,h1,h2,h3⟩ h=>by
 obtain⟨c',a1,a2,a3⟩:=h.2.2 c h1 h2;exact ⟨e,c',a1,a2,a3 q (Nat.le_refl _) h3⟩
theorem G7 (a b:List UInt8) (n cap:Nat) (A:Option Addr) (w:World) (h1:1<=n) (h10:n<=10) (hc:1<=cap) (hA:At 2 kD w w.heap.size A [(a,b)]) :
 Calls Tryz.prog 101 #[.slice A 1 cap,.int .i64 n] w fun e w'=>(∃A',e=.returned (.slice A' n n)/\At 2 kD w' w'.heap.size A' (List.replicate n (a,b)))/\Below w.heap.size w w':=by
 obtain⟨q,off,rfl,hq,hcell⟩:=hA (by simp);have c0:=hcell 0 _ rfl 0 _ rfl;have c1:=hcell 0 _ rfl 1 _ rfl;simp only[Nat.zero_mul,Nat.add_zero]at c0 c1;have hM:=fun w0=>P5 n h10 w0
 obtain⟨z,hz,hmk'⟩:=YN;have hmk:=hmk' n w (by omega);have B:=Bx.mk w 77 (madeCells z (n*2));have hb:=aA w (.cells (madeCells z (n*2)) 77);have hcs:=size_madeCells z (n*2);generalize madeCells z (n*2)=cs0 at *
 have hsz:(Tryz.prog.info? 77).map (·.size)=some 2:=by
  obtain⟨i,z,h1,h2,h3,h4,h5⟩:=U9;rw [h1,Option.map_some,h3]
 have hcp:∀ty,(Builtin.copy_ #[192,192] ty #[.slice (some ⟨w.heap.size,0,none⟩) n n,.slice (some ⟨q,off,none⟩) 1 cap]).run Tryz.prog (w.alloc (.cells cs0 77))=.ok (.int .i64 1) (((w.alloc (.cells cs0 77)).setCell ⟨w.heap.size,0,none⟩ (.string ⟨a.toArray⟩)).setCell ⟨w.heap.size,1,none⟩ (.string ⟨b.toArray⟩)):=fun ty=>by
  have h:=RY (P:=Tryz.prog) (w.alloc (.cells cs0 77)) 192 192 ty 77 2 w.heap.size 0 n n ⟨q,off,none⟩ 1 cap [.string ⟨a.toArray⟩,.string ⟨b.toArray⟩] Tryz.underlying192 hsz (by rw[show Nat.min 1 n=1 from Nat.min_eq_left h1];rfl) (fun j v hj=>by
   rw[Addr.add_lit]
   match j,hj with
   | 0,hj=>cases hj;exact (hb.cell (p:=⟨q,off,none⟩) hq).trans c0
   | 1,hj=>cases hj;exact (hb.cell (p:=⟨q,off+1,none⟩) hq).trans c1) (fun j hj=>by
    have hj2:j<2:=hj
    rw[B.cell (0+j) (v:=cs0[0+j]'(by omega)) (by simp)];rfl) (fun j hj=>B.frozen _) (by intro v hv;simp only[List.mem_cons,List.not_mem_nil,or_false]at hv;rcases hv with rfl|rfl <;> rfl)
  rw[show Nat.min 1 n=1 from Nat.min_eq_left h1]at h;exact h
 have hf1:((cs0.setIfInBounds 0 (.string ⟨a.toArray⟩)).setIfInBounds 1 (.string ⟨b.toArray⟩)).toList.take (1*2)=jJ a b 1:=by
  obtain⟨L,rfl⟩:∃L:List Value,cs0=L.toArray:=⟨cs0.toList,by simp⟩
  match L,hcs with
  | [],h=>simp at h;omega
  | [_],h=>simp at h;omega
  | x :: y :: r,_=>simp[jJ,kD]
 have hs1:((cs0.setIfInBounds 0 (.string ⟨a.toArray⟩)).setIfInBounds 1 (.string ⟨b.toArray⟩)).size=n*2:=by simpa using hcs
 clear hA hcell c0 c1 hsz B hb hmk'
 go_enter Tryz.func101,Tryz.ntmps101
 go_wp2_with fail;refine (hM _).mono ?_;rintro _ _ ⟨rfl,rfl⟩;have t9:decide ((9223372036854775807:Int)<(n:Int))=false:=by simp <;> omega
 go_wp2_with fail;clear hcp hM hmk;generalize (cs0.setIfInBounds 0 (.string ⟨a.toArray⟩)).setIfInBounds 1 (.string ⟨b.toArray⟩)=cs1 at *;have B1:=Bx.mk w 77 cs1;have hb1:=aA w (.cells cs1 77)
 go_loopw [8] (fun s8 wr=>∃(k:Nat) (cells:Array Value),s8=.int .i64 k/\1<=k/\k<=n/\cells.size=n*2/\Kp (cells.toList.take (k*2)=jJ a b k)/\Bx wr w.heap.size 77 cells/\Below w.heap.size w wr) (fun s8 _=>n-(intOf s8).toNat)
 case atStart=>exact⟨1,cs1,rfl,Nat.le_refl _,h1,hs1,⟨hf1⟩,B1,hb1⟩
 case round =>
  clear B1 hb1 hf1 hs1;obtain ⟨k,cells,rfl,hk1,hkn,hs,hf,B,hb⟩:=hrel;by_cases hlt:k<n
  · go_wp2_with fail;obtain ⟨m,hm⟩:∃m,m=Nat.min k (n-k):=⟨_,rfl⟩
    have hm1:m<=k:=by rw[hm];exact Nat.min_le_left _ _
    have hm2:m<=n-k:=by rw[hm];exact Nat.min_le_right _ _
    have hm3:0<m:=by
     rcases Nat.le_total k (n-k) with h|h
     · rw[hm,show Nat.min k (n-k)=k from Nat.min_eq_left h];omega
     · rw[hm,show Nat.min k (n-k)=n-k from Nat.min_eq_right h];omega
    refine RS.au (bT w.heap.size w.heap.size n (k+m) a b) [] [RS.ak (.int .i64 k),RS.ak (.slice (some ⟨w.heap.size,0,none⟩) n n),RS.ak (.int .i64 k),RS.ak (.slice (some ⟨w.heap.size,k*2,none⟩) (n-k) (n-k)),RS.ak (.slice (some ⟨w.heap.size,0,none⟩) n n),RS.ak (.int .i64 k),RS.ak (.slice (some ⟨w.heap.size,0,none⟩) k n),CoR w.heap.size n (k+m) m a b,RS.ak (.int .i64 ((k+m:Nat):Int))] 9 48 (by kernel_rfl) rfl rfl (by kernel_rfl) (by kernel_rfl) ?_ ?_ ?_
    · simp only[RS.aY]
      and_intros <;> first|exact RS.aB _|exact UR _ _ _ _ _ _ _|trivial
    · simp only[RS.aS,List.take,List.length];refine ⟨?_,?_,?_,?_,?_,?_,?_,?_,?_,trivial⟩;all_goals (intro vs w2 hb2 hd;simp only[RS.aJ,Act.put,List.nil_append,List.cons_append,List.setIfInBounds_toArray,List.set_cons_succ,List.set_cons_zero,Nat.reduceAdd])
      · clear hd hf B hm;go_wp2;first|exact⟨(bT _ _ _ _ _ _).refl _,rfl⟩|exact⟨(bT _ _ _ _ _ _).refl _,by simp[RS.ak]⟩|exact (bT _ _ _ _ _ _).refl _|(simp [RS.ak])|exact⟨(bT _ _ _ _ _ _).refl _,by simp[RS.ak] <;> omega⟩
      · clear hd hf B hm;go_wp2;first|exact⟨(bT _ _ _ _ _ _).refl _,rfl⟩|exact⟨(bT _ _ _ _ _ _).refl _,by simp[RS.ak]⟩|exact (bT _ _ _ _ _ _).refl _|(simp [RS.ak])|exact⟨(bT _ _ _ _ _ _).refl _,by simp[RS.ak] <;> omega⟩
      · clear hd hf B hm;go_wp2;first|exact⟨(bT _ _ _ _ _ _).refl _,rfl⟩|exact⟨(bT _ _ _ _ _ _).refl _,by simp[RS.ak]⟩|exact (bT _ _ _ _ _ _).refl _|(simp [RS.ak])|exact⟨(bT _ _ _ _ _ _).refl _,by simp[RS.ak] <;> omega⟩
      · have e0:vs 1=_:=hd 1 rfl;have e1:vs 2=_:=hd 2 rfl;clear hd hf B hm;rw[e0,e1];go_wp2;first|exact⟨(bT _ _ _ _ _ _).refl _,rfl⟩|exact⟨(bT _ _ _ _ _ _).refl _,by simp[RS.ak]⟩|exact (bT _ _ _ _ _ _).refl _|(simp [RS.ak])|exact⟨(bT _ _ _ _ _ _).refl _,by simp[RS.ak] <;> omega⟩
      · clear hd hf B hm;go_wp2;first|exact⟨(bT _ _ _ _ _ _).refl _,rfl⟩|exact⟨(bT _ _ _ _ _ _).refl _,by simp[RS.ak]⟩|exact (bT _ _ _ _ _ _).refl _|(simp [RS.ak])|exact⟨(bT _ _ _ _ _ _).refl _,by simp[RS.ak] <;> omega⟩
      · clear hd hf B hm;go_wp2;first|exact⟨(bT _ _ _ _ _ _).refl _,rfl⟩|exact⟨(bT _ _ _ _ _ _).refl _,by simp[RS.ak]⟩|exact (bT _ _ _ _ _ _).refl _|(simp [RS.ak])|exact⟨(bT _ _ _ _ _ _).refl _,by simp[RS.ak] <;> omega⟩
      · have e0:vs 4=_:=hd 4 rfl;have e1:vs 5=_:=hd 5 rfl;clear hd hf B hm;rw[e0,e1];go_wp2;first|exact⟨(bT _ _ _ _ _ _).refl _,rfl⟩|exact⟨(bT _ _ _ _ _ _).refl _,by simp[RS.ak]⟩|exact (bT _ _ _ _ _ _).refl _|(simp [RS.ak])|exact⟨(bT _ _ _ _ _ _).refl _,by simp[RS.ak] <;> omega⟩
      · have e0:vs 3=_:=hd 3 rfl;have e1:vs 6=_:=hd 6 rfl;obtain ⟨c2,hB2,hs2,hp2⟩:=hb2.2.2 cells B hs;have hf2:=hp2 k (by omega) hf.out;obtain ⟨W3,cells3,hrun,B3,hs3,hf3,hbl⟩:=RV a b hB2 hs2 hlt hf2;rw [←hm]at hrun hf3;have hK:KR w.heap.size w.heap.size n (k+m) a b w2 W3:=⟨hbl _ (Nat.le_refl _),(hbl 0 (Nat.zero_le _)).size,fun c hc hcs=>⟨cells3,B3,hs3,fun p hp _=>by rw[←Ag a b hp,←hf3,List.take_take,Nat.min_eq_left (by omega)]⟩⟩
        have hR:CoR w.heap.size n (k+m) m a b undef (.int .i64 m) W3:=⟨rfl,cells3,B3,hs3,hf3⟩
        clear hd hf B hp2 hf2 hB2 hs2 B3 hs3 hf3 hbl hb2 hm;rw [e0,e1];go_wp2;first|exact⟨hK,hR⟩|exact hR
      · have e0:vs 0=_:=hd 0 rfl;have e1:=hd 7 rfl;replace e1:vs 7=_:=e1.1;clear hd hf B hm;rw[e0,e1];go_wp2;first|exact⟨(bT _ _ _ _ _ _).refl _,rfl⟩|exact⟨(bT _ _ _ _ _ _).refl _,by simp[RS.ak]⟩|exact (bT _ _ _ _ _ _).refl _|(simp [RS.ak])|exact⟨(bT _ _ _ _ _ _).refl _,by simp[RS.ak] <;> omega⟩
    · intro vs wa hba hR2;simp only[RS.bP,RS.ak]at hR2;obtain ⟨e0,e1,e2,e3,e4,e5,e6,⟨e7,cells3,B3,hs3,hf3⟩,e8,-⟩:=hR2;simp only[List.drop,List.take,List.map,RS.aJ,Act.put,List.setIfInBounds_toArray,List.set_cons_succ,List.set_cons_zero,Nat.reduceAdd];rw [e0,e1,e2,e3,e4,e5,e6,e7,e8];have hb3:=hb.trans hba.1;replace hf3:=Kp.mk hf3;clear e0 e1 e2 e3 e4 e5 e6 e7 e8 hba B hb hf hm;go_wp2;exact ⟨⟨k+m,cells3,rfl,by omega,by omega,hs3,hf3,B3,hb3⟩,by simp[intOf] <;> omega⟩
  · obtain rfl:k=n:=by omega
    have hat:=aak a b B hs hf.out;go_wp2;go_ret;exact ⟨⟨_,rfl,hat⟩,hb⟩
theorem Xn (q:Rat):LQ q (kJ q).1 (kJ q).2:=⟨rfl,rfl⟩
theorem P7 {qs:List Rat} {k:Nat} (hk:k<qs.length) (h1:1<=k):Tf.jd (qs.take (k+1))=if qs[k]<Tf.jd (qs.take k) then qs[k] else Tf.jd (qs.take k):=by
 rw[List.take_add_one,List.getElem?_eq_getElem hk,Option.toList_some,Tf.LY];intro h;have:=congrArg List.length h;rw [List.length_take,List.length_nil]at this;omega
theorem YM {qs:List Rat} (h:∀q∈qs,Rq.Fq q) {k:Nat} (h1:1<=k) (hk:k<=qs.length):Rq.Fq (Tf.jd (qs.take k)):=by
 have hne:qs.take k≠[]:=fun h=>by
  have:=congrArg List.length h;rw [List.length_take,List.length_nil]at this;omega
 exact h _ (List.mem_of_mem_take (Tf.JD hne).1)
theorem EH (qs:List Rat) (A:Option Addr) (cap:Nat) (ra rb:List UInt8) (w:World) (hA:At 2 kD w w.heap.size A (qs.map kJ)) (hn:qs.length<=cap) (h1:1<=qs.length) (hl:qs.length<=1000) (hq:∀q∈qs,Rq.Fq q) (lr:LQ (Tf.jd qs) ra rb) (hE:Env w) :
 aT 163 #[.slice A qs.length cap,.func (.func 103) #[] #[]] w (.agg #[.string ⟨ra.toArray⟩,.string ⟨rb.toArray⟩]):=by
 obtain⟨b,off,rfl,hbB,hcell⟩:=hA (by rw[List.length_map];omega)
 have jm:Kp (∀(i:Nat) (hi:i<qs.length),w.cell? ⟨b,off+i*2,none⟩=some (.string ⟨(kJ qs[i]).1.toArray⟩)/\w.cell? ⟨b,off+i*2+1,none⟩=some (.string ⟨(kJ qs[i]).2.toArray⟩)):=⟨fun i hi=>by
  have hg:(qs.map kJ)[i]? = some (kJ qs[i]):=by rw[List.getElem?_map,List.getElem?_eq_getElem hi];rfl
  exact⟨hcell i _ hg 0 _ rfl,hcell i _ hg 1 _ rfl⟩⟩
 clear hcell hA;obtain ⟨z0,z1⟩:=jm.out 0 (by omega)
 have hq0:LQ (Tf.jd (qs.take 1)) (kJ qs[0]).1 (kJ qs[0]).2:=by
  rw[List.take_one];rw [List.head?_eq_getElem?,List.getElem?_eq_getElem (by omega)];exact Xn _
 have hbq:=aA w (.cells #[.string ⟨#[]⟩,.string ⟨#[]⟩] 77);have x0:=(hbq.cell (p:=⟨b,off+0*2,none⟩) hbB).trans z0;have x1:=(hbq.cell (p:=⟨b,off+0*2+1,none⟩) hbB).trans z1;simp only[Nat.zero_mul,Nat.add_zero]at x0 x1;generalize (kJ qs[0]).1=a0 at *;generalize (kJ qs[0]).2=b0 at *;have Q:=(Bx.mk w 77 #[.string ⟨#[]⟩,.string ⟨#[]⟩]).new (.cells #[.string ⟨a0.toArray⟩,.string ⟨b0.toArray⟩] 77);have M:=Bx.mk (w.alloc (.cells #[.string ⟨#[]⟩,.string ⟨#[]⟩] 77)) 77 #[.string ⟨a0.toArray⟩,.string ⟨b0.toArray⟩];rw [aj]at M;have hb:=bNew hbq (.cells #[.string ⟨a0.toArray⟩,.string ⟨b0.toArray⟩] 77);clear hbq z0 z1
 go_enter Tryz.func163,Tryz.ntmps163
 go_wp2_with fail;clear x0 x1
 go_loopw [6] (fun s6 wr=>∃(k:Nat) (ma mb:List UInt8),s6=.int .i64 k/\1<=k/\k<=qs.length/\LQ (Tf.jd (qs.take k)) ma mb/\Bx wr (w.heap.size+1) 77 #[.string ⟨ma.toArray⟩,.string ⟨mb.toArray⟩]/\Bx wr w.heap.size 77 #[.string ⟨#[]⟩,.string ⟨#[]⟩]/\Below w.heap.size w wr) (fun s6 _=>qs.length-(intOf s6).toNat)
 case atStart=>exact⟨1,a0,b0,rfl,Nat.le_refl _,h1,hq0,M,Q,hb⟩
 case round =>
  clear M Q hb hq0;obtain ⟨k,ma,mb,rfl,hk1,hkn,lm,M,Q,hb⟩:=hrel;by_cases hlt:k<qs.length
  · obtain⟨z0,z1⟩:=jm.out k hlt;have y0:=fun d os=>((dY hb d os).cell (p:=⟨b,off+k*2,none⟩) hbB).trans z0
    have y1:=fun d os=>((dY hb d os).cell (p:=⟨b,off+k*2+1,none⟩) hbB).trans z1
    have m0:=fun d os=>(M.again d os).cell 0 rfl
    have m1:=fun d os=>(M.again d os).cell 1 rfl
    have lk:=Xn qs[k];obtain ⟨c,hc⟩:=AZ (Rq.kV qs[k] (Tf.jd (qs.take k)));have kC:=fun d os=>jZ (Sort.grow (redrawn wr d) os) lk lm (hq _ (List.getElem_mem hlt)) (YM hq hk1 hkn) (hE.below (dY hb d os)) hc
    have hst:=P7 hlt hk1
    have kP:(decide (c<0)=true/\LQ (Tf.jd (qs.take (k+1))) (kJ qs[k]).1 (kJ qs[k]).2)∨(decide (c<0)=false/\LQ (Tf.jd (qs.take (k+1))) ma mb):=by
     rw[hst,←hc.out]
     rcases Rq.jC qs[k] (Tf.jd (qs.take k)) with ⟨x,h⟩|⟨x,h⟩|⟨x,h⟩
     · left;rw[if_pos h,x];exact⟨rfl,lk⟩
     · right;rw[if_neg (by rw[h];exact Rat.lt_irrefl),x];exact⟨rfl,lm⟩
     · right;rw[if_neg (by grind),x];exact⟨rfl,lm⟩
    clear hst hc lk lm jm;generalize (kJ qs[k]).1=pa at *;generalize (kJ qs[k]).2=pb at *
    rcases kP with ⟨t1,hnx⟩|⟨t1,hnx⟩
    · go_wp2_with fail;refine wp_region_quiet_below (by kernel_rfl) (by kernel_rfl) ?_
      repeat (go_big_quiet_step (first|(go_at_call 103;with_reducible exact Calls.regrown_of (kC _ _))))
      refine wpQuiet_nil ?_;rintro _ ⟨z,rfl⟩;have hbz:=below_regrown wr z.d z.os;replace M:=M.call hbz;replace Q:=Q.call hbz;replace hb:=ah hb hbz;have q0:=(hb.cell (p:=⟨b,off+k*2,none⟩) hbB).trans z0;have q1:=(hb.cell (p:=⟨b,off+k*2+1,none⟩) hbB).trans z1;clear kC y0 y1 m0 m1 hbz z0 z1;generalize Sort.grow (redrawn wr z.d) z.os=W2 at *;have m0:=M.cell 0 rfl;have m1:=M.cell 1 rfl;have f0:=M.frozen 0;have f1:=M.frozen 1;have M4:=(M.set 0 (.string ⟨pa.toArray⟩)).set 1 (.string ⟨pb.toArray⟩);have Q4:=(Q.far (p:=⟨w.heap.size+1,0,none⟩) (by show w.heap.size≠w.heap.size+1;omega) (.string ⟨pa.toArray⟩)).far (p:=⟨w.heap.size+1,1,none⟩) (by show w.heap.size≠w.heap.size+1;omega) (.string ⟨pb.toArray⟩);have hb4:=aK (aK hb (p:=⟨w.heap.size+1,0,none⟩) (Nat.le_succ _) (.string ⟨pa.toArray⟩)) (p:=⟨w.heap.size+1,1,none⟩) (Nat.le_succ _) (.string ⟨pb.toArray⟩);clear M Q hb;go_wp2;exact ⟨⟨k+1,pa,pb,by go_num,by omega,by omega,hnx,M4,Q4,hb4⟩,by simp[intOf] <;> omega⟩
    · go_wp2_with fail;refine wp_region_quiet_below (by kernel_rfl) (by kernel_rfl) ?_
      repeat (go_big_quiet_step (first|(go_at_call 103;with_reducible exact Calls.regrown_of (kC _ _))))
      refine wpQuiet_nil ?_;rintro _ ⟨z,rfl⟩;have hbz:=below_regrown wr z.d z.os;replace M:=M.call hbz;replace Q:=Q.call hbz;replace hb:=ah hb hbz;clear kC y0 y1 m0 m1 hbz z0 z1;go_wp2;exact ⟨⟨k+1,ma,mb,by go_num,by omega,by omega,hnx,M,Q,hb⟩,by simp[intOf] <;> omega⟩
  · obtain rfl:k=qs.length:=by omega
    rw[List.take_length]at lm;obtain ⟨rfl,rfl⟩:=lm.same lr;have m0:=M.cell 0 rfl;have m1:=M.cell 1 rfl;have q0:=Q.cell 0 rfl;have q1:=Q.cell 1 rfl;have f0:=Q.frozen 0;have f1:=Q.frozen 1;clear jm lm lr hq;go_wp2;exact bodyPost_ret (dW rfl _ _ rfl ((Q.set 0 (.string ⟨ma.toArray⟩)).set 1 (.string ⟨mb.toArray⟩))) rfl ⟨rfl,aK (aK hb (p:=⟨w.heap.size,0,none⟩) (Nat.le_refl _) _) (p:=⟨w.heap.size,1,none⟩) (Nat.le_refl _) _⟩
theorem Io (qs:List Rat) (A:Option Addr) (cap:Nat) (ra rb:List UInt8) (w:World) (hA:At 2 kD w w.heap.size A (qs.map kJ)) (hn:qs.length<=cap) (h1:1<=qs.length) (hl:qs.length<=1000) (hq:∀q∈qs,Rq.Fq q) (lr:LQ (Tf.jd qs) ra rb) (hE:Env w) :
 aT 102 #[.slice A qs.length cap,.func (.func 103) #[] #[]] w (.agg #[.string ⟨ra.toArray⟩,.string ⟨rb.toArray⟩]):=by
 have hb:=aA w (.cells #[.string ⟨#[]⟩,.string ⟨#[]⟩] 77);have Q:=Bx.mk w 77 #[.string ⟨#[]⟩,.string ⟨#[]⟩];have hM:=EH qs A cap ra rb _ (hA.call hb) hn h1 hl hq lr (hE.below hb);clear hA hE hq lr
 go_enter Tryz.func102,Tryz.ntmps102
 go_wp2_with fail;refine hM.mono ?_;rintro _ w1 ⟨rfl,hb1⟩;clear hM;replace Q:=Q.call hb1;replace hb:=ah hb hb1;have q0:=Q.cell 0 rfl;have q1:=Q.cell 1 rfl;have f0:=Q.frozen 0;have f1:=Q.frozen 1;go_wp2;exact bodyPost_ret (dW rfl _ _ rfl ((Q.set 0 (.string ⟨ra.toArray⟩)).set 1 (.string ⟨rb.toArray⟩))) rfl ⟨rfl,aK (aK hb (p:=⟨w.heap.size,0,none⟩) (Nat.le_refl _) _) (p:=⟨w.heap.size,1,none⟩) (Nat.le_refl _) _⟩
def suV (m:pY):Value:=.agg #[.int .i64 m.s.kind,.int .i64 m.s.n,.int .i64 m.s.c,.int .i64 m.s.e,.int .i64 m.s.iP,.int .i64 m.s.count,.slice m.A m.s.times.length m.cap,.int .i64 m.s.width,.int .i64 m.s.things,.int .i64 m.s.marked]
def BdP (f:FuncId) (m:pY) (o:Option Rat):Prop:=UnO o/\∀(W:World) (ra rb:List UInt8) (code:Int),qh W W.heap.size m->Env W->OB o ra rb code->aT f #[suV m] W (.tuple #[.agg #[.string ⟨ra.toArray⟩,.string ⟨rb.toArray⟩],.int .i64 code])
theorem TG {W:World} {g:Nat} {a b:List UInt8} (hB:Bx W g 77 #[.string ⟨a.toArray⟩,.string ⟨b.toArray⟩]):At 2 kD W W.heap.size (some ⟨g,0,none⟩) [(a,b)]:=fun _ =>
 ⟨g,0,rfl,hB.lt,fun i c hi j u hj=>by
  match i,hi with
  | 0,hi =>
   cases hi
   match j,hj with
   | 0,hj=>cases hj;exact hB.cell 0 rfl
   | 1,hj=>cases hj;exact hB.cell 1 rfl⟩
theorem Na {m r:Rat} {ra rb xa xb:List UInt8} {n:Nat} (A:Option Addr) (w:World) (lm:LQ m ra rb) (hA:At 2 kD w w.heap.size A (List.replicate n (ra,rb))) (hl:n<=20) (hm:Un m) (hc:comb (List.replicate n m)=some r) (lr:LQ (Ar r) xa xb) (hE:Env w) :
 aT 100 #[.slice A n n] w (.tuple #[.agg #[.string ⟨xa.toArray⟩,.string ⟨xb.toArray⟩],.int .i64 0]):=by
 have htx:kJ m=(ra,rb):=by unfold kJ;rw[lm.out.1,lm.out.2]
 have h:=DL (List.replicate n m) A n r xa xb w (by rw[List.map_replicate,htx];exact hA) (by simp) (by simpa using hl) (fun q hq=>by rw[(List.mem_replicate.1 hq).2];exact hm) ⟨hc⟩ lr hE
 rwa [List.length_replicate]at h
theorem Dn {m:Rat} {ra rb:List UInt8} {n:Nat} (A:Option Addr) (w:World) (lm:LQ m ra rb) (hA:At 2 kD w w.heap.size A (List.replicate n (ra,rb))) (hl:n<=20) (hm:Un m) (hc:comb (List.replicate n m)=none) (hE:Env w) :
 aT 100 #[.slice A n n] w (.tuple #[.agg #[.string ⟨#[]⟩,.string ⟨#[]⟩],.int .i64 350]):=by
 have htx:kJ m=(ra,rb):=by unfold kJ;rw[lm.out.1,lm.out.2]
 have h:=DK (List.replicate n m) A n w (by rw[List.map_replicate,htx];exact hA) (by simp) (by simpa using hl) (fun q hq=>by rw[(List.mem_replicate.1 hq).2];exact hm) ⟨hc⟩ hE
 rwa [List.length_replicate]at h
theorem ru (ms:List pY) (os:List (Option Rat)) (A:Option Addr) (cap:Nat) (w:World) (hlen:os.length=ms.length) (hB:∀(i:Nat) (h:i<ms.length),BdP 16 ms[i] (os[i]'(by omega))) (hA:At 10 GH w w.heap.size A ms) (hS:∀m∈ms,qh w w.heap.size m) (hn:ms.length<=cap) (hl:ms.length<=9223372036854775807) (hE:Env w) (h:Tp.within (ms.length:Int) 1 10=true) (qs:List Rat) (hos:os=qs.map some) (xa xb:List UInt8) (tc fc:Int) (hw2:Kp ((∃r,comb (List.replicate ms.length (Tf.jd qs))=some r/\LQ (Ar r) xa xb/\tc=0/\fc=0)∨(comb (List.replicate ms.length (Tf.jd qs))=none/\xa=[]/\xb=[]/\tc=350/\fc=360))) :
 aT 60 #[.slice A ms.length cap] w (.tuple #[.agg #[.string ⟨xa.toArray⟩,.string ⟨xb.toArray⟩],.int .i64 fc]):=by
 have hql:qs.length=ms.length:=by rw[←hlen,hos,List.length_map]
 have hl1:1<=ms.length:=by have:=(Tp.within_iff.1 h).1;omega
 have hl10:ms.length<=10:=by have:=(Tp.within_iff.1 h).2;omega
 have hun:∀q∈qs,Un q:=fun q hq=>by
  obtain⟨i,hi,rfl⟩:=List.getElem_of_mem hq;refine (hB i (by omega)).1 _ ?_;simp only[hos,List.getElem_map]
 obtain⟨la,lb,lm⟩:=LQ.ex (Tf.jd qs);have hmu:Un (Tf.jd qs):=hun _ (Tf.JD (fun e=>by rw[e]at hql;simp at hql;omega)).1;have hb:=aA w (.cells #[.string ⟨#[]⟩,.string ⟨#[]⟩] 77);have Q:=Bx.mk w 77 #[.string ⟨#[]⟩,.string ⟨#[]⟩];have hW:=fun w0=>aO (bW (ms.length:Int) 1 10 w0)
 rw[h]at hW;obtain ⟨ti,tz,hi,hzz,hs1,hz1,hby⟩:=U9
 go_enter Tryz.func60,Tryz.ntmps60
 go_wp2_with fail;refine (hW _).mono ?_;rintro _ w1 ⟨rfl,hb1⟩;replace Q:=Q.call hb1;replace hb:=ah hb hb1;clear hb1 hW;go_wp2_with fail
 go_loopw [4,18] (fun s4 Yw wr=>∃k:Nat,k<=ms.length/\Yw=.int .i64 k/\aI 77 2 (w.heap.size+1) k ((qs.take k).flatMap vU) s4 wr/\Bx wr w.heap.size 77 #[.string ⟨#[]⟩,.string ⟨#[]⟩]/\Below w.heap.size w wr) (fun _ Yw _=>ms.length-(intOf Yw).toNat)
 case atStart=>exact⟨0,Nat.zero_le _,rfl,.inl ⟨rfl,rfl,rfl⟩,Q,hb⟩
 case round =>
  clear Q hb;obtain ⟨k,hk,rfl,hrow,Q,hb⟩:=hrel;by_cases hlt:k<ms.length
  · have hkq:k<qs.length:=by omega
    obtain⟨b,off,rfl,hbB,hcell⟩:=hA (by omega);have hck:ms[k]? = some ms[k]:=List.getElem?_eq_getElem hlt;have hcl:=fun (j:Nat) u (hj:(GH ms[k])[j]? = some u)=>(hb.cell (p:=⟨b,off+k*10+j,none⟩) hbB).trans (hcell k _ hck j u hj)
    have hcl0:=hcl 0 _ rfl;have hcl1:=hcl 1 _ rfl;have hcl2:=hcl 2 _ rfl;have hcl3:=hcl 3 _ rfl;have hcl4:=hcl 4 _ rfl;have hcl5:=hcl 5 _ rfl;have hcl6:=hcl 6 _ rfl;have hcl7:=hcl 7 _ rfl;have hcl8:=hcl 8 _ rfl;have hcl9:=hcl 9 _ rfl;simp only[Nat.add_zero]at hcl0;have hsu:=hS _ (List.getElem_mem hlt);clear hcl hck hcell;have hos:os[k]'(by omega)=some qs[k]:=by simp only[hos,List.getElem_map]
    obtain⟨hun,hbd⟩:=hB k hlt;rw [hos]at hun hbd;have hq:=hun _ rfl;obtain ⟨qa,qb,lq⟩:=LQ.ex qs[k];have hC:=fun W=>hbd W qa qb 0
    have hv:suV ms[k]=.agg #[.int .i64 ms[k].s.kind,.int .i64 ms[k].s.n,.int .i64 ms[k].s.c,.int .i64 ms[k].s.e,.int .i64 ms[k].s.iP,.int .i64 ms[k].s.count,.slice ms[k].A ms[k].s.times.length ms[k].cap,.int .i64 ms[k].s.width,.int .i64 ms[k].s.things,.int .i64 ms[k].s.marked]:=rfl;rw [hv]at hC
    have hnx:Kp ((qs.take k).flatMap vU++[.string ⟨qa.toArray⟩,.string ⟨qb.toArray⟩]=(qs.take (k+1)).flatMap vU):=⟨by
     rw[List.take_add_one,List.getElem?_eq_getElem hkq,Option.toList_some,List.flatMap_append,List.flatMap_singleton,U8 lq]⟩
    have hob:OB (some qs[k]) qa qb 0:=.good hq lq;have hbs:=bNew hb (.cells #[.int .i64 ms[k].s.kind,.int .i64 ms[k].s.n,.int .i64 ms[k].s.c,.int .i64 ms[k].s.e,.int .i64 ms[k].s.iP,.int .i64 ms[k].s.count,.slice ms[k].A ms[k].s.times.length ms[k].cap,.int .i64 ms[k].s.width,.int .i64 ms[k].s.things,.int .i64 ms[k].s.marked] 72);have AU:=hC _ ((hsu.below hbs).more hbs.size) (hE.below hbs) hob;have hrow1:=aU _ _ _ _ _ _ _ _ hrow (aA wr (.cells #[.int .i64 ms[k].s.kind,.int .i64 ms[k].s.n,.int .i64 ms[k].s.c,.int .i64 ms[k].s.e,.int .i64 ms[k].s.iP,.int .i64 ms[k].s.count,.slice ms[k].A ms[k].s.times.length ms[k].cap,.int .i64 ms[k].s.width,.int .i64 ms[k].s.things,.int .i64 ms[k].s.marked] 72));have S0:=Bx.mk wr 72 #[.int .i64 ms[k].s.kind,.int .i64 ms[k].s.n,.int .i64 ms[k].s.c,.int .i64 ms[k].s.e,.int .i64 ms[k].s.iP,.int .i64 ms[k].s.count,.slice ms[k].A ms[k].s.times.length ms[k].cap,.int .i64 ms[k].s.width,.int .i64 ms[k].s.things,.int .i64 ms[k].s.marked];obtain ⟨s0,s1,s2,s3,s4,s5,s6,s7,s8,s9⟩:=S0.p10;replace Q:=Q.new (.cells #[.int .i64 ms[k].s.kind,.int .i64 ms[k].s.n,.int .i64 ms[k].s.c,.int .i64 ms[k].s.e,.int .i64 ms[k].s.iP,.int .i64 ms[k].s.count,.slice ms[k].A ms[k].s.times.length ms[k].cap,.int .i64 ms[k].s.width,.int .i64 ms[k].s.things,.int .i64 ms[k].s.marked] 72);clear hC hbd hun hq hob lq hos hv hsu hB hA hS;generalize ms[k]=m at *;go_wp2_with fail;refine AU.mono ?_;rintro _ w1 ⟨rfl,hb1⟩;clear AU hcl0 hcl1 hcl2 hcl3 hcl4 hcl5 hcl6 hcl7 hcl8 hcl9 s0 s1 s2 s3 s4 s5 s6 s7 s8 s9 S0;go_upto_region 10 with fail;have B1:=Bx.mk w1 77 #[.string ⟨qa.toArray⟩,.string ⟨qb.toArray⟩];have hbn:=bNew (ah hbs hb1) (.cells #[.string ⟨qa.toArray⟩,.string ⟨qb.toArray⟩] 77);have hrow2:=aU _ _ _ _ _ _ _ _ (aU _ _ _ _ _ _ _ _ hrow1 hb1) (aA w1 (.cells #[.string ⟨qa.toArray⟩,.string ⟨qb.toArray⟩] 77));replace Q:=(Q.call hb1).new (.cells #[.string ⟨qa.toArray⟩,.string ⟨qb.toArray⟩] 77);have hQl:=Q.lt;generalize w1.alloc (.cells #[.string ⟨qa.toArray⟩,.string ⟨qb.toArray⟩] 77)=w2 at *;generalize w1.heap.size=g1 at *;have c0:=B1.cell 0 rfl;have c1:=B1.cell 1 rfl;have hsrc:=dP.src (P:=Tryz.prog) (B:=w2.heap.size) (cap:=1) (e:=77) (size:=2) (t:=192) (fun u hu=>by simp at hu;rcases hu with rfl|rfl <;> rfl) Tryz.underlying192 (show dP 77 2 w2.heap.size 1 1 [.string ⟨qa.toArray⟩,.string ⟨qb.toArray⟩] (.slice (some ⟨w2.heap.size,0,none⟩) 1 1) (w2.alloc (.cells #[.string ⟨qa.toArray⟩,.string ⟨qb.toArray⟩] 77)) from ⟨_,_,rfl,Nat.le_refl _,Nat.le_refl _,Bx.mk _ _ _,rfl,rfl⟩);have hrow3:=aU _ _ _ _ _ _ _ _ hrow2 (aA w2 (.cells #[.string ⟨qa.toArray⟩,.string ⟨qb.toArray⟩] 77));have hbm:=bNew hbn (.cells #[.string ⟨qa.toArray⟩,.string ⟨qb.toArray⟩] 77);replace Q:=Q.new (.cells #[.string ⟨qa.toArray⟩,.string ⟨qb.toArray⟩] 77);have hsz:w.heap.size+1<=(w2.alloc (.cells #[.string ⟨qa.toArray⟩,.string ⟨qb.toArray⟩] 77)).heap.size:=Q.lt
    have fin:∀v' w',Below (w.heap.size+1) (w2.alloc (.cells #[.string ⟨qa.toArray⟩,.string ⟨qb.toArray⟩] 77)) w'->aI 77 2 (w.heap.size+1) (k+1) ((qs.take k).flatMap vU++[.string ⟨qa.toArray⟩,.string ⟨qb.toArray⟩]) v' w'->aI 77 2 (w.heap.size+1) (k+1) ((qs.take (k+1)).flatMap vU) v' w'/\Bx w' w.heap.size 77 #[.string ⟨#[]⟩,.string ⟨#[]⟩]/\Below w.heap.size w w':=fun v' w' h1 h2=>by
     rw[hnx.out]at h2;exact ⟨h2,Q.below h1 (by omega),hbm.trans (h1.mono (by omega))⟩
    go_wp2_with (at_builtin;refine aG rfl (.tmp 31) (.tmp 33) 192 77 rfl ti tz 2 (w.heap.size+1) k 1 ((qs.take k).flatMap vU) [.string ⟨qa.toArray⟩,.string ⟨qb.toArray⟩] _ _ Tryz.underlying192 hi hzz hs1 hz1 rfl rfl hrow3 hsz hsrc (by omega) (by unfold maxLen;omega) (by rw[hby];omega) ?_;intro v' w' e1 e2;obtain⟨f1,f2,f3⟩:=fin _ _ e1 e2)
    exact⟨⟨k+1,by omega,by go_num,f1,f2,f3⟩,by simp[intOf];omega⟩
  · obtain rfl:k=ms.length:=by omega
    rw[←hql,List.take_length]at hrow;obtain ⟨C,cc,rfl,hC,hcc,hcm⟩:=aI.at (f:=vU) (p:=qs) OZ hrow;have hE1:=hE.below hb;have hL:=Io qs C cc la lb wr (Wp hC) hcc (by omega) (by omega) (fun q hq=>(hun q hq).1) lm hE1;rw [hql]at hL;clear hB hA hS hrow hos hC hE1;go_wp2_with fail;refine hL.mono ?_;rintro _ w1 ⟨rfl,hb1⟩;replace Q:=(Q.call hb1).new (.cells #[.string ⟨la.toArray⟩,.string ⟨lb.toArray⟩] 77);have M:=Bx.mk w1 77 #[.string ⟨la.toArray⟩,.string ⟨lb.toArray⟩];replace hb:=bNew (ah hb hb1) (.cells #[.string ⟨la.toArray⟩,.string ⟨lb.toArray⟩] 77);have hR:=G7 la lb ms.length 1 _ _ hl1 hl10 (Nat.le_refl _) (TG M);clear hL hb1;go_wp2_with fail;refine hR.mono ?_;rintro _ w2 ⟨⟨A',rfl,hA'⟩,hb2⟩;replace Q:=Q.call hb2;replace hb:=ah hb hb2
    have hK:aT 100 #[.slice A' ms.length ms.length] w2 (.tuple #[.agg #[.string ⟨xa.toArray⟩,.string ⟨xb.toArray⟩],.int .i64 tc]):=by
     rcases hw2.out with ⟨r,hc,lr,rfl,rfl⟩|⟨hc,rfl,rfl,rfl,rfl⟩
     · exact Na A' w2 lm hA' (by omega) hmu hc lr (hE.below hb)
     · exact Dn A' w2 lm hA' (by omega) hmu hc (hE.below hb)
    clear hR hb2 M hmu hun;go_wp2_with fail;refine hK.mono ?_;rintro _ w3 ⟨rfl,hb3⟩;replace Q:=(Q.call hb3).new (.cells #[.string ⟨xa.toArray⟩,.string ⟨xb.toArray⟩] 77);have Z:=Bx.mk w3 77 #[.string ⟨xa.toArray⟩,.string ⟨xb.toArray⟩];replace hb:=bNew (ah hb hb3) (.cells #[.string ⟨xa.toArray⟩,.string ⟨xb.toArray⟩] 77);have z0:=Z.cell 0 rfl;have z1:=Z.cell 1 rfl;have q0:=Q.cell 0 rfl;have q1:=Q.cell 1 rfl;have f0:=Q.frozen 0;have f1:=Q.frozen 1;clear hK hb3
    rcases hw2.out with ⟨r,-,-,rfl,rfl⟩|⟨-,rfl,rfl,rfl,rfl⟩
    · clear hw2;go_wp2;exact bodyPost_ret (bG rfl _ _ rfl rfl ((Q.set 0 (.string ⟨xa.toArray⟩)).set 1 (.string ⟨xb.toArray⟩))) rfl ⟨rfl,aK (aK hb (p:=⟨w.heap.size,0,none⟩) (Nat.le_refl _) _) (p:=⟨w.heap.size,1,none⟩) (Nat.le_refl _) _⟩
    · clear hw2;go_wp2;exact bodyPost_ret (bG rfl _ _ rfl rfl ((Q.set 0 (.string ⟨#[]⟩)).set 1 (.string ⟨#[]⟩))) rfl ⟨rfl,aK (aK hb (p:=⟨w.heap.size,0,none⟩) (Nat.le_refl _) _) (p:=⟨w.heap.size,1,none⟩) (Nat.le_refl _) _⟩
theorem zD (ms:List pY) (os:List (Option Rat)) (A:Option Addr) (cap:Nat) (w:World) (hlen:os.length=ms.length) (hB:∀(i:Nat) (h:i<ms.length),BdP 16 ms[i] (os[i]'(by omega))) (hA:At 10 GH w w.heap.size A ms) (hS:∀m∈ms,qh w w.heap.size m) (hn:ms.length<=cap) (hl:ms.length<=9223372036854775807) (hE:Env w) (h:Tp.within (ms.length:Int) 1 10=true) (qs:List Rat) (hos:os=qs.map some) (r:Rat) (xa xb:List UInt8) (hc:comb (List.replicate ms.length (Tf.jd qs))=some r) (lr:LQ (Ar r) xa xb) :
 aT 60 #[.slice A ms.length cap] w (.tuple #[.agg #[.string ⟨xa.toArray⟩,.string ⟨xb.toArray⟩],.int .i64 0]):=ru ms os A cap w hlen hB hA hS hn hl hE h qs hos xa xb 0 0 ⟨.inl ⟨r,hc,lr,rfl,rfl⟩⟩
theorem zC (ms:List pY) (os:List (Option Rat)) (A:Option Addr) (cap:Nat) (w:World) (hlen:os.length=ms.length) (hB:∀(i:Nat) (h:i<ms.length),BdP 16 ms[i] (os[i]'(by omega))) (hA:At 10 GH w w.heap.size A ms) (hS:∀m∈ms,qh w w.heap.size m) (hn:ms.length<=cap) (hl:ms.length<=9223372036854775807) (hE:Env w) (h:Tp.within (ms.length:Int) 1 10=true) (qs:List Rat) (hos:os=qs.map some) (hc:comb (List.replicate ms.length (Tf.jd qs))=none) :
 aT 60 #[.slice A ms.length cap] w (.tuple #[.agg #[.string ⟨#[]⟩,.string ⟨#[]⟩],.int .i64 360]):=ru ms os A cap w hlen hB hA hS hn hl hE h qs hos [] [] 350 360 ⟨.inr ⟨hc,rfl,rfl,rfl,rfl⟩⟩
theorem LM (m:pY) (g:Nat) (number:Int) (w:World) (hB:Bx w g 3 #[.int .i64 number]) :
 aT 165 #[suV m,.pointer (some ⟨g,0,none⟩)] w (.bool (!(m.s.n==number))):=by
 unfold suV
 have hb:=aA w (.cells #[.int .i64 m.s.kind,.int .i64 m.s.n,.int .i64 m.s.c,.int .i64 m.s.e,.int .i64 m.s.iP,.int .i64 m.s.count,.slice m.A m.s.times.length m.cap,.int .i64 m.s.width,.int .i64 m.s.things,.int .i64 m.s.marked] 72);have B:=Bx.mk w 72 #[.int .i64 m.s.kind,.int .i64 m.s.n,.int .i64 m.s.c,.int .i64 m.s.e,.int .i64 m.s.iP,.int .i64 m.s.count,.slice m.A m.s.times.length m.cap,.int .i64 m.s.width,.int .i64 m.s.things,.int .i64 m.s.marked];have c1:=B.cell 1 rfl;have g0:=(hB.call hb).cell 0 rfl;clear B hB
 go_enter Tryz.func165,Tryz.ntmps165
 go_wp2;go_ret;exact ⟨by first|rfl|simp,hb⟩
theorem OG (ms:List pY) (A:Option Addr) (cap g:Nat) (number:Int) (w:World) (hA:At 10 GH w w.heap.size A ms) (hn:ms.length<=cap) (hl:ms.length<=9223372036854775807) (hB:Bx w g 3 #[.int .i64 number]) :
 aT 229 #[.slice A ms.length cap,.func (.func 165) #[] #[.pointer (some ⟨g,0,none⟩)]] w (.int .i64 (su (fun m=> !(m.s.n==number)) ms)):=by
 obtain⟨f,hf⟩:∃f:pY->Bool,f=fun m=> !(m.s.n==number):=⟨_,rfl⟩
 have hp:=fun (m:pY) W (h:Below w.heap.size w W)=>LM m g number W (hB.below h hB.lt)
 have hp':∀(m:pY) W,Below w.heap.size w W->aT 165 #[suV m,.pointer (some ⟨g,0,none⟩)] W (.bool (f m)):=by rw[hf];exact hp
 rw[←hf];clear hp hf
 go_enter Tryz.func229,Tryz.ntmps229
 go_wp2
 go_loopw [8] (fun s8 wr=>∃k:Nat,k<=ms.length/\s8=.int .i64 k/\Kp (∀(j:Nat) (hj:j<ms.length),j<k->f ms[j]=false)/\Below w.heap.size w wr) (fun s8 _=>ms.length-(intOf s8).toNat)
 case atStart=>exact⟨0,Nat.zero_le _,rfl,⟨fun j hj h=>by omega⟩,bH _⟩
 case round =>
  obtain⟨k,hk,rfl,hno,hb⟩:=hrel;by_cases hlt:k<ms.length
  · obtain⟨b,off,rfl,hbB,hcell⟩:=hA (by omega);have hck:ms[k]? = some ms[k]:=List.getElem?_eq_getElem hlt;have hcl:=fun (j:Nat) u (hj:(GH ms[k])[j]? = some u)=>(hb.cell (p:=⟨b,off+k*10+j,none⟩) hbB).trans (hcell k _ hck j u hj)
    have hcl0:=hcl 0 _ rfl;have hcl1:=hcl 1 _ rfl;have hcl2:=hcl 2 _ rfl;have hcl3:=hcl 3 _ rfl;have hcl4:=hcl 4 _ rfl;have hcl5:=hcl 5 _ rfl;have hcl6:=hcl 6 _ rfl;have hcl7:=hcl 7 _ rfl;have hcl8:=hcl 8 _ rfl;have hcl9:=hcl 9 _ rfl;simp only[Nat.add_zero]at hcl0;have hP:=hp' ms[k] wr hb
    unfold suV at hP
    have hh:=fun (h:f ms[k]=true)=>JI hlt h (fun j hj=>hno.out j (by omega) hj)
    have hnx:Kp (f ms[k]=false->∀(j:Nat) (hj:j<ms.length),j<k+1->f ms[j]=false):=⟨fun h j hj hjk=>by
     rcases Nat.lt_or_ge j k with h1|h1
     · exact hno.out j hj h1
     · obtain rfl:j=k:=by omega
       exact h⟩
    have hfin:Kp (f ms[k]=true->su f ms=k):=⟨hh⟩
    clear hcell hA hck hno hh hp' hcl;generalize f ms[k]=t at *;generalize ms[k]=x at *;cases t
    · go_wp2_with (refine hP.mono ?_;rintro _ w1 ⟨rfl,hb1⟩;clear hP)
      exact⟨⟨k+1,by omega,by go_num,⟨by first|exact hnx.out rfl|exact hnx.out trivial⟩,ah hb hb1⟩,by simp[intOf];omega⟩
    · go_wp2_with (refine hP.mono ?_;rintro _ w1 ⟨rfl,hb1⟩;clear hP)
      go_ret;exact ⟨bQ (by first|exact (hfin.out rfl).symm|exact (hfin.out trivial).symm),ah hb hb1⟩
  · have hfin:Kp (su f ms= -1):=⟨ER fun j hj=>hno.out j hj (by omega)⟩
    clear hno hp';go_wp2;go_ret;exact ⟨bQ hfin.out.symm,hb⟩
theorem OH (ms:List pY) (A:Option Addr) (cap g:Nat) (number:Int) (w:World) (hA:At 10 GH w w.heap.size A ms) (hn:ms.length<=cap) (hl:ms.length<=9223372036854775807) (hB:Bx w g 3 #[.int .i64 number]) :
 aT 166 #[.slice A ms.length cap,.func (.func 165) #[] #[.pointer (some ⟨g,0,none⟩)]] w (.bool (ms.any fun m=> !(m.s.n==number))):=by
 have hI:=OG ms A cap g number w hA hn hl hB;have hd:=JJ (fun m:pY=> !(m.s.n==number)) ms;generalize su (fun m:pY=> !(m.s.n==number)) ms=i at *;generalize (ms.any fun m=> !(m.s.n==number))=r at *;clear hA hB;by_cases h:0<=i
 all_goals
  have t0:decide (0<=i)=r:=hd;first|rw[decide_eq_true h]at t0|rw[decide_eq_false h]at t0
  subst t0;clear hd
  go_enter Tryz.func166,Tryz.ntmps166
  go_wp2_with (go_at_call 229;refine hI.mono ?_;rintro _ w1 ⟨rfl,hb1⟩;clear hI)
  go_ret;exact ⟨eF (by simp <;> omega),hb1⟩
def TK (ms:List pY) (number:Int):Bool:= !(ms.any fun m=> !(m.s.n==number))
end Go.Proofs.YtohgjenaclfegaaGreatDoor

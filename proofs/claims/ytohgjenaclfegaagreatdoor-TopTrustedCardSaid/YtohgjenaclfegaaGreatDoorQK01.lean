import Derived.Test.YtohgjenaclfegaaGreatDoorQ00
import Derived.Deep.AppendSrc
import Derived.Laws.AppendOwn
import Derived.RangeFuncWrites
set_option linter.unusedVariables false
set_option linter.unusedSimpArgs false
set_option maxRecDepth 100000
set_option maxHeartbeats 8000000
namespace Go.Proofs.YtohgjenaclfegaaGreatDoor
open Go.RowKit
def dI (e:TypeId) (size B cap n:Nat) (flat:List Value):Value->World->Prop:=fun v w =>
 ∃g cells,v=.slice (some ⟨g,0,none⟩) n cap/\B<=g/\n<=cap/\Bx w g e cells/\cells.size=cap*size/\cells.toList.take (n*size)=flat
theorem aJ (e:TypeId) (size B cap n:Nat) (flat:List Value):b_ (dI e size B cap n flat):=fun v w w' ⟨g,cells,h1,h2,h3,h4,h5,h6⟩ h=>⟨g,cells,h1,h2,h3,h4.call h,h5,h6⟩
def NI (e:TypeId) (size B n:Nat) (flat:List Value):Value->World->Prop:=fun v w=>∃cap,dI e size B cap n flat v w/\cap<=maxLen
theorem F6 (e:TypeId) (size B n:Nat) (flat:List Value):b_ (NI e size B n flat):=fun v w w' ⟨cap,h,hm⟩ hb=>⟨cap,aJ e size B cap n flat v w w' h hb,hm⟩
theorem Bx.setCells {g:Nat} {t:TypeId}:∀(vs:List Value) (k:Nat) (w:World) (cs:Array Value),Bx w g t cs->k+vs.length<=cs.size ->
 ∃cs',Bx (w.setCells g k vs) g t cs'/\cs'.size=cs.size/\cs'.toList.take (k+vs.length)=cs.toList.take k++vs
 | [],k,w,cs,h,_=>⟨cs,h,rfl,by simp⟩
 | v :: r,k,w,cs,h,hk=>by
  simp only[List.length_cons]at hk;obtain ⟨cs',h1,h2,h3⟩:=Bx.setCells r (k+1) _ _ (h.set k v) (by simp;omega);refine ⟨cs',h1,by simpa using h2,?_⟩;rw [List.length_cons,show k+(r.length+1)=k+1+r.length by omega,h3]
  have:(cs.setIfInBounds k v).toList.take (k+1)=cs.toList.take k++[v]:=by
   rw[Array.toList_setIfInBounds,List.take_add_one,List.take_set_of_le (Nat.le_refl _)];simp [show k<cs.size by omega]
  rw[this];simp
theorem og {P:Program} (w:World) (t ty e:TypeId) (i:TypeInfo) (z:Value) (size B cap n m:Nat) (flat news:List Value) (v x:Value) (ht:P.underlying t=some (.slice e)) (hi:P.info? e=some i) (hz:i.zero=some z)
 (hsize:i.size=size) (hzs:z.cells.size=size) (hv:dI e size B cap n flat v w) (hB:B<=w.heap.size) (hs:Src P size t x m news w) (hcm:cap<=maxLen) (h63:n+m<=maxLen) (hb:(n+m)*i.bytes<=140737488355328) :
 ∃v' w' cap',(Builtin.append_ #[t,t] ty #[v,x]).run P w=.ok v' w'/\Below B w w'/\(n=cap->Below w.heap.size w w')/\dI e size B cap' (n+m) (flat++news) v' w'/\cap'<=maxLen:=by
 obtain⟨g,cells,rfl,hg,hnc,hbx,hcs,hfl⟩:=hv;subst hsize;have hnl:=hs.newsLen;by_cases hroom:n+m<=cap
 · have hle:n*i.size+news.length<=cells.size:=by rw[hnl,hcs,←Nat.add_mul];exact Nat.mul_le_mul_right _ hroom
   have hrun:=run_append_room_src (P:=P) w t t ty e i ht hi g 0 n cap x m news hs hroom (fun j hj=>by
    rw[hbx.cell (0+n*i.size+j) (v:=cells[0+n*i.size+j]'(by omega)) (by simp)];rfl) (fun j _=>hbx.frozen _)
   obtain⟨cs',h1,h2,h3⟩:=hbx.setCells news (0+n*i.size) w cells (by omega);refine ⟨_,_,cap,hrun,?_,fun h=>?_,⟨g,cs',rfl,hg,hroom,h1,by rw[h2,hcs],?_⟩,hcm⟩
   · clear hrun h1 h2 h3 hs;generalize 0+n*i.size=o
     have:∀(vs:List Value) (o:Nat) (w':World),Below B w w'->Below B w (w'.setCells g o vs):=by
      intro vs
      induction vs with
      | nil=>intro o w' h;exact h
      | cons a l ih=>intro o w' h;exact ih _ _ (h.setCell hg _)
     exact this news o w (Below.refl _ _)
   · obtain rfl:m=0:=by omega
     obtain rfl:news=[]:=List.eq_nil_of_length_eq_zero (by simpa using hnl);exact Below.refl _ _
   · rw[show (n+m)*i.size=0+n*i.size+news.length by rw[Nat.add_mul,hnl];omega,h3,Nat.zero_add,hfl]
 · have jP:flat.length=n*i.size:=by
    rw[←hfl,List.length_take,Array.length_toList,hcs];exact Nat.min_eq_left (Nat.mul_le_mul_right _ hnc)
   have hold:(Builtin.firstCells i.size n (.slice (some ⟨g,0,none⟩) n cap)).run P w.drew=.ok flat.toArray w.drew :=
    run_firstCells_some w.drew i.size n ⟨g,0,none⟩ n cap flat jP fun j u hu=>by
     have hj:cells[j]? = some u:=by
      rw[←hfl,List.getElem?_take]at hu
      split at hu
      · simpa using hu
      · cases hu
     rw[Addr.add_lit,Nat.zero_add];exact (show Bx w.drew g e cells from hbx).cell j hj
   have hrun:=run_append_grow_src (P:=P) w t t ty e i z ht hi hz (some ⟨g,0,none⟩) n cap flat hold x m news hs (by omega) (by simp only[maxLen]at h63;omega) (growslice_fits (by omega) hb);have hge:=grownCap_ge w (n+m) cap e;refine ⟨_,_,_,hrun,?_,fun _=>?_,⟨w.heap.size,_,rfl,hB,hge,Bx.mk w.drew e _,?_,?_⟩,grownCap_le_maxLen w (n+m) cap e h63⟩
   · exact ((Below.refl B w).drew).alloc hB _
   · exact ((Below.refl w.heap.size w).drew).alloc (Nat.le_refl _) _
   · rw[Array.size_append,List.size_toArray,List.length_append,jP,hnl,size_zeroCells,hzs,←Nat.add_mul,←Nat.add_mul]
     congr 1;omega
   · rw[Array.toList_append,List.take_append_of_le_length (by simp[jP,hnl,Nat.add_mul])];rw [List.take_of_length_le (by simp[jP,hnl,Nat.add_mul])]
theorem jv {P:Program} {w:World} {ops:Array Oper} {rest:List Oper} {o:Oper} {a:Act} {Q:Exit->Act->World->Prop} (hgd:o.guard=none) (s y:Operand) (t e:TypeId) (ho:o.op=.call { callee:=.builtin .append,args:=#[s,y],argTypes:=#[t,t] })
 (i:TypeInfo) (z:Value) (size B cap n m:Nat) (flat news:List Value) (v x:Value) (ht:P.underlying t=some (.slice e)) (hi:P.info? e=some i) (hz:i.zero=some z)
 (hsize:i.size=size) (hzs:z.cells.size=size) (hes:a.eval s=v) (DN:a.eval y=x) (hv:dI e size B cap n flat v w) (hB:B<=w.heap.size) (hs:Src P size t x m news w) (hcm:cap<=maxLen) (h63:n+m<=maxLen) (hb:(n+m)*i.bytes<=140737488355328)
 (h:∀v' w' cap',Below B w w'->(n=cap->Below w.heap.size w w')->dI e size B cap' (n+m) (flat++news) v' w'->cap'<=maxLen->wpList P ops Q rest (a.put o.dst v') w'):wpList P ops Q (o :: rest) a w:=by
 obtain⟨v',w',cap',hr,h1,h2,h3,h4⟩:=og (P:=P) w t o.type e i z size B cap n m flat news v x ht hi hz hsize hzs hv hB hs hcm h63 hb;refine wpList_plain hgd fun _ hK=>?_
 unfold Oper.wp execOp
 simp only[ho,resolve,invoke,builtin,Sem.run_bind,Sem.run_pure,Result.andThen_ok,List.map_toArray,List.map_cons,List.map_nil,hes,DN,hr];exact hK _ _ (h v' w' cap' h1 h2 h3 h4)
section
variable {α:Type} {size:Nat} {f:α->List Value}
theorem lV (hf:∀c,(f c).length=size):∀(p:List α),(p.flatMap f).length=p.length*size
 | []=>by simp
 | c :: p=>by rw[List.flatMap_cons,List.length_append,hf,lV hf p,List.length_cons,Nat.succ_mul];omega
theorem flat_get (hf:∀c,(f c).length=size):∀(p:List α) (i j:Nat) (c:α),p[i]? = some c->j<size->(p.flatMap f)[i*size+j]? = (f c)[j]?
 | [],_,_,_,h,_=>by simp at h
 | x :: p,0,j,c,h,hj=>by
  obtain rfl:x=c:=by simpa using h
  rw[List.flatMap_cons,Nat.zero_mul,Nat.zero_add,List.getElem?_append_left (by rw[hf];exact hj)]
 | x :: p,i+1,j,c,h,hj=>by
  rw[List.flatMap_cons,List.getElem?_append_right (by rw[hf,Nat.succ_mul];omega),hf,show (i+1)*size+j-size=i*size+j by rw[Nat.succ_mul];omega];exact flat_get hf p i j c (by simpa using h) hj
theorem Au (hf:∀c,(f c).length=size):∀(p:List α) (k:Nat) (u:Value),(p.flatMap f)[k]? = some u->∃i c j,p[i]? = some c/\(f c)[j]? = some u/\k=i*size+j
 | [],_,_,h=>by simp at h
 | x :: p,k,u,h=>by
  rw[List.flatMap_cons]at h;by_cases hk:k<size
  · rw[List.getElem?_append_left (by rw[hf];exact hk)]at h;exact ⟨0,x,k,rfl,h,by simp⟩
  · rw[List.getElem?_append_right (by rw[hf];omega),hf]at h;obtain ⟨i,c,j,h1,h2,h3⟩:=Au hf p _ u h;exact ⟨i+1,c,j,by simpa using h1,h2,by rw[Nat.succ_mul];omega⟩
theorem At.src {P:Program} {w:World} {B:Nat} {A:Option Addr} {p:List α} {t e:TypeId} (hf:∀c,(f c).length=size) (h1:∀c,∀u∈f c,u.oneCell'=true) (ht:P.underlying t=some (.slice e)) (h:At size f w B A p) (cap:Nat):Src P size t (.slice A p.length cap) p.length (p.flatMap f) w:=by
 cases p with
 | nil =>
  cases A with
  | none=>exact Src.ofNil w ht cap
  | some a=>exact Src.ofSlice w ht a 0 cap [] (by simp) (fun j u hu=>by simp at hu) (fun u hu=>by cases hu)
 | cons c p =>
  obtain⟨b,off,rfl,hb,hc⟩:=h (by simp);refine Src.ofSlice w ht ⟨b,off,none⟩ _ cap _ (lV hf _) (fun k u hu=>?_) fun u hu=>?_
  · obtain⟨i,d,j,h2,h3,rfl⟩:=Au hf _ k u hu;rw [Addr.add_lit,←Nat.add_assoc];exact hc i d h2 j u h3
  · obtain⟨d,_,h3⟩:=List.mem_flatMap.1 hu;exact h1 d u h3
theorem dI.src {P:Program} {w:World} {e t:TypeId} {B cap n:Nat} {flat:List Value} {v:Value} (h1:∀u∈flat,u.oneCell'=true) (ht:P.underlying t=some (.slice e)) (h:dI e size B cap n flat v w):Src P size t v n flat w:=by
 obtain⟨g,cells,rfl,hg,hnc,hbx,hcs,hfl⟩:=h;refine Src.ofSlice w ht ⟨g,0,none⟩ n cap flat ?_ (fun j u hu=>?_) h1
 · rw[←hfl,List.length_take,Array.length_toList,hcs];exact Nat.min_eq_left (Nat.mul_le_mul_right _ hnc)
 · have hj:cells[j]? = some u:=by
    rw[←hfl,List.getElem?_take]at hu
    split at hu
    · simpa using hu
    · cases hu
   rw[Addr.add_lit,Nat.zero_add];exact hbx.cell j hj
theorem dI.at {w:World} {e:TypeId} {B cap:Nat} {p:List α} {v:Value} (hf:∀c,(f c).length=size) (h:dI e size B cap p.length (p.flatMap f) v w) :
 ∃A,v=.slice A p.length cap/\At size f w w.heap.size A p/\p.length<=cap:=by
 obtain⟨g,cells,rfl,hg,hnc,hbx,hcs,hfl⟩:=h;refine ⟨_,rfl,fun _=>⟨g,0,rfl,hbx.lt,fun i c hi j u hj=>?_⟩,hnc⟩;have hjs:j<size:=by have:=(List.getElem?_eq_some_iff.1 hj).1;rwa [hf]at this
 have h2:=flat_get hf p i j c hi hjs;rw [hj,←hfl,List.getElem?_take]at h2
 split at h2
 · rw[Nat.zero_add];exact hbx.cell _ (by simpa using h2)
 · cases h2
end
def aF (e:TypeId) (size B n:Nat) (flat:List Value):Value->World->Prop:=fun v w=>(v=.slice none 0 0/\n=0/\flat=[])∨∃cap,dI e size B cap n flat v w/\cap<=maxLen
theorem aW (e:TypeId) (size B n:Nat) (flat:List Value):b_ (aF e size B n flat):=fun v w w' h hb=>by
 rcases h with h|⟨cap,h,hm⟩
 · exact .inl h
 · exact .inr ⟨cap,aJ e size B cap n flat v w w' h hb,hm⟩
theorem qV {P:Program} (w:World) (t ty e:TypeId) (i:TypeInfo) (z:Value) (size B n m:Nat) (flat news:List Value) (v x:Value) (ht:P.underlying t=some (.slice e)) (hi:P.info? e=some i) (hz:i.zero=some z)
 (hsize:i.size=size) (hzs:z.cells.size=size) (hv:aF e size B n flat v w) (hB:B<=w.heap.size) (hs:Src P size t x m news w) (hm:0<m) (h63:n+m<=maxLen) (hb:(n+m)*i.bytes<=140737488355328) :
 ∃v' w',(Builtin.append_ #[t,t] ty #[v,x]).run P w=.ok v' w'/\Below B w w'/\aF e size B (n+m) (flat++news) v' w':=by
 rcases hv with ⟨rfl,rfl,rfl⟩|⟨cap,hv,hcm⟩
 · subst hsize;have hnl:=hs.newsLen;have hold:(Builtin.firstCells i.size 0 (.slice none 0 0)).run P w.drew=.ok ([]:List Value).toArray w.drew:=by simp[Builtin.firstCells,loadCells,loadCellsFrom]
   have hrun:=run_append_grow_src (P:=P) w t t ty e i z ht hi hz none 0 0 [] hold x m news hs (by omega) (by simp only[maxLen]at h63;omega) (growslice_fits (by omega) hb);have hge:=grownCap_ge w (0+m) 0 e;refine ⟨_,_,hrun,((Below.refl B w).drew).alloc hB _,.inr ⟨_,⟨w.heap.size,_,rfl,hB,hge,Bx.mk w.drew e _,?_,?_⟩,grownCap_le_maxLen w (0+m) 0 e h63⟩⟩
   · rw[Array.size_append,List.size_toArray,List.length_append,List.length_nil,hnl,size_zeroCells,hzs,Nat.zero_add,←Nat.add_mul]
     congr 1;omega
   · rw[Array.toList_append,List.take_append_of_le_length (by simp[hnl,Nat.add_mul])];rw [List.take_of_length_le (by simp[hnl,Nat.add_mul])]
 · obtain⟨v',w',cap',h1,h2,h3,h4,h5⟩:=og (P:=P) w t ty e i z size B cap n m flat news v x ht hi hz hsize hzs hv hB hs hcm h63 hb;exact ⟨v',w',h1,h2,.inr ⟨cap',h4,h5⟩⟩
theorem aH {P:Program} {w:World} {ops:Array Oper} {rest:List Oper} {o:Oper} {a:Act} {Q:Exit->Act->World->Prop} (hgd:o.guard=none) (s y:Operand) (t e:TypeId) (ho:o.op=.call { callee:=.builtin .append,args:=#[s,y],argTypes:=#[t,t] })
 (i:TypeInfo) (z:Value) (size B n m:Nat) (flat news:List Value) (v x:Value) (ht:P.underlying t=some (.slice e)) (hi:P.info? e=some i) (hz:i.zero=some z)
 (hsize:i.size=size) (hzs:z.cells.size=size) (hes:a.eval s=v) (DN:a.eval y=x) (hv:aF e size B n flat v w) (hB:B<=w.heap.size) (hs:Src P size t x m news w) (hm:0<m) (h63:n+m<=maxLen) (hb:(n+m)*i.bytes<=140737488355328)
 (h:∀v' w',Below B w w'->aF e size B (n+m) (flat++news) v' w'->wpList P ops Q rest (a.put o.dst v') w'):wpList P ops Q (o :: rest) a w:=by
 obtain⟨v',w',hr,h1,h2⟩:=qV (P:=P) w t o.type e i z size B n m flat news v x ht hi hz hsize hzs hv hB hs hm h63 hb;refine wpList_plain hgd fun _ hK=>?_
 unfold Oper.wp execOp
 simp only[ho,resolve,invoke,builtin,Sem.run_bind,Sem.run_pure,Result.andThen_ok,List.map_toArray,List.map_cons,List.map_nil,hes,DN,hr];exact hK _ _ (h v' w' h1 h2)
theorem aF.at {α:Type} {size:Nat} {f:α->List Value} {w:World} {e:TypeId} {B:Nat} {p:List α} {v:Value} (hf:∀c,(f c).length=size) (h:aF e size B p.length (p.flatMap f) v w) :
 ∃A cap,v=.slice A p.length cap/\At size f w w.heap.size A p/\p.length<=cap/\cap<=maxLen:=by
 rcases h with ⟨rfl,h0,-⟩|⟨cap,h,hm⟩
 · rw[h0];exact ⟨none,0,rfl,fun h=>by omega,by omega,Nat.zero_le _⟩
 · obtain⟨A,h1,h2,h3⟩:=dI.at hf h;exact ⟨A,cap,h1,h2,h3,hm⟩
structure jW (e:TypeId) (W W':World):Prop where
 size:W.heap.size<=W'.heap.size
 same:∀(b:Nat) (o:Obj),W.heap[b]? = some o->(∀cs f,o≠.cells cs e f)->W'.heap[b]? = some o
theorem jW.refl (e:TypeId) (W:World):jW e W W:=⟨Nat.le_refl _,fun _ _ h _=>h⟩
theorem jW.trans {e:TypeId} {A B C:World} (h:jW e A B) (k:jW e B C):jW e A C:=⟨Nat.le_trans h.size k.size,fun b o h1 h2=>k.same b o (h.same b o h1 h2) h2⟩
theorem jW.bx {e t:TypeId} {W W':World} {g:Nat} {cs:Array Value} (h:jW e W W') (ht:t≠e) (hB:Bx W g t cs):Bx W' g t cs:=h.same g _ hB (fun cs' f hh=>by cases hh;exact ht rfl)
theorem jW.call {e:TypeId} {W W':World} (h:Below W.heap.size W W'):jW e W W':=⟨h.size,fun b o h1 _=>(h.block b (Array.getElem?_eq_some_iff.1 h1).1).trans h1⟩
theorem jW.set {e:TypeId} {W:World} {g:Nat} {cs:Array Value} (hB:Bx W g e cs) (i:Nat) (u:Value):jW e W (W.setCell ⟨g,i,none⟩ u) :=
 ⟨((Below.refl 0 W).setCell (p:=⟨g,i,none⟩) (Nat.zero_le _) u).size,fun b o h1 h2=>by
  by_cases hb:b=g
  · subst hb;exact absurd (Option.some.inj (h1.symm.trans hB)) (h2 _ _)
  · exact (Below.heap_setCell W ⟨g,i,none⟩ u b hb).trans h1⟩
theorem jW.sets {e:TypeId} {g:Nat}:∀(vs:List Value) (o:Nat) (W:World) (cs:Array Value),Bx W g e cs->jW e W (W.setCells g o vs)
 | [],o,W,cs,h=>jW.refl _ _
 | v :: l,o,W,cs,h=>(jW.set h o v).trans (jW.sets l (o+1) _ _ (h.set o v))
theorem qW {P:Program} (w:World) (t ty e:TypeId) (i:TypeInfo) (z:Value) (size B n m:Nat) (flat news:List Value) (v x:Value) (ht:P.underlying t=some (.slice e)) (hi:P.info? e=some i) (hz:i.zero=some z)
 (hsize:i.size=size) (hzs:z.cells.size=size) (hv:aF e size B n flat v w) (hB:B<=w.heap.size) (hs:Src P size t x m news w) (hm:0<m) (h63:n+m<=maxLen) (hb:(n+m)*i.bytes<=140737488355328) :
 ∃v' w',(Builtin.append_ #[t,t] ty #[v,x]).run P w=.ok v' w'/\Below B w w'/\jW e w w'/\aF e size B (n+m) (flat++news) v' w':=by
 rcases hv with ⟨rfl,rfl,rfl⟩|⟨cap,hv,hcm⟩
 · subst hsize;have hnl:=hs.newsLen;have hold:(Builtin.firstCells i.size 0 (.slice none 0 0)).run P w.drew=.ok ([]:List Value).toArray w.drew:=by simp[Builtin.firstCells,loadCells,loadCellsFrom]
   have hrun:=run_append_grow_src (P:=P) w t t ty e i z ht hi hz none 0 0 [] hold x m news hs (by omega) (by simp only[maxLen]at h63;omega) (growslice_fits (by omega) hb);have hge:=grownCap_ge w (0+m) 0 e;refine ⟨_,_,hrun,((Below.refl B w).drew).alloc hB _,jW.call (((Below.refl w.heap.size w).drew).alloc (Nat.le_refl _) _),.inr ⟨_,⟨w.heap.size,_,rfl,hB,hge,Bx.mk w.drew e _,?_,?_⟩,grownCap_le_maxLen w (0+m) 0 e h63⟩⟩
   · rw[Array.size_append,List.size_toArray,List.length_append,List.length_nil,hnl,size_zeroCells,hzs,Nat.zero_add,←Nat.add_mul]
     congr 1;omega
   · rw[Array.toList_append,List.take_append_of_le_length (by simp[hnl,Nat.add_mul])];rw [List.take_of_length_le (by simp[hnl,Nat.add_mul])]
 · obtain⟨g,cells,rfl,hg,hnc,hbx,hcs,hfl⟩:=hv;subst hsize;have hnl:=hs.newsLen;by_cases hroom:n+m<=cap
   · have hle:n*i.size+news.length<=cells.size:=by rw[hnl,hcs,←Nat.add_mul];exact Nat.mul_le_mul_right _ hroom
     have hrun:=run_append_room_src (P:=P) w t t ty e i ht hi g 0 n cap x m news hs hroom (fun j hj=>by
      rw[hbx.cell (0+n*i.size+j) (v:=cells[0+n*i.size+j]'(by omega)) (by simp)];rfl) (fun j _=>hbx.frozen _)
     obtain⟨cs',h1,h2,h3⟩:=hbx.setCells news (0+n*i.size) w cells (by omega);refine ⟨_,_,hrun,?_,jW.sets _ _ _ _ hbx,.inr ⟨cap,⟨g,cs',rfl,hg,hroom,h1,by rw[h2,hcs],?_⟩,hcm⟩⟩
     · clear hrun h1 h2 h3 hs;generalize 0+n*i.size=o
       have:∀(vs:List Value) (o:Nat) (w':World),Below B w w'->Below B w (w'.setCells g o vs):=by
        intro vs
        induction vs with
        | nil=>intro o w' h;exact h
        | cons a l ih=>intro o w' h;exact ih _ _ (h.setCell hg _)
       exact this news o w (Below.refl _ _)
     · rw[show (n+m)*i.size=0+n*i.size+news.length by rw[Nat.add_mul,hnl];omega,h3,Nat.zero_add,hfl]
   · have jP:flat.length=n*i.size:=by
      rw[←hfl,List.length_take,Array.length_toList,hcs];exact Nat.min_eq_left (Nat.mul_le_mul_right _ hnc)
     have hold:(Builtin.firstCells i.size n (.slice (some ⟨g,0,none⟩) n cap)).run P w.drew=.ok flat.toArray w.drew :=
      run_firstCells_some w.drew i.size n ⟨g,0,none⟩ n cap flat jP fun j u hu=>by
       have hj:cells[j]? = some u:=by
        rw[←hfl,List.getElem?_take]at hu
        split at hu
        · simpa using hu
        · cases hu
       rw[Addr.add_lit,Nat.zero_add];exact (show Bx w.drew g e cells from hbx).cell j hj
     have hrun:=run_append_grow_src (P:=P) w t t ty e i z ht hi hz (some ⟨g,0,none⟩) n cap flat hold x m news hs (by omega) (by simp only[maxLen]at h63;omega) (growslice_fits (by omega) hb);have hge:=grownCap_ge w (n+m) cap e;refine ⟨_,_,hrun,((Below.refl B w).drew).alloc hB _,jW.call (((Below.refl w.heap.size w).drew).alloc (Nat.le_refl _) _),.inr ⟨_,⟨w.heap.size,_,rfl,hB,hge,Bx.mk w.drew e _,?_,?_⟩,grownCap_le_maxLen w (n+m) cap e h63⟩⟩
     · rw[Array.size_append,List.size_toArray,List.length_append,jP,hnl,size_zeroCells,hzs,←Nat.add_mul,←Nat.add_mul]
       congr 1;omega
     · rw[Array.toList_append,List.take_append_of_le_length (by simp[jP,hnl,Nat.add_mul])];rw [List.take_of_length_le (by simp[jP,hnl,Nat.add_mul])]
theorem nP {P:Program} {w:World} {ops:Array Oper} {rest:List Oper} {o:Oper} {a:Act} {Q:Exit->Act->World->Prop} (hgd:o.guard=none) (s y:Operand) (t e:TypeId) (ho:o.op=.call { callee:=.builtin .append,args:=#[s,y],argTypes:=#[t,t] })
 (i:TypeInfo) (z:Value) (size B n m:Nat) (flat news:List Value) (v x:Value) (ht:P.underlying t=some (.slice e)) (hi:P.info? e=some i) (hz:i.zero=some z)
 (hsize:i.size=size) (hzs:z.cells.size=size) (hes:a.eval s=v) (DN:a.eval y=x) (hv:aF e size B n flat v w) (hB:B<=w.heap.size) (hs:Src P size t x m news w) (hm:0<m) (h63:n+m<=maxLen) (hb:(n+m)*i.bytes<=140737488355328)
 (h:∀v' w',Below B w w'->jW e w w'->aF e size B (n+m) (flat++news) v' w'->wpList P ops Q rest (a.put o.dst v') w'):wpList P ops Q (o :: rest) a w:=by
 obtain⟨v',w',hr,h1,h2,h3⟩:=qW (P:=P) w t o.type e i z size B n m flat news v x ht hi hz hsize hzs hv hB hs hm h63 hb;refine wpList_plain hgd fun _ hK=>?_
 unfold Oper.wp execOp
 simp only[ho,resolve,invoke,builtin,Sem.run_bind,Sem.run_pure,Result.andThen_ok,List.map_toArray,List.map_cons,List.map_nil,hes,DN,hr];exact hK _ _ (h v' w' h1 h2 h3)
end Go.Proofs.YtohgjenaclfegaaGreatDoor
namespace Go.Proofs.YtohgjenaclfegaaGreatDoor.RS
open Go.RowKit
def K2 (B:Nat) (t:TypeId) (cs:Array Value) (w w':World):Prop:=KF B t cs w w'/\jW t w w'
variable {B:Nat} {t:TypeId} {cs:Array Value} {W w w':World}
theorem Ux (B:Nat) (t:TypeId) (cs:Array Value):Cls (K2 B t cs) :=
 ⟨fun w=>⟨(yN B t cs).refl w,jW.refl t w⟩,fun h1 h2=>⟨(yN B t cs).trans h1.1 h2.1,h1.2.trans h2.2⟩,fun w n=>⟨(yN B t cs).drawn w n,⟨Nat.le_refl _,fun _ _ h _=>h⟩⟩⟩
theorem K2.rf (B:Nat) (t:TypeId) (cs:Array Value) (w:World):K2 B t cs w w:=(Ux B t cs).refl w
theorem K2.call (h:K2 B t cs W w) (hB:B<=W.heap.size) (hb:Below w.heap.size w w'):K2 B t cs w w':=⟨h.1.call hB hb,jW.call hb⟩
theorem K2.new (h:K2 B t cs W w) (hB:B<=W.heap.size) (z:Array Value) (hz:z.size=cs.size) (x:Value):K2 B t cs w (w.alloc (.cells z t))/\Yh B t cs x (.pointer (some ⟨w.heap.size,0,none⟩)) (w.alloc (.cells z t)) :=
 ⟨⟨(h.1.new hB z hz x).1,jW.call (bNew (Below.refl w.heap.size w) _)⟩,(h.1.new hB z hz x).2⟩
end Go.Proofs.YtohgjenaclfegaaGreatDoor.RS
namespace Go.Proofs.YtohgjenaclfegaaGreatDoor
open Go.RowKit
structure RV (v v':Value) (W W':World):Prop where
 size:W.heap.size<=W'.heap.size
 same:∀(b:Nat) (o:Obj),W.heap[b]? = some o->(∀n c,v≠.slice (some ⟨b,0,none⟩) n c)->W'.heap[b]? = some o
 at_:∃g n c,v'=.slice (some ⟨g,0,none⟩) n c/\(W.heap.size<=g∨∃n c,v=.slice (some ⟨g,0,none⟩) n c)
theorem RV.bx {v v':Value} {t:TypeId} {W W':World} {g:Nat} {cs:Array Value} (h:RV v v' W W') (hB:Bx W g t cs) (hne:∀n c,v≠.slice (some ⟨g,0,none⟩) n c):Bx W' g t cs:=h.same g _ hB hne
theorem RV.grow {v v':Value} {W W':World} (hv:∃g n c,v'=.slice (some ⟨g,0,none⟩) n c/\W.heap.size<=g) (h:Below W.heap.size W W'):RV v v' W W':=by
 obtain⟨g,n,c,e,hg⟩:=hv;exact ⟨h.size,fun b o h1 _=>(h.block b (Array.getElem?_eq_some_iff.1 h1).1).trans h1,g,n,c,e,.inl hg⟩
theorem iq {g b:Nat} (hb:b≠g):∀(vs:List Value) (o:Nat) (W:World),(W.setCells g o vs).heap[b]? = W.heap[b]?
 | [],o,W=>rfl
 | v :: l,o,W=>(iq hb l (o+1) _).trans (Below.heap_setCell W ⟨g,o,none⟩ v b hb)
theorem size_setCells {g:Nat}:∀(vs:List Value) (o:Nat) (W:World),W.heap.size<=(W.setCells g o vs).heap.size
 | [],o,W=>Nat.le_refl _
 | v :: l,o,W=>Nat.le_trans ((Below.refl 0 W).setCell (p:=⟨g,o,none⟩) (Nat.zero_le _) v).size (size_setCells l (o+1) _)
theorem RV.sets {g n c n' c':Nat} (vs:List Value) (o:Nat) (W:World):RV (.slice (some ⟨g,0,none⟩) n c) (.slice (some ⟨g,0,none⟩) n' c') W (W.setCells g o vs) :=
 ⟨size_setCells vs o W,fun b ob h1 h2=>(iq (fun e=>h2 n c (by rw[e])) vs o W).trans h1,g,n',c',rfl,.inr ⟨n,c,rfl⟩⟩
end Go.Proofs.YtohgjenaclfegaaGreatDoor
namespace Go.Proofs.YtohgjenaclfegaaGreatDoor.RS
open Go.RowKit
structure KZ (B:Nat) (t:TypeId) (z cs:Array Value) (w w':World):Prop where
 bl:Below B w w'
 size:w.heap.size<=w'.heap.size
 own:∀g c,B<=g->Bx w g t c->Bx w' g t c∨(c=z/\Bx w' g t cs)
 Gt:jW t w w'
variable {B:Nat} {t:TypeId} {z cs:Array Value} {W w w':World}
theorem KZ.rf (B:Nat) (t:TypeId) (z cs:Array Value) (w:World):KZ B t z cs w w:=⟨Below.refl _ _,Nat.le_refl _,fun g c _ h=>.inl h,jW.refl t w⟩
theorem dX (B:Nat) (t:TypeId) (z cs:Array Value):Cls (KZ B t z cs) :=
 ⟨KZ.rf B t z cs,fun h1 h2=>⟨h1.bl.trans h2.bl,Nat.le_trans h1.size h2.size,fun g c hg h=>by
  rcases h1.own g c hg h with h3|⟨h3,h4⟩
  · exact h2.own g c hg h3
  · rcases h2.own g cs hg h4 with h5|⟨-,h5⟩ <;> exact .inr ⟨h3,h5⟩,h1.Gt.trans h2.Gt⟩,
  fun w n=>⟨⟨rfl,rfl,rfl,Nat.le_refl _,fun _ _=>rfl⟩,Nat.le_refl _,fun g c _ h=>.inl h,⟨Nat.le_refl _,fun _ _ h _=>h⟩⟩⟩
theorem KZ.of (hB:B<=w.heap.size) (h:Below w.heap.size w w'):KZ B t z cs w w':=⟨h.mono hB,h.size,fun g c _ hb=>.inl (hb.call h),jW.call h⟩
theorem KZ.call (h:KZ B t z cs W w) (hB:B<=W.heap.size) (hb:Below w.heap.size w w'):KZ B t z cs w w':=KZ.of (Nat.le_trans hB h.size) hb
def Ew (B:Nat) (t:TypeId) (z cs:Array Value):Rl:=fun _ v w=>∃g,v=.pointer (some ⟨g,0,none⟩)/\B<=g/\(Bx w g t z∨Bx w g t cs)
def Et (B:Nat) (t:TypeId) (cs:Array Value):Rl:=fun x _ w=>∃g,x=.pointer (some ⟨g,0,none⟩)/\B<=g/\Bx w g t cs
def Bz (B:Nat) (ty:TypeId) (n:Nat) (c:Array Value):Rl:=fun _ v w=>∃g,v=.slice (some ⟨g,0,none⟩) n n/\B<=g/\Bx w g ty c
theorem KZ.keep (h:KZ B t z cs w w') {g:Nat} (hg:B<=g) (hb:Bx w g t cs):Bx w' g t cs:=by
 rcases h.own g cs hg hb with h1|⟨-,h1⟩ <;> exact h1
theorem mM:b_ (KZ B t z cs) (Ew B t z cs):=fun x v w w' ⟨g,e,hg,hb⟩ h=>by
 rcases hb with hb|hb
 · rcases h.own g z hg hb with h1|⟨-,h1⟩
   · exact⟨g,e,hg,.inl h1⟩
   · exact⟨g,e,hg,.inr h1⟩
 · exact⟨g,e,hg,.inr (h.keep hg hb)⟩
theorem mJ:b_ (KZ B t z cs) (Et B t cs):=fun x v w w' ⟨g,e,hg,hb⟩ h=>⟨g,e,hg,h.keep hg hb⟩
theorem d_ {ty:TypeId} {n:Nat} {c:Array Value} (hc:ty≠t∨c≠z):b_ (KZ B t z cs) (Bz B ty n c):=fun x v w w' ⟨g,e,hg,hb⟩ h=>by
 by_cases ht:ty=t
 · subst ht
   rcases hc with hc|hc
   · exact absurd rfl hc
   · rcases h.own g c hg hb with h1|⟨h1,-⟩
     · exact⟨g,e,hg,h1⟩
     · exact absurd h1 hc
 · exact⟨g,e,hg,h.Gt.bx ht hb⟩
theorem KZ.slice (h:KZ B t z cs W w) (hB:B<=W.heap.size) (ty:TypeId) (n:Nat) (c:Array Value) (x:Value):KZ B t z cs w (w.alloc (.cells c ty))/\Bz B ty n c x (.slice (some ⟨w.heap.size,0,none⟩) n n) (w.alloc (.cells c ty)) :=
 ⟨h.call hB (bNew (Below.refl w.heap.size w) _),_,rfl,Nat.le_trans hB h.size,Bx.mk w ty c⟩
theorem KZ.new (h:KZ B t z cs W w) (hB:B<=W.heap.size) (x:Value):KZ B t z cs w (w.alloc (.cells z t))/\Ew B t z cs x (.pointer (some ⟨w.heap.size,0,none⟩)) (w.alloc (.cells z t)) :=
 ⟨h.call hB (bNew (Below.refl w.heap.size w) _),_,rfl,Nat.le_trans hB h.size,.inl (Bx.mk w t z)⟩
theorem KZ.put {g:Nat} (hg:B<=g) (hB:Bx w g t z∨Bx w g t cs) (hs:w.heap.size<=w'.heap.size) (hb:Below B w w') (ho:∀b,b≠g->w'.heap[b]? = w.heap[b]?) (hB':Bx w' g t cs):KZ B t z cs w w':=by
 refine⟨hb,hs,fun b c hbb hc=>?_,hs,fun b o h1 h2=>?_⟩
 · by_cases e:b=g
   · subst e
     rcases hB with h1|h1
     · right
       have:c=z:=by
        have:=(show w.heap[b]? = _ from hc).symm.trans h1;simpa using this
       exact⟨this,hB'⟩
     · left
       have:c=cs:=by
        have:=(show w.heap[b]? = _ from hc).symm.trans h1;simpa using this
       rw[this];exact hB'
   · exact .inl ((ho b e).trans hc)
 · by_cases e:b=g
   · subst e
     rcases hB with h3|h3
     · exact absurd ((Option.some.inj (h1.symm.trans h3))) (h2 _ _)
     · exact absurd ((Option.some.inj (h1.symm.trans h3))) (h2 _ _)
   · exact (ho b e).trans h1
theorem qA {g:Nat}:∀(vs:List Value) (k:Nat) (w:World) (cs:Array Value),Bx w g t cs->cs.size=k+vs.length->Bx (w.setCells g k vs) g t ((cs.toList.take k)++vs).toArray
 | [],k,w,cs,h,hs=>by
  have:((cs.toList.take k)++([]:List Value)).toArray=cs:=by rw[List.append_nil,List.take_of_length_le (by simpa using Nat.le_of_eq hs)]
  rw[this];exact h
 | v :: r,k,w,cs,h,hs=>by
  have h1:=qA r (k+1) (w.setCell ⟨g,k,none⟩ v) _ (h.set k v) (by simp only[Array.size_setIfInBounds];simp only[List.length_cons]at hs;omega)
  have e:((cs.setIfInBounds k v).toList.take (k+1))++r=cs.toList.take k++v :: r:=by
   have:(cs.setIfInBounds k v).toList.take (k+1)=cs.toList.take k++[v]:=by
    rw[Array.toList_setIfInBounds,List.take_add_one,List.take_set_of_le (Nat.le_refl _)];simp [show k<cs.size by simp only[List.length_cons]at hs;omega]
   rw[this];simp
  rw[e]at h1;exact h1
theorem KZ.stores {g:Nat} {L:List Value} (hL:cs=L.toArray) (hz:z.size=L.length) (hg:B<=g) (hB:Bx w g t z∨Bx w g t cs) (x y:Value) (hx:x=.pointer (some ⟨g,0,none⟩)):KZ B t z cs w (w.setCells g 0 L)/\Et B t cs x y (w.setCells g 0 L):=by
 have hb:Below B w (w.setCells g 0 L):=by
  have:∀(vs:List Value) (o:Nat) (w':World),Below B w w'->Below B w (w'.setCells g o vs):=by
   intro vs
   induction vs with
   | nil=>intro o w' h;exact h
   | cons a l ih=>intro o w' h;exact ih _ _ (h.setCell hg _)
  exact this _ _ _ (Below.refl _ _)
 have hn:Bx (w.setCells g 0 L) g t cs:=by
  rw[hL]
  rcases hB with h|h
  · have:=qA L 0 w z h (by omega);simpa using this
  · have:=qA L 0 w cs h (by rw[hL];simp);simpa using this
 have hsz:w.heap.size<=(w.setCells g 0 L).heap.size:=size_setCells _ _ _;exact ⟨KZ.put hg hB hsz hb (fun b e=>iq e _ _ _) hn,g,hx,hg,hn⟩
end Go.Proofs.YtohgjenaclfegaaGreatDoor.RS
namespace Go.Proofs.YtohgjenaclfegaaGreatDoor.RS
open Go.RowKit
variable {t:TypeId} {z cs:Array Value}
def BoZ (g:Nat) (t:TypeId) (cs:Array Value):Rl:=fun _ _ w=>Bx w g t cs
theorem zA {g:Nat}:b_ (KZ g t z cs) (BoZ g t cs):=fun x v w w' h hK=>hK.keep (Nat.le_refl _) h
end Go.Proofs.YtohgjenaclfegaaGreatDoor.RS
namespace Go.Proofs.YtohgjenaclfegaaGreatDoor
open Go.RowKit
structure Fr (B:Nat) (W W':World):Prop where
 size:W.heap.size<=W'.heap.size
 keep:∀b o,B<=b->W.heap[b]? = some o->W'.heap[b]? = some o
theorem Fr.below {B:Nat} {W W':World} (h:Below W.heap.size W W'):Fr B W W':=⟨h.size,fun b o _ ho=>(h.block b (Array.getElem?_eq_some_iff.1 ho).1).trans ho⟩
theorem Fr.trans {B:Nat} {X Y Z:World} (h:Fr B X Y) (k:Fr B Y Z):Fr B X Z:=⟨Nat.le_trans h.size k.size,fun b o hb ho=>k.keep b o hb (h.keep b o hb ho)⟩
theorem Fr.more {B B':Nat} {X Y:World} (h:Fr B X Y) (hB:B<=B'):Fr B' X Y:=⟨h.size,fun b o hb ho=>h.keep b o (Nat.le_trans hB hb) ho⟩
theorem Fr.put {B:Nat} {W:World} {l:Nat} (o:Obj) (hl:l<B):Fr B W (W.putObj l o):=⟨by simp,fun b o' hb ho=>(World.putObj_heap_other (by omega)).trans ho⟩
def Lo {α:Type} (B:Nat) (I:List α->World->Prop):Prop:=∀s X Y,I s X->Below B X Y->I s Y
theorem bF {B l:Nat} {X:World} {o o':Obj} (hl:B<=l) (h:X.heap[l]? = some o):Below B X (X.putObj l o') :=
 ⟨rfl,rfl,rfl,by simp,fun k hk=>World.putObj_heap_other (by omega)⟩
def Ye {α:Type} (n:Nat) (P:Program) (gf:Nat) (lb:Array Value) (encs:α->Array Value) (S:List α->Prop) (N:Nat) (w0:World):Prop :=
 ∀(l:Nat) (J Jx:List α->World->Prop) (W:World),Below w0.heap.size w0 W->Lo W.heap.size J->Lo W.heap.size Jx->(∀s X,J s X->Below w0.heap.size w0 X) ->
  (∀pre x X,J pre X->pre.length<N->YieldAt Fence.wide (n-1) P l (encs x) X fun e Y=>(e=.returned (.bool true)/\J (pre++[x]) Y/\Fr W.heap.size X Y)∨(e=.returned (.bool false)/\Jx (pre++[x]) Y)) ->
  J [] W->CallsIn Fence.wide n P gf (#[.func (.yield l) #[] #[]]++lb) W fun e Y=>(∃v,e=.returned v)/\((∃xs,S xs/\J xs Y)∨∃pre,Jx pre Y)
def bodyC {α:Type} (B:Nat) (I Ix:List α->World->Prop) (xs:List α) (W:World):Exit->Act->World->Prop
 | .normal,_,Y=>Fr B W Y/\I xs Y
 | .ret,_,Y=>Fr B W Y/\Ix xs Y
 | _,_,_=>False
theorem xK {α:Type} {n:Nat} {P:Program} {g:Operand} {ps:Array Tmp} {assign body:Code} {Q:Exit->Act->World->Prop} {a:Act} {w w0:World} (h1:1<=n) {gf:Nat} {lb:Array Value} (hg:a.eval g=.func (.func gf) #[] lb)
 (eg:∀args w,(callFunc gf args).run P w=.ok (.enter gf args) w) {encs:α->Array Value} {S:List α->Prop} {N:Nat} (hseq:Ye (n-1) P gf lb encs S N w0) (hb0:Below w0.heap.size w0 w) (hps:∀x,(encs x).size=ps.size)
 (I Ix:List α->World->Prop) (hI:Lo w.heap.size I) (hIx:Lo w.heap.size Ix) (rV:∀s X,I s X->Below w0.heap.size w0 X) (hz:I [] w) (Ax:α->Act->World->Prop) (hAx:∀x a' X l o o',Ax x a' X->X.heap[l]? = some o->o.isCells=false->Ax x a' (X.putObj l o'))
 (hassign:∀(l:Nat) (x:α) (W:World) (K:Act->World->Prop),(∀a' W',Below W.heap.size W W'->Ax x a' W'->K a' W') ->
  assign.wpIn (Fence.wide.inRound l) (n-1-1) P (Exit.then K (fun _ _ _=>False)) { tmps:=(ps.zip (encs x)).foldl (fun t (p,v)=>t.setIfInBounds p v) a.tmps,defers:=[] } W)
 (hbody:∀(l:Nat) (pre:List α) (x:α) (a':Act) (W:World),I pre W->Ax x a' W->pre.length<N->body.wpIn (Fence.wide.inRound l) (n-1-1) P (bodyC w.heap.size I Ix (pre++[x]) W) a' W)
 (hdone:∀(D:Nat) (xs:List α) (W:World),w.heap.size<=D->S xs->I xs W->W.heap[D]? = some (.deferred (some []))->Q .normal { a with defers:={ target:=.collected D,args:=#[] } :: a.defers } W)
 (hstop:∀(D:Nat) (pre:List α) (W:World),w.heap.size<=D->Ix pre W->W.heap[D]? = some (.deferred (some []))->Code.ret.wpIn Fence.wide n P Q { a with defers:={ target:=.collected D,args:=#[] } :: a.defers } W) :
 (Code.rangeFunc g ps assign body).wpIn Fence.wide n P Q a w:=by
 refine wpIn_rangeFunc fun fn hfn=>?_
 obtain⟨mk,hmk⟩:∃mk:LoopState->Option Code->Loop,mk=fun st pe=>{ state:=st,pending:=pe,fn:=fn,tmps:=a.tmps,params:=ps,assign:=assign,body:=body,defers:=w.heap.size }:=⟨_,rfl⟩
 obtain⟨V,hV⟩:∃V,V=(w.alloc (.deferred (some []))).alloc (.loop (mk .ready none)):=⟨_,rfl⟩
 have IJ:Below w.heap.size w V:=by rw[hV];exact bNew (bNew (aP w) _) _
 have Zz:V.heap.size=w.heap.size+2:=by rw[hV,World.size_alloc,World.size_alloc]
 have Ui:V.heap[w.heap.size+1]? = some (.loop (mk .ready none)):=by
  have h:=World.alloc_heap_new (w.alloc (.deferred (some []))) (.loop (mk .ready none));rw [World.size_alloc]at h;rw [hV];exact h
 have Uj:V.heap[w.heap.size]? = some (.deferred (some [])):=by
  rw[hV];exact (Below.heap_alloc _ _ _ (by rw[World.size_alloc];omega)).trans (World.alloc_heap_new w _)
 refine⟨w.heap.size+1,[{ target:=.collected w.heap.size,args:=#[] }],V,{ target:=.fn (.func gf) lb,args:=#[.func (.yield (w.heap.size+1)) #[] #[]] },V,gf,#[.func (.yield (w.heap.size+1)) #[] #[]]++lb,V,?_,?_,fun _ _=>trivial,?_,fun _=>h1,?_⟩
 · rw[hV,hmk];exact run_enterLoop_outer _ _ _ _ _
 · simp only[resolve,hg];simp [go_sem]
 · simp[invoke,go_sem,eg]
 have two:∀(st:LoopState) (pe:Option Code) (X Y:World),X.heap[w.heap.size+1]? = some (.loop (mk st pe))/\X.heap[w.heap.size]? = some (.deferred (some []))->Below V.heap.size X Y->Y.heap[w.heap.size+1]? = some (.loop (mk st pe))/\Y.heap[w.heap.size]? = some (.deferred (some [])):=fun st pe X Y h hb =>
  ⟨(hb.block _ (by omega)).trans h.1,(hb.block _ (by omega)).trans h.2⟩
 refine (hseq (w.heap.size+1) (fun s X=>I s X/\X.heap[w.heap.size+1]? = some (.loop (mk .ready none))/\X.heap[w.heap.size]? = some (.deferred (some [])))
  (fun s X=>Ix s X/\X.heap[w.heap.size+1]? = some (.loop (mk .done (some .ret)))/\X.heap[w.heap.size]? = some (.deferred (some []))) V (ah hb0 IJ)
  (fun s X Y h hb=>⟨hI s X Y h.1 (hb.mono (by omega)),two _ _ X Y h.2 hb⟩) (fun s X Y h hb=>⟨hIx s X Y h.1 (hb.mono (by omega)),two _ _ X Y h.2 hb⟩) (fun s X h=>rV s X h.1) ?_ ⟨hI _ _ _ hz IJ,Ui,Uj⟩).mono ?_
 · intro pre x X hX hlen;obtain ⟨hi,hl,hd⟩:=hX;have hlt:w.heap.size+1<X.heap.size:=(Array.getElem?_eq_some_iff.1 hl).1;have hy:=run_yield (P:=P) (args:=encs x) hl (by rw[hmk];exact hps x);rw [hmk]at hy;refine ⟨fn,_,assign,body,hy,roundIn_of_wpIn hfn (hassign _ x X _ fun a' X0 hb0 ha0=>⟨_,run_beginRound ((hb0.block _ hlt).trans hl) (by rw[hmk]),?_⟩)⟩;have hf0:Fr V.heap.size X X0:=Fr.below hb0;have hsz0:=hb0.size;replace hi:=hI _ _ _ hi (hb0.mono (by omega));replace hl:=(hb0.block _ hlt).trans hl;replace hd:=(hb0.block _ (show w.heap.size<X.heap.size by omega)).trans hd;replace hlt:w.heap.size+1<X0.heap.size:=by omega
   obtain⟨X1,hX1⟩:∃X1,X1=X0.putObj (w.heap.size+1) (.loop { mk .ready none with state:=.busy }):=⟨_,rfl⟩
   rw[←hX1];have hl1:X1.heap[w.heap.size+1]? = some (.loop { mk .ready none with state:=.busy }):=by rw[hX1];exact World.putObj_heap_same hlt
   have hd1:X1.heap[w.heap.size]? = some (.deferred (some [])):=by rw[hX1];exact (World.putObj_heap_other (by omega)).trans hd
   have hf1:Fr V.heap.size X X1:=by rw[hX1];exact hf0.trans (Fr.put _ (by omega))
   have ha1:Ax x a' X1:=by rw[hX1];exact hAx _ _ _ _ _ _ ha0 hl rfl
   have hi1:I pre X1:=by rw[hX1];exact hI _ _ _ hi (bF (by omega) hl)
   refine wpIn_mono (hbody _ pre x a' X1 hi1 ha1 hlen) ?_
   have fin:∀(jump:Option Code) (Y:World),Fr w.heap.size X1 Y ->
    ∃Z,(Instr.endRound (w.heap.size+1) jump).run P Y=.ok (.bool jump.isNone) Z/\Below w.heap.size Y Z/\Fr V.heap.size X Z/\Z.heap[w.heap.size+1]? = some (.loop (mk (if jump.isNone then .ready else .done) jump))/\Z.heap[w.heap.size]? = some (.deferred (some [])):=fun jump Y hk=>by
    have hl2:=hk.keep _ _ (by omega) hl1;have hd2:=hk.keep _ _ (by omega) hd1;have he:=run_endRound (P:=P) jump hl2;have hlt2:=(Array.getElem?_eq_some_iff.1 hl2).1;refine ⟨_,he,bF (by omega) hl2,(hf1.trans (hk.more (by omega))).trans (Fr.put _ (by omega)),?_,(World.putObj_heap_other (by omega)).trans hd2⟩;rw [World.putObj_heap_same hlt2,hmk]
   rintro e a3 Y hp
   cases e with
   | normal =>
    obtain⟨Z,hr,hbZ,hfZ,vK,vM⟩:=fin none Y hp.1;exact ⟨_,_,hr,.inl ⟨rfl,⟨hI _ _ _ hp.2 hbZ,vK,vM⟩,hfZ⟩⟩
   | ret =>
    obtain⟨Z,hr,hbZ,hfZ,vK,vM⟩:=fin (some .ret) Y hp.1;exact ⟨_,_,hr,.inr ⟨rfl,hIx _ _ _ hp.2 hbZ,vK,vM⟩⟩
   | _=>exact hp.elim
 · rintro e Y ⟨⟨v,rfl⟩,(⟨xs,hS,hi,hl,hd⟩|⟨pre,hi,hl,hd⟩)⟩
   · have hr:=run_endLoop (P:=P) hl (by rw[hmk];simp);refine ⟨none,_,by rw[hr,hmk],hdone _ xs _ (Nat.le_refl _) hS (hI _ _ _ hi (bF (by omega) hl)) ((World.putObj_heap_other (by omega)).trans hd)⟩
   · have hr:=run_endLoop (P:=P) hl (by rw[hmk];simp);refine ⟨some .ret,_,by rw[hr,hmk],hstop _ pre _ (Nat.le_refl _) (hIx _ _ _ hi (bF (by omega) hl)) ((World.putObj_heap_other (by omega)).trans hd)⟩
theorem dG {X:World} {g l:Nat} {t:TypeId} {cs:Array Value} {o o':Obj} (hB:Bx X g t cs) (ho:X.heap[l]? = some o) (hc:o.isCells=false):Bx (X.putObj l o') g t cs:=by
 refine (World.putObj_heap_other ?_).trans hB;rintro rfl;rw [show X.heap[g]? = _ from hB]at ho;cases ho;cases hc
def uU {α:Type} (I:List α->World->Prop):Prop:=∀s X Y,I s X->Below X.heap.size X Y->I s Y
def BI {α:Type} (B:Nat) (I:List α->World->Prop):Prop:=∀s X l o o',I s X->B<=l->X.heap[l]? = some o->o.isCells=false->I s (X.putObj l o')
structure ou (B:Nat) (W W':World):Prop where
 size:W.heap.size<=W'.heap.size
 keep:∀b o,B<=b->W.heap[b]? = some o->o.isCells=false->W'.heap[b]? = some o
theorem ou.below {B:Nat} {W W':World} (h:Below W.heap.size W W'):ou B W W':=⟨h.size,fun b o _ ho _=>(h.block b (Array.getElem?_eq_some_iff.1 ho).1).trans ho⟩
theorem ou.trans {B:Nat} {X Y Z:World} (h:ou B X Y) (k:ou B Y Z):ou B X Z:=⟨Nat.le_trans h.size k.size,fun b o hb ho hc=>k.keep b o hb (h.keep b o hb ho hc) hc⟩
theorem ou.set {B:Nat} {W:World} {g i:Nat} {t:TypeId} {cs:Array Value} {u:Value} (hB:Bx W g t cs):ou B W (W.setCell ⟨g,i,none⟩ u):=⟨by rw[World.size_setCell];exact Nat.le_refl _,fun b o _ ho hc=>by
 refine (Below.heap_setCell W ⟨g,i,none⟩ u b ?_).trans ho;rintro rfl;rw [show W.heap[b]? = _ from hB]at ho
 cases ho;cases hc⟩
def UQ {α:Type} (n:Nat) (P:Program) (gf:Nat) (lb:Array Value) (encs:α->Array Value) (R:List α->α->Prop) (S G:List α->Prop) (v:Nat) (Z Kw:World->Prop):Prop :=
 ∀(l:Nat) (J Jx:List α->World->Prop) (W:World),Kw W->v<W.heap.size->Z W->uU J->uU Jx->(∀s X,J s X->Kw X)->(∀s X,J s X->G s)->(∀s X u,J s X->J s (X.setCell ⟨v,0,none⟩ u)) ->
  (∀pre x X,J pre X->R pre x->YieldAt Fence.wide (n-1) P l (encs x) X fun e Y=>(e=.returned (.bool true)/\J (pre++[x]) Y/\X.heap.size<=Y.heap.size/\Y.heap[v]? = X.heap[v]?)∨(e=.returned (.bool false)/\Jx (pre++[x]) Y)) ->
  J [] W->CallsIn Fence.wide n P gf (#[.func (.yield l) #[] #[]]++lb) W fun e Y=>(∃v,e=.returned v)/\((∃xs,S xs/\J xs Y)∨∃pre,Jx pre Y)
def Nw {α:Type} (B v:Nat) (I:List α->World->Prop) (Ix:Code->List α->World->Prop) (xs:List α) (W:World):Exit->Act->World->Prop
 | .normal,_,Y=>ou B W Y/\I xs Y/\Y.heap[v]? = W.heap[v]?
 | .ret,_,Y=>ou B W Y/\Ix .ret xs Y
 | .exit id,_,Y=>ou B W Y/\Ix (.exit id) xs Y
 | _,_,_=>False
theorem vw {α:Type} {n:Nat} {P:Program} {g:Operand} {ps:Array Tmp} {assign body:Code} {Q:Exit->Act->World->Prop} {a:Act} {w:World} {Kw:World->Prop} (h1:1<=n) {gf:Nat} {lb:Array Value} (hg:a.eval g=.func (.func gf) #[] lb)
 (eg:∀args w,(callFunc gf args).run P w=.ok (.enter gf args) w) {encs:α->Array Value} {R:List α->α->Prop} {S G:List α->Prop} {v:Nat} {Z:World->Prop} (hseq:UQ (n-1) P gf lb encs R S G v Z Kw) (hv:v<w.heap.size) (hZ:∀X,Below w.heap.size w X->Z X) (hb0:∀X,Below w.heap.size w X->Kw X) (hps:∀x,(encs x).size=ps.size)
 (I:List α->World->Prop) (Ix:Code->List α->World->Prop) (hI:uU I) (yE:BI w.heap.size I) (hIx:∀c,uU (Ix c)) (kD:∀c,BI w.heap.size (Ix c)) (rV:∀s X,I s X->Kw X) (hG:∀s X,I s X->G s) (hIv:∀s X u,I s X->I s (X.setCell ⟨v,0,none⟩ u)) (hz:I [] w) (Ax:α->Act->World->Prop) (hAx:∀x a' X l o o',Ax x a' X->X.heap[l]? = some o->o.isCells=false->Ax x a' (X.putObj l o'))
 (hassign:∀(l:Nat) (x:α) (W:World) (K:Act->World->Prop),(∀a' W',Below W.heap.size W W'->Ax x a' W'->K a' W') ->
  assign.wpIn (Fence.wide.inRound l) (n-1-1) P (Exit.then K (fun _ _ _=>False)) { tmps:=(ps.zip (encs x)).foldl (fun t (p,v)=>t.setIfInBounds p v) a.tmps,defers:=[] } W)
 (hbody:∀(l:Nat) (pre:List α) (x:α) (a':Act) (W:World),I pre W->Ax x a' W->R pre x->body.wpIn (Fence.wide.inRound l) (n-1-1) P (Nw w.heap.size v I Ix (pre++[x]) W) a' W)
 (hdone:∀(D:Nat) (xs:List α) (W:World),w.heap.size<=D->S xs->I xs W->W.heap[D]? = some (.deferred (some []))->Q .normal { a with defers:={ target:=.collected D,args:=#[] } :: a.defers } W)
 (hstop:∀(D:Nat) (c:Code) (pre:List α) (W:World),w.heap.size<=D->Ix c pre W->W.heap[D]? = some (.deferred (some []))->c.wpIn Fence.wide n P Q { a with defers:={ target:=.collected D,args:=#[] } :: a.defers } W) :
 (Code.rangeFunc g ps assign body).wpIn Fence.wide n P Q a w:=by
 refine wpIn_rangeFunc fun fn hfn=>?_
 obtain⟨mk,hmk⟩:∃mk:LoopState->Option Code->Loop,mk=fun st pe=>{ state:=st,pending:=pe,fn:=fn,tmps:=a.tmps,params:=ps,assign:=assign,body:=body,defers:=w.heap.size }:=⟨_,rfl⟩
 obtain⟨V,hV⟩:∃V,V=(w.alloc (.deferred (some []))).alloc (.loop (mk .ready none)):=⟨_,rfl⟩
 have IJ:Below w.heap.size w V:=by rw[hV];exact bNew (bNew (aP w) _) _
 have Zz:V.heap.size=w.heap.size+2:=by rw[hV,World.size_alloc,World.size_alloc]
 have Ui:V.heap[w.heap.size+1]? = some (.loop (mk .ready none)):=by
  have h:=World.alloc_heap_new (w.alloc (.deferred (some []))) (.loop (mk .ready none));rw [World.size_alloc]at h;rw [hV];exact h
 have Uj:V.heap[w.heap.size]? = some (.deferred (some [])):=by
  rw[hV];exact (Below.heap_alloc _ _ _ (by rw[World.size_alloc];omega)).trans (World.alloc_heap_new w _)
 refine⟨w.heap.size+1,[{ target:=.collected w.heap.size,args:=#[] }],V,{ target:=.fn (.func gf) lb,args:=#[.func (.yield (w.heap.size+1)) #[] #[]] },V,gf,#[.func (.yield (w.heap.size+1)) #[] #[]]++lb,V,?_,?_,fun _ _=>trivial,?_,fun _=>h1,?_⟩
 · rw[hV,hmk];exact run_enterLoop_outer _ _ _ _ _
 · simp only[resolve,hg];simp [go_sem]
 · simp[invoke,go_sem,eg]
 have two:∀(st:LoopState) (pe:Option Code) (X Y:World),X.heap[w.heap.size+1]? = some (.loop (mk st pe))/\X.heap[w.heap.size]? = some (.deferred (some []))->Below X.heap.size X Y->Y.heap[w.heap.size+1]? = some (.loop (mk st pe))/\Y.heap[w.heap.size]? = some (.deferred (some [])):=fun st pe X Y h hb =>
  ⟨(hb.block _ (Array.getElem?_eq_some_iff.1 h.1).1).trans h.1,(hb.block _ (Array.getElem?_eq_some_iff.1 h.2).1).trans h.2⟩
 refine (hseq (w.heap.size+1) (fun s X=>I s X/\X.heap[w.heap.size+1]? = some (.loop (mk .ready none))/\X.heap[w.heap.size]? = some (.deferred (some [])))
  (fun s X=>∃c,Ix c s X/\X.heap[w.heap.size+1]? = some (.loop (mk .done (some c)))/\X.heap[w.heap.size]? = some (.deferred (some []))) V (hb0 V IJ) (by omega) (hZ V IJ)
  (fun s X Y h hb=>⟨hI s X Y h.1 hb,two _ _ X Y h.2 hb⟩) (fun s X Y ⟨c,h,h2⟩ hb=>⟨c,hIx c s X Y h hb,two _ _ X Y h2 hb⟩) (fun s X h=>rV s X h.1) (fun s X h=>hG s X h.1) (fun s X u h=>⟨hIv s X u h.1,(Below.heap_setCell X ⟨v,0,none⟩ u _ (by show _≠v;omega)).trans h.2.1,(Below.heap_setCell X ⟨v,0,none⟩ u _ (by show _≠v;omega)).trans h.2.2⟩) ?_ ⟨hI _ _ _ hz IJ,Ui,Uj⟩).mono ?_
 · intro pre x X hX hlen;obtain ⟨hi,hl,hd⟩:=hX;have hlt:w.heap.size+1<X.heap.size:=(Array.getElem?_eq_some_iff.1 hl).1;have Wy:=hlt;have hy:=run_yield (P:=P) (args:=encs x) hl (by rw[hmk];exact hps x);rw [hmk]at hy;refine ⟨fn,_,assign,body,hy,roundIn_of_wpIn hfn (hassign _ x X _ fun a' X0 hb0 ha0=>⟨_,run_beginRound ((hb0.block _ hlt).trans hl) (by rw[hmk]),?_⟩)⟩;have hsz0:=hb0.size;replace hi:=hI _ _ _ hi hb0;replace hl:=(hb0.block _ hlt).trans hl;replace hd:=(hb0.block _ (show w.heap.size<X.heap.size by omega)).trans hd;replace hlt:w.heap.size+1<X0.heap.size:=by omega
   obtain⟨X1,hX1⟩:∃X1,X1=X0.putObj (w.heap.size+1) (.loop { mk .ready none with state:=.busy }):=⟨_,rfl⟩
   rw[←hX1];have hl1:X1.heap[w.heap.size+1]? = some (.loop { mk .ready none with state:=.busy }):=by rw[hX1];exact World.putObj_heap_same hlt
   have hd1:X1.heap[w.heap.size]? = some (.deferred (some [])):=by rw[hX1];exact (World.putObj_heap_other (by omega)).trans hd
   have hs1:X.heap.size<=X1.heap.size:=by rw[hX1];simp;exact hsz0
   have ha1:Ax x a' X1:=by rw[hX1];exact hAx _ _ _ _ _ _ ha0 hl rfl
   have hi1:I pre X1:=by rw[hX1];exact yE _ _ _ _ _ hi (by omega) hl rfl
   refine wpIn_mono (hbody _ pre x a' X1 hi1 ha1 hlen) ?_
   have fin:∀(jump:Option Code) (Y:World),ou w.heap.size X1 Y ->
    ∃o o',Y.heap[w.heap.size+1]? = some o/\o.isCells=false/\(Instr.endRound (w.heap.size+1) jump).run P Y=.ok (.bool jump.isNone) (Y.putObj (w.heap.size+1) o')/\(Y.putObj (w.heap.size+1) o').heap[w.heap.size+1]? = some (.loop (mk (if jump.isNone then .ready else .done) jump))/\(Y.putObj (w.heap.size+1) o').heap[w.heap.size]? = some (.deferred (some [])):=fun jump Y hk=>by
    have hl2:=hk.keep _ _ (by omega) hl1 rfl;have hd2:=hk.keep _ _ (by omega) hd1 rfl;have he:=run_endRound (P:=P) jump hl2;have hlt2:=(Array.getElem?_eq_some_iff.1 hl2).1;refine ⟨_,_,hl2,rfl,he,?_,(World.putObj_heap_other (by omega)).trans hd2⟩;rw [World.putObj_heap_same hlt2,hmk]
   have hv1:X1.heap[v]? = X.heap[v]? := by rw[hX1];exact (World.putObj_heap_other (show v≠w.heap.size+1 by omega)).trans (hb0.block v (by omega))
   rintro e a3 Y hp
   cases e with
   | normal =>
    obtain⟨o,o',h1',h2',hr,vK,vM⟩:=fin none Y hp.1;refine ⟨_,_,hr,.inl ⟨rfl,⟨yE _ _ _ _ _ hp.2.1 (by omega) h1' h2',vK,vM⟩,?_,?_⟩⟩
    · have:=hp.1.size;simp;omega
    · exact (World.putObj_heap_other (show v≠w.heap.size+1 by omega)).trans (hp.2.2.trans hv1)
   | ret =>
    obtain⟨o,o',h1',h2',hr,vK,vM⟩:=fin (some .ret) Y hp.1;exact ⟨_,_,hr,.inr ⟨rfl,_,kD _ _ _ _ _ _ hp.2 (by omega) h1' h2',vK,vM⟩⟩
   | exit id =>
    obtain⟨o,o',h1',h2',hr,vK,vM⟩:=fin (some (.exit id)) Y hp.1;exact ⟨_,_,hr,.inr ⟨rfl,_,kD _ _ _ _ _ _ hp.2 (by omega) h1' h2',vK,vM⟩⟩
   | _=>exact hp.elim
 · rintro e Y ⟨⟨v,rfl⟩,(⟨xs,hS,hi,hl,hd⟩|⟨pre,c,hi,hl,hd⟩)⟩
   · have hr:=run_endLoop (P:=P) hl (by rw[hmk];simp);refine ⟨none,_,by rw[hr,hmk],hdone _ xs _ (Nat.le_refl _) hS (yE _ _ _ _ _ hi (by omega) hl rfl) ((World.putObj_heap_other (by omega)).trans hd)⟩
   · have hr:=run_endLoop (P:=P) hl (by rw[hmk];simp);refine ⟨some c,_,by rw[hr,hmk],hstop _ c pre _ (Nat.le_refl _) (kD _ _ _ _ _ _ hi (by omega) hl rfl) ((World.putObj_heap_other (by omega)).trans hd)⟩
def Iy {α:Type} (n:Nat) (P:Program) (gf:Nat) (lb:Array Value) (encs:α->Array Value) (R:List α->α->Prop) (S G:List α->Prop) (Kw:World->Prop):Prop :=
 ∀(l:Nat) (J Jx:List α->World->Prop) (W:World),Kw W->uU J->uU Jx->(∀s X,J s X->Kw X)->(∀s X,J s X->G s) ->
  (∀pre x X,J pre X->R pre x->YieldAt Fence.wide (n-1) P l (encs x) X fun e Y=>(e=.returned (.bool true)/\J (pre++[x]) Y/\X.heap.size<=Y.heap.size)∨(e=.returned (.bool false)/\Jx (pre++[x]) Y)) ->
  J [] W->CallsIn Fence.wide n P gf (#[.func (.yield l) #[] #[]]++lb) W fun e Y=>(∃v,e=.returned v)/\((∃xs,S xs/\J xs Y)∨∃pre,Jx pre Y)
def Ny {α:Type} (B:Nat) (I:List α->World->Prop) (Ix:Code->List α->World->Prop) (xs:List α) (W:World):Exit->Act->World->Prop
 | .normal,_,Y=>ou B W Y/\I xs Y
 | .ret,_,Y=>ou B W Y/\Ix .ret xs Y
 | .exit id,_,Y=>ou B W Y/\Ix (.exit id) xs Y
 | _,_,_=>False
theorem nI {α:Type} {n:Nat} {P:Program} {g:Operand} {ps:Array Tmp} {assign body:Code} {Q:Exit->Act->World->Prop} {a:Act} {w:World} {Kw:World->Prop} (h1:1<=n) {gf:Nat} {lb:Array Value} (hg:a.eval g=.func (.func gf) #[] lb)
 (eg:∀args w,(callFunc gf args).run P w=.ok (.enter gf args) w) {encs:α->Array Value} {R:List α->α->Prop} {S G:List α->Prop} (hseq:Iy (n-1) P gf lb encs R S G Kw) (hb0:∀X,Below w.heap.size w X->Kw X) (hps:∀x,(encs x).size=ps.size)
 (I:List α->World->Prop) (Ix:Code->List α->World->Prop) (hI:uU I) (yE:BI w.heap.size I) (hIx:∀c,uU (Ix c)) (kD:∀c,BI w.heap.size (Ix c)) (rV:∀s X,I s X->Kw X) (hG:∀s X,I s X->G s) (hz:I [] w) (Ax:α->Act->World->Prop) (hAx:∀x a' X l o o',Ax x a' X->X.heap[l]? = some o->o.isCells=false->Ax x a' (X.putObj l o'))
 (hassign:∀(l:Nat) (x:α) (W:World) (K:Act->World->Prop),(∀a' W',Below W.heap.size W W'->Ax x a' W'->K a' W') ->
  assign.wpIn (Fence.wide.inRound l) (n-1-1) P (Exit.then K (fun _ _ _=>False)) { tmps:=(ps.zip (encs x)).foldl (fun t (p,v)=>t.setIfInBounds p v) a.tmps,defers:=[] } W)
 (hbody:∀(l:Nat) (pre:List α) (x:α) (a':Act) (W:World),I pre W->Ax x a' W->R pre x->body.wpIn (Fence.wide.inRound l) (n-1-1) P (Ny w.heap.size I Ix (pre++[x]) W) a' W)
 (hdone:∀(D:Nat) (xs:List α) (W:World),w.heap.size<=D->S xs->I xs W->W.heap[D]? = some (.deferred (some []))->Q .normal { a with defers:={ target:=.collected D,args:=#[] } :: a.defers } W)
 (hstop:∀(D:Nat) (c:Code) (pre:List α) (W:World),w.heap.size<=D->Ix c pre W->W.heap[D]? = some (.deferred (some []))->c.wpIn Fence.wide n P Q { a with defers:={ target:=.collected D,args:=#[] } :: a.defers } W) :
 (Code.rangeFunc g ps assign body).wpIn Fence.wide n P Q a w:=by
 refine wpIn_rangeFunc fun fn hfn=>?_
 obtain⟨mk,hmk⟩:∃mk:LoopState->Option Code->Loop,mk=fun st pe=>{ state:=st,pending:=pe,fn:=fn,tmps:=a.tmps,params:=ps,assign:=assign,body:=body,defers:=w.heap.size }:=⟨_,rfl⟩
 obtain⟨V,hV⟩:∃V,V=(w.alloc (.deferred (some []))).alloc (.loop (mk .ready none)):=⟨_,rfl⟩
 have IJ:Below w.heap.size w V:=by rw[hV];exact bNew (bNew (aP w) _) _
 have Zz:V.heap.size=w.heap.size+2:=by rw[hV,World.size_alloc,World.size_alloc]
 have Ui:V.heap[w.heap.size+1]? = some (.loop (mk .ready none)):=by
  have h:=World.alloc_heap_new (w.alloc (.deferred (some []))) (.loop (mk .ready none));rw [World.size_alloc]at h;rw [hV];exact h
 have Uj:V.heap[w.heap.size]? = some (.deferred (some [])):=by
  rw[hV];exact (Below.heap_alloc _ _ _ (by rw[World.size_alloc];omega)).trans (World.alloc_heap_new w _)
 refine⟨w.heap.size+1,[{ target:=.collected w.heap.size,args:=#[] }],V,{ target:=.fn (.func gf) lb,args:=#[.func (.yield (w.heap.size+1)) #[] #[]] },V,gf,#[.func (.yield (w.heap.size+1)) #[] #[]]++lb,V,?_,?_,fun _ _=>trivial,?_,fun _=>h1,?_⟩
 · rw[hV,hmk];exact run_enterLoop_outer _ _ _ _ _
 · simp only[resolve,hg];simp [go_sem]
 · simp[invoke,go_sem,eg]
 have two:∀(st:LoopState) (pe:Option Code) (X Y:World),X.heap[w.heap.size+1]? = some (.loop (mk st pe))/\X.heap[w.heap.size]? = some (.deferred (some []))->Below X.heap.size X Y->Y.heap[w.heap.size+1]? = some (.loop (mk st pe))/\Y.heap[w.heap.size]? = some (.deferred (some [])):=fun st pe X Y h hb =>
  ⟨(hb.block _ (Array.getElem?_eq_some_iff.1 h.1).1).trans h.1,(hb.block _ (Array.getElem?_eq_some_iff.1 h.2).1).trans h.2⟩
 refine (hseq (w.heap.size+1) (fun s X=>I s X/\X.heap[w.heap.size+1]? = some (.loop (mk .ready none))/\X.heap[w.heap.size]? = some (.deferred (some [])))
  (fun s X=>∃c,Ix c s X/\X.heap[w.heap.size+1]? = some (.loop (mk .done (some c)))/\X.heap[w.heap.size]? = some (.deferred (some []))) V (hb0 V IJ)
  (fun s X Y h hb=>⟨hI s X Y h.1 hb,two _ _ X Y h.2 hb⟩) (fun s X Y ⟨c,h,h2⟩ hb=>⟨c,hIx c s X Y h hb,two _ _ X Y h2 hb⟩) (fun s X h=>rV s X h.1) (fun s X h=>hG s X h.1) ?_ ⟨hI _ _ _ hz IJ,Ui,Uj⟩).mono ?_
 · intro pre x X hX hlen;obtain ⟨hi,hl,hd⟩:=hX;have hlt:w.heap.size+1<X.heap.size:=(Array.getElem?_eq_some_iff.1 hl).1;have Wy:=hlt;have hy:=run_yield (P:=P) (args:=encs x) hl (by rw[hmk];exact hps x);rw [hmk]at hy;refine ⟨fn,_,assign,body,hy,roundIn_of_wpIn hfn (hassign _ x X _ fun a' X0 hb0 ha0=>⟨_,run_beginRound ((hb0.block _ hlt).trans hl) (by rw[hmk]),?_⟩)⟩;have hsz0:=hb0.size;replace hi:=hI _ _ _ hi hb0;replace hl:=(hb0.block _ hlt).trans hl;replace hd:=(hb0.block _ (show w.heap.size<X.heap.size by omega)).trans hd;replace hlt:w.heap.size+1<X0.heap.size:=by omega
   obtain⟨X1,hX1⟩:∃X1,X1=X0.putObj (w.heap.size+1) (.loop { mk .ready none with state:=.busy }):=⟨_,rfl⟩
   rw[←hX1];have hl1:X1.heap[w.heap.size+1]? = some (.loop { mk .ready none with state:=.busy }):=by rw[hX1];exact World.putObj_heap_same hlt
   have hd1:X1.heap[w.heap.size]? = some (.deferred (some [])):=by rw[hX1];exact (World.putObj_heap_other (by omega)).trans hd
   have hs1:X.heap.size<=X1.heap.size:=by rw[hX1];simp;exact hsz0
   have ha1:Ax x a' X1:=by rw[hX1];exact hAx _ _ _ _ _ _ ha0 hl rfl
   have hi1:I pre X1:=by rw[hX1];exact yE _ _ _ _ _ hi (by omega) hl rfl
   refine wpIn_mono (hbody _ pre x a' X1 hi1 ha1 hlen) ?_
   have fin:∀(jump:Option Code) (Y:World),ou w.heap.size X1 Y ->
    ∃o o',Y.heap[w.heap.size+1]? = some o/\o.isCells=false/\(Instr.endRound (w.heap.size+1) jump).run P Y=.ok (.bool jump.isNone) (Y.putObj (w.heap.size+1) o')/\(Y.putObj (w.heap.size+1) o').heap[w.heap.size+1]? = some (.loop (mk (if jump.isNone then .ready else .done) jump))/\(Y.putObj (w.heap.size+1) o').heap[w.heap.size]? = some (.deferred (some [])):=fun jump Y hk=>by
    have hl2:=hk.keep _ _ (by omega) hl1 rfl;have hd2:=hk.keep _ _ (by omega) hd1 rfl;have he:=run_endRound (P:=P) jump hl2;have hlt2:=(Array.getElem?_eq_some_iff.1 hl2).1;refine ⟨_,_,hl2,rfl,he,?_,(World.putObj_heap_other (by omega)).trans hd2⟩;rw [World.putObj_heap_same hlt2,hmk]
   rintro e a3 Y hp
   cases e with
   | normal =>
    obtain⟨o,o',h1',h2',hr,vK,vM⟩:=fin none Y hp.1;refine ⟨_,_,hr,.inl ⟨rfl,⟨yE _ _ _ _ _ hp.2 (by omega) h1' h2',vK,vM⟩,?_⟩⟩;have:=hp.1.size;simp;omega
   | ret =>
    obtain⟨o,o',h1',h2',hr,vK,vM⟩:=fin (some .ret) Y hp.1;exact ⟨_,_,hr,.inr ⟨rfl,_,kD _ _ _ _ _ _ hp.2 (by omega) h1' h2',vK,vM⟩⟩
   | exit id =>
    obtain⟨o,o',h1',h2',hr,vK,vM⟩:=fin (some (.exit id)) Y hp.1;exact ⟨_,_,hr,.inr ⟨rfl,_,kD _ _ _ _ _ _ hp.2 (by omega) h1' h2',vK,vM⟩⟩
   | _=>exact hp.elim
 · rintro e Y ⟨⟨v,rfl⟩,(⟨xs,hS,hi,hl,hd⟩|⟨pre,c,hi,hl,hd⟩)⟩
   · have hr:=run_endLoop (P:=P) hl (by rw[hmk];simp);refine ⟨none,_,by rw[hr,hmk],hdone _ xs _ (Nat.le_refl _) hS (yE _ _ _ _ _ hi (by omega) hl rfl) ((World.putObj_heap_other (by omega)).trans hd)⟩
   · have hr:=run_endLoop (P:=P) hl (by rw[hmk];simp);refine ⟨some c,_,by rw[hr,hmk],hstop _ c pre _ (Nat.le_refl _) (kD _ _ _ _ _ _ hi (by omega) hl rfl) ((World.putObj_heap_other (by omega)).trans hd)⟩
theorem vg {α:Type} {n:Nat} {P:Program} {g:Operand} {ps:Array Tmp} {assign body:Code} {Q:Exit->Act->World->Prop} {a:Act} {w:World} {Kw:World->Prop} (h1:1<=n) {gf:Nat} {lb:Array Value} (hg:a.eval g=.func (.func gf) #[] lb)
 (eg:∀args w,(callFunc gf args).run P w=.ok (.enter gf args) w) {encs:α->Array Value} {R:List α->α->Prop} {S G:List α->Prop} (hseq:Iy (n-1) P gf lb encs R S G Kw) (hb0:∀X,Below w.heap.size w X->Kw X) (hps:∀x,(encs x).size=ps.size)
 (I:List α->World->Prop) (Ix:Code->List α->World->Prop) (hI:uU I) (yE:BI w.heap.size I) (hIx:∀c,uU (Ix c)) (kD:∀c,BI w.heap.size (Ix c)) (rV:∀s X,I s X->Kw X) (hG:∀s X,I s X->G s) (hz:I [] w) (tb:Tmp) (val:α->Value)
 (hassign:∀(l:Nat) (x:α) (W:World) (K:Act->World->Prop),K { tmps:=((ps.zip (encs x)).foldl (fun t (p,v)=>t.setIfInBounds p v) a.tmps).setIfInBounds tb (val x),defers:=[] } W ->
  assign.wpIn (Fence.wide.inRound l) (n-1-1) P (Exit.then K (fun _ _ _=>False)) { tmps:=(ps.zip (encs x)).foldl (fun t (p,v)=>t.setIfInBounds p v) a.tmps,defers:=[] } W)
 (hbody:∀(l:Nat) (pre:List α) (x:α) (W:World),I pre W->R pre x->body.wpIn (Fence.wide.inRound l) (n-1-1) P (Ny w.heap.size I Ix (pre++[x]) W) { tmps:=((ps.zip (encs x)).foldl (fun t (p,v)=>t.setIfInBounds p v) a.tmps).setIfInBounds tb (val x),defers:=[] } W)
 (hdone:∀(D:Nat) (xs:List α) (W:World),w.heap.size<=D->S xs->I xs W->W.heap[D]? = some (.deferred (some []))->Q .normal { a with defers:={ target:=.collected D,args:=#[] } :: a.defers } W)
 (hstop:∀(D:Nat) (c:Code) (pre:List α) (W:World),w.heap.size<=D->Ix c pre W->W.heap[D]? = some (.deferred (some []))->c.wpIn Fence.wide n P Q { a with defers:={ target:=.collected D,args:=#[] } :: a.defers } W) :
 (Code.rangeFunc g ps assign body).wpIn Fence.wide n P Q a w :=
 nI h1 hg eg hseq hb0 hps I Ix hI yE hIx kD rV hG hz
  (fun x a' X=>a'={ tmps:=((ps.zip (encs x)).foldl (fun t (p,v)=>t.setIfInBounds p v) a.tmps).setIfInBounds tb (val x),defers:=[] })
  (fun x a' X l o o' h _ _=>h)
  (fun l x W K hK=>hassign l x W K (hK _ _ (Below.refl _ _) rfl))
  (fun l pre x a' W hi h hR=>by subst h;exact hbody l pre x W hi hR)
  hdone hstop
end Go.Proofs.YtohgjenaclfegaaGreatDoor

import Derived.Test.YtelljijajgiabaaGreatDoorQ28
set_option linter.unusedVariables false
set_option linter.unusedSimpArgs false
set_option maxRecDepth 100000
set_option maxHeartbeats 8000000
namespace Go.Proofs.YtelljijajgiabaaGreatDoor
def bnd (e p:Int):Tf.Pr:=iy (Rat.divInt p e)
theorem Tn {c e p:Int} (h1:1<=e) (h2:e<=1000) (hc:c<=e) (p0:0<=p) (p1:p<=c):rF c e (bnd e p) :=
 ⟨_,Eo (nS.2 ⟨h1,h2,p0,by omega⟩),rfl,(Tf.QA p0 (by omega) h1).1,by rw[Tb.wL (by omega)];exact p1⟩
theorem U_ {c e:Int} {p:Tf.Pr} (h:rF c e p):p.1.length<=9223372036854775807/\p.2.length<=9223372036854775807:=by
 obtain⟨q,hq,rfl,-⟩:=h;have h1:=aV hq.num;have h2:=aV hq.den;exact ⟨Nat.le_trans h1 (by decide),Nat.le_trans h2 (by decide)⟩
theorem OW {c e:Int} {r:Tf.Ru} {l:List Tf.Ho} (h:Tf.Va (rF c e) r l):∀g∈l,Oy g:=fun g hg=>U_ (h.fm g hg).b
structure HRd (r:Tf.Ru) (x:List Tf.X4) (k:Nat) (l:List Tf.Ho) (last:Int) (y:Tf.X4) (F D:Int):Prop where
 nf:Tf.nf r l (5+Tp.pick y.a 3) (last+Tp.pick y.b 8)=F
 d:D=if Tp.pick y.c 3=0 then 0 else F+Tp.pick y.d (r.lo+3)
 gen:Tf.xg (bnd r.e) r (x.take (k+1))=(l++[⟨5+Tp.pick y.a 3,F,bnd r.e (Tp.pick (y.b.tdiv 8) (r.c+1)),Tp.pick y.c 3,D⟩],F)
 va:sH r (l++[⟨5+Tp.pick y.a 3,F,bnd r.e (Tp.pick (y.b.tdiv 8) (r.c+1)),Tp.pick y.c 3,D⟩])=true
 hol:∀g∈l++[⟨5+Tp.pick y.a 3,F,bnd r.e (Tp.pick (y.b.tdiv 8) (r.c+1)),Tp.pick y.c 3,D⟩],Oy g
 l0:0<=last
 l2:last<=336
 len:l.length=k
 nfb:∀j,last+Tp.pick y.b 8<=Tf.nf r (l.take j) (5+Tp.pick y.a 3) (last+Tp.pick y.b 8)/\Tf.nf r (l.take j) (5+Tp.pick y.a 3) (last+Tp.pick y.b 8)<=last+40
 fb:∀h∈l,0<=h.f/\h.f<=384/\0<=Tf.fin r h/\Tf.fin r h<=404
theorem GU {r:Tf.Ru} (hok:Tf.BJ r) (hlo:r.lo<=20) (hre:r.re<=20) (x:List Tf.X4) (k:Nat) (hk:k<x.length) (h8:k<8) (l:List Tf.Ho) (last:Int) (hgen:Tf.xg (bnd r.e) r (x.take k)=(l,last)) :
 ∃F D:Int,HRd r x k l last x[k] F D:=by
 have hB:∀p,0<=p->p<=r.c->rF r.c r.e (bnd r.e p):=fun p p0 p1=>Tn hok.e1 hok.e2 hok.ce p0 p1
 have hG:=Tf.EF hok hlo hre hB x k (by omega) (by omega);rw [hgen]at hG;have hS:=hG.step hok hlo hre hB h8 x[k]
 have hsn:Tf.xg (bnd r.e) r (x.take (k+1))=Tf.FP (bnd r.e) r (l,last) x[k]:=by
  rw[List.take_add_one,List.getElem?_eq_getElem hk,Option.toList_some,Tf.Dq,hgen]
 have va:=hG.va;have hlen:=hG.len;have hl0:=hG.l0;have hl2:=hG.l2;have hle:=hG.le;dsimp only at va hlen hl0 hl2 hle;have hsp:=va.sp (by have:=hok.l1;omega)
 have fb:∀h∈l,0<=h.f/\h.f<=384/\0<=Tf.fin r h/\Tf.fin r h<=404:=fun h hh=>by
  have a:=(va.fm h hh).f0;have b:=hle h hh;obtain ⟨s1,s2⟩:=hsp h hh;omega
 have p2:=Tp.aZ (x[k]).b (show (0:Int)<8 by decide);refine ⟨_,_,rfl,rfl,hsn,l7 ⟨hok,hS.va⟩,OW hS.va,hl0,by omega,hlen,fun j=>⟨Tf.Qj _ _ _ _,Tf.WB (by omega) fun g hg=>?_⟩,fb⟩;have hg':=List.mem_of_mem_take hg;have:=(hsp g hg').2;have:=hle g hg';omega
theorem UY (r:Tf.Ru) (l:List Tf.Ho) (n f:Int) {j:Nat} (hj:j<l.length):Tf.nf r (l.take (j+1)) n f=if l[j].n=n then max (Tf.nf r (l.take j) n f) (Tf.fin r l[j]+r.re) else Tf.nf r (l.take j) n f:=by
 rw[List.take_add_one,List.getElem?_eq_getElem hj,Option.toList_some,Tf.UZ]
theorem tZ {r:Tf.Ru} (hok:Tf.BJ r) (hlo:r.lo<=20) (hre:r.re<=20) (x:List Tf.X4):Tf.Made (rF r.c r.e) r (Tf.xg (bnd r.e) r (x.take 8)).1:=by
 have hB:∀p,0<=p->p<=r.c->rF r.c r.e (bnd r.e p):=fun p p0 p1=>Tn hok.e1 hok.e2 hok.ce p0 p1
 have h:=Tf.EF hok hlo hre hB x (min 8 x.length) (by omega) (by omega)
 have e:x.take 8=x.take (min 8 x.length):=by
  rcases Nat.le_total x.length 8 with h1|h1
  · rw[Nat.min_eq_right h1,List.take_length,List.take_of_length_le h1]
  · rw[Nat.min_eq_left h1]
 rw[e];exact h.made hok (by omega)
open Go.RowKit
def IW (B:Nat) (e:TypeId):RS.Rl:=fun _ v w=>∃g,v=.slice (some ⟨g,0,none⟩) 0 0/\B<=g/\Bx w g e #[]
theorem nZ {B:Nat} {e:TypeId} {pos:Nat} {news:List Value}:RS.eP (KH B e pos news) (IW B e):=fun x v w w' ⟨g,e1,hg,hB⟩ hK=>by
 obtain⟨c',h1,h2,-⟩:=hK.2.2 g _ hg hB;have:c'=#[]:=Array.eq_empty_of_size_eq_zero h2;rw [this]at h1;exact ⟨g,e1,hg,h1⟩
theorem rP {B:Nat} {e:TypeId} (w:World) (hB:B<=w.heap.size) (x:Value):IW B e x (.slice (some ⟨w.heap.size,0,none⟩) 0 0) (w.alloc (.cells #[] e)):=⟨_,rfl,hB,Bx.mk w e #[]⟩
theorem lg {P:Program} {w:World} {ops:Array Oper} {rest:List Oper} {o:Oper} {a:Act} {Q:Exit->Act->World->Prop} (hgd:o.guard=none) (s y:Operand) (t e:TypeId) (ho:o.op=.call { callee:=.builtin .append,args:=#[s,y],argTypes:=#[t,t] })
 (i:TypeInfo) (z:Value) (size B m:Nat) (news:List Value) (v x q:Value) (ht:P.underlying t=some (.slice e)) (hi:P.info? e=some i) (hz:i.zero=some z)
 (hsize:i.size=size) (hzs:z.cells.size=size) (hes:a.eval s=v) (EC:a.eval y=x) (hv:IW B e q v w) (hB:B<=w.heap.size) (hs:Src P size t x m news w) (h63:m<=maxLen) (hb:m*i.bytes<=140737488355328)
 (h:∀v' w',Below w.heap.size w w'->bD e size B m news v' w'->wpList P ops Q rest (a.put o.dst v') w'):wpList P ops Q (o :: rest) a w:=by
 obtain⟨g,rfl,hg,hbx⟩:=hv;obtain ⟨v',w',cap',hr,h1,h2,h3,h4⟩:=pX (P:=P) w t o.type e i z size B 0 0 m [] news (.slice (some ⟨g,0,none⟩) 0 0) x ht hi hz hsize hzs ⟨g,#[],rfl,hg,Nat.le_refl _,hbx,by simp,by simp⟩ hB hs (Nat.zero_le _) (by omega) (by rw[Nat.zero_add];exact hb);rw [Nat.zero_add,List.nil_append]at h3;refine wpList_plain hgd fun _ hK=>?_
 unfold Oper.wp execOp
 simp only[ho,resolve,invoke,builtin,Sem.run_bind,Sem.run_pure,Result.andThen_ok,List.map_toArray,List.map_cons,List.map_nil,hes,EC,hr];exact hK _ _ (h v' w' (h2 rfl) (.inr ⟨cap',h3,h4⟩))
theorem Fz {P:Program} {w w':World} {ops:Array Oper} {rest:List Oper} {o:Oper} {a:Act} {Q:Exit->Act->World->Prop} {v:Value} {s:Sem Value} (hgd:o.guard=none) (ho:execOp a.eval o=(do pure (.value (←s)))) (hr:s.run P w=.ok v w') (h:wpList P ops Q rest (a.put o.dst v) w'):wpList P ops Q (o :: rest) a w:=by
 refine wpList_plain hgd fun _ hK=>?_
 unfold Oper.wp
 rw[ho];simp only[Sem.run_bind,hr,Result.andThen_ok,Sem.run_pure];exact hK _ _ h
theorem rH {P:Program} {w:World} {ops:Array Oper} {rest:List Oper} {o:Oper} {a:Act} {Q:Exit->Act->World->Prop} {v:Value} (hgd:o.guard=none) (ho:execOp a.eval o=pure (.value v)) (h:wpList P ops Q rest (a.put o.dst v) w):wpList P ops Q (o :: rest) a w:=by
 refine wpList_plain hgd fun _ hK=>?_
 unfold Oper.wp
 rw[ho];simp only[Sem.run_pure];exact hK _ _ h
theorem yS {P:Program} {w w':World} {ops:Array Oper} {rest:List Oper} {o:Oper} {a:Act} {Q:Exit->Act->World->Prop} {u v:Value} (t:TypeId) (x:Operand) (hgd:o.guard=none) (ho:o.op=.buildSlice t 1 #[(0,x)]) (hx:a.eval x=u) (hr:(Instr.buildSlice t 1 #[(0,u)]).run P w=.ok v w') (h:wpList P ops Q rest (a.put o.dst v) w'):wpList P ops Q (o :: rest) a w:=by
 refine wpList_plain hgd fun _ hK=>?_
 unfold Oper.wp execOp
 simp only[ho,List.map_toArray,List.map_cons,List.map_nil,hx,Sem.run_bind,hr,Result.andThen_ok,Sem.run_pure];exact hK _ _ h
theorem Lh {w:World} {g:Nat} {x0 x1 x2 x3 x4 x5:Value} (hB:Bx w g 53 #[x0,x1,x2,x3,x4,x5]):(Instr.loadAt 53 (.pointer (some ⟨g,0,none⟩))).run Tryz.prog w=.ok (.agg #[x0,x1,x2,x3,x4,x5]) w:=by
 obtain⟨h0,h1,h2,h3,h4,h5⟩:=hB.p6;simp [go_sem,Instr.loadAt,h0,h1,h2,h3,h4,h5,loadVar]
theorem L6 (w:World) (n f v d:Int) (a b:ByteArray):(Instr.buildSlice 33 1 #[(0,.agg #[.int .i64 n,.int .i64 f,.string a,.string b,.int .i64 v,.int .i64 d])]).run Tryz.prog w=.ok (.slice (some ⟨w.heap.size,0,none⟩) 1 1) (w.alloc (.cells #[.int .i64 n,.int .i64 f,.string a,.string b,.int .i64 v,.int .i64 d] 53)):=by
 simp[go_sem,Instr.buildSlice]
end Go.Proofs.YtelljijajgiabaaGreatDoor

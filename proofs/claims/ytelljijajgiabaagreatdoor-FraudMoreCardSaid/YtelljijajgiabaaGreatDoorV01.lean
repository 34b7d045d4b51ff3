import Derived.Test.YtelljijajgiabaaGreatDoorV00
import Derived.BigFrame
set_option linter.unusedVariables false
set_option linter.unusedSimpArgs false
set_option maxRecDepth 100000
set_option maxHeartbeats 8000000
namespace Go.Proofs.YtelljijajgiabaaGreatDoor
open Go.RowKit
structure aG (B:Nat) (e:TypeId) (pos:Nat) (news:List Value) (t:TypeId) (z cs:Array Value) (w w':World):Prop where
 kh:KH B e pos news w w'
 own:∀g c,B<=g->Bx w g t c->Bx w' g t c∨(c=z/\Bx w' g t cs)
section
variable {B:Nat} {e:TypeId} {pos:Nat} {news:List Value} {t:TypeId} {z cs:Array Value} {W w w':World}
theorem aG.rf (B:Nat) (e:TypeId) (pos:Nat) (news:List Value) (t:TypeId) (z cs:Array Value) (w:World):aG B e pos news t z cs w w:=⟨KH.rf _ _ _ _ _,fun g c _ h=>.inl h⟩
theorem yP (B:Nat) (e:TypeId) (pos:Nat) (news:List Value) (t:TypeId) (z cs:Array Value):RS.Cls (aG B e pos news t z cs) :=
 ⟨aG.rf B e pos news t z cs,fun h1 h2=>⟨(Ag B e pos news).trans h1.kh h2.kh,fun g c hg h=>by
  rcases h1.own g c hg h with h3|⟨h3,h4⟩
  · exact h2.own g c hg h3
  · rcases h2.own g cs hg h4 with h5|⟨-,h5⟩ <;> exact .inr ⟨h3,h5⟩⟩,
  fun w n=>⟨(Ag B e pos news).drawn w n,fun g c _ h=>.inl h⟩⟩
theorem aG.of (hB:B<=w.heap.size) (h:Below w.heap.size w w'):aG B e pos news t z cs w w':=⟨KH.of hB h,fun g c _ hb=>.inl (hb.call h)⟩
theorem aG.call (h:aG B e pos news t z cs W w) (hB:B<=W.heap.size) (hb:Below w.heap.size w w'):aG B e pos news t z cs w w':=aG.of (Nat.le_trans hB h.kh.2.1) hb
theorem aG.bl (h:aG B e pos news t z cs w w'):Below B w w':=h.kh.1
theorem aG.size (h:aG B e pos news t z cs w w'):w.heap.size<=w'.heap.size:=h.kh.2.1
theorem dZ {R:RS.Rl} (h:RS.eP (KH B e pos news) R):RS.eP (aG B e pos news t z cs) R:=fun x v w w' hr hK=>h x v w w' hr hK.kh
theorem aG.keep (h:aG B e pos news t z cs w w') {g:Nat} (hg:B<=g) (hb:Bx w g t cs):Bx w' g t cs:=by
 rcases h.own g cs hg hb with h1|⟨-,h1⟩ <;> exact h1
theorem MN:RS.eP (aG B e pos news t z cs) (RS.vW B t z cs):=fun x v w w' ⟨g,e1,hg,hb⟩ h=>by
 rcases hb with hb|hb
 · rcases h.own g z hg hb with h1|⟨-,h1⟩
   · exact⟨g,e1,hg,.inl h1⟩
   · exact⟨g,e1,hg,.inr h1⟩
 · exact⟨g,e1,hg,.inr (h.keep hg hb)⟩
theorem MK:RS.eP (aG B e pos news t z cs) (RS.vT B t cs):=fun x v w w' ⟨g,e1,hg,hb⟩ h=>⟨g,e1,hg,h.keep hg hb⟩
theorem aG.new (h:aG B e pos news t z cs W w) (hB:B<=W.heap.size) (x:Value):aG B e pos news t z cs w (w.alloc (.cells z t))/\RS.vW B t z cs x (.pointer (some ⟨w.heap.size,0,none⟩)) (w.alloc (.cells z t)) :=
 ⟨h.call hB (bNew (Below.refl w.heap.size w) _),_,rfl,Nat.le_trans hB h.size,.inl (Bx.mk w t z)⟩
theorem aG.ofZ (he:e≠t) (h:RS.KZ B t z cs w w'):aG B e pos news t z cs w w':=⟨⟨h.bl,h.size,fun g c _ hb=>⟨c,h.oth.bx he hb,rfl,fun i v _ hv=>.inl hv⟩⟩,h.own⟩
theorem aG.stores (he:e≠t) {g:Nat} {L:List Value} (hL:cs=L.toArray) (hz:z.size=L.length) (hg:B<=g) (hB:Bx w g t z∨Bx w g t cs) (x y:Value) (hx:x=.pointer (some ⟨g,0,none⟩)):aG B e pos news t z cs w (w.setCells g 0 L)/\RS.vT B t cs x y (w.setCells g 0 L):=by
 obtain⟨h1,h2⟩:=RS.KZ.stores (w:=w) hL hz hg hB x y hx;exact ⟨aG.ofZ he h1,h2⟩
end
theorem uy {P:Program} {w:World} {ops:Array Oper} {rest:List Oper} {o:Oper} {a:Act} {Q:Exit->Act->World->Prop} (hgd:o.guard=none) (s y:Operand) (t e:TypeId) (t':TypeId) (z' cs':Array Value) (he:e≠t') (ho:o.op=.call { callee:=.builtin .append,args:=#[s,y],argTypes:=#[t,t] })
 (i:TypeInfo) (z:Value) (size B n m:Nat) (flat news:List Value) (v x:Value) (ht:P.underlying t=some (.slice e)) (hi:P.info? e=some i) (hz:i.zero=some z)
 (hsize:i.size=size) (hzs:z.cells.size=size) (hes:a.eval s=v) (EC:a.eval y=x) (hv:bD e size B n flat v w) (hB:B<=w.heap.size) (hs:Src P size t x m news w) (hm:0<m) (h63:n+m<=maxLen) (hb:(n+m)*i.bytes<=140737488355328)
 (h:∀v' w',aG B e (n*size) news t' z' cs' w w'->bD e size B (n+m) (flat++news) v' w'->wpList P ops Q rest (a.put o.dst v') w'):wpList P ops Q (o :: rest) a w:=by
 obtain⟨v',w',hr,h1,h2⟩:=xE (P:=P) w t o.type e i z size B n m flat news v x ht hi hz hsize hzs hv hB hs hm h63 hb;obtain ⟨v2,w2,hr2,-,k2,-⟩:=rD (P:=P) w t o.type e i z size B n m flat news v x ht hi hz hsize hzs hv hB hs hm h63 hb
 have hkv:Fg v v' w w':=by
  have:=hr.symm.trans hr2;simp only[Result.ok.injEq]at this;rw [this.1,this.2];exact k2
 have hka:aG B e (n*size) news t' z' cs' w w':=⟨h1,fun g c _ hb'=>.inl (hkv.bx hb' fun n9 c9 QH=>by
  rcases hv with ⟨hv,-,-⟩|⟨cap,⟨g1,cs1,hv1,-,-,hB1,-⟩,-⟩
  · rw[hv]at QH;cases QH
  · rw[hv1]at QH;simp only[Value.slice.injEq,Option.some.injEq,Addr.mk.injEq,and_true]at QH;obtain ⟨rfl,-,-⟩:=QH;have hh:=hB1.symm.trans hb';simp only[Option.some.injEq,Obj.cells.injEq]at hh
    exact he hh.2.1)⟩
 refine wpList_plain hgd fun _ hK=>?_
 unfold Oper.wp execOp
 simp only[ho,resolve,invoke,builtin,Sem.run_bind,Sem.run_pure,Result.andThen_ok,List.map_toArray,List.map_cons,List.map_nil,hes,EC,hr];exact hK _ _ (h v' w' hka h2)
open Go.RowKit Go.Shelf
theorem U1 {a b:Rat} (h:AY a b):Rq.Fq (a*b):=by
 have e1:a*b=Rat.divInt (a.num*b.num) (((a.den*b.den:Nat)):Int):=by
  rw[←Rq.wQ a b];push_cast;rfl
 obtain⟨s1,s2⟩:=pO (a.num*b.num) (a.den*b.den) (Nat.mul_pos a.den_pos b.den_pos);rw [←e1]at s1 s2;refine ⟨Nat.lt_of_le_of_lt s1 h.1,?_⟩;have hd:=h.2
 unfold Ig.fits at hd ⊢
 rw[Int.natAbs_natCast];have e2:((a.den:Int)*(b.den:Int)).natAbs=a.den*b.den:=by rw[Int.natAbs_mul];simp
 rw[e2]at hd;omega
theorem U0 {x y z:Rat} {xa xb ya yb za zb:List UInt8} (w:World) (lx:LQ x xa xb) (ly:LQ y ya yb) (lz:LQ z za zb) (hx:Rq.Fq x) (hy:Rq.Fq y) (hm:AY x y) (h:Kp (x*y=z)) (hE:Env w) :
 aW 37 #[.agg #[.string ⟨xa.toArray⟩,.string ⟨xb.toArray⟩],.agg #[.string ⟨ya.toArray⟩,.string ⟨yb.toArray⟩]] w (.tuple #[.agg #[.string ⟨za.toArray⟩,.string ⟨zb.toArray⟩],.int .i64 0]):=by
 have h':=DJ x y w hE hx hy hm.1 hm.2;rw [lx.eq,ly.eq,h.out,lz.eq]at h';exact h'
theorem XP {x y:Rat} {xa xb ya yb:List UInt8} (w:World) (lx:LQ x xa xb) (ly:LQ y ya yb) (hx:Rq.Fq x) (hy:Rq.Fq y) (hm:¬AY x y) (hE:Env w) :
 aW 37 #[.agg #[.string ⟨xa.toArray⟩,.string ⟨xb.toArray⟩],.agg #[.string ⟨ya.toArray⟩,.string ⟨yb.toArray⟩]] w (.tuple #[.agg #[.string ⟨([]:List UInt8).toArray⟩,.string ⟨([]:List UInt8).toArray⟩],.int .i64 40]):=by
 have h':=Om x y w hE hx hy hm;rw [lx.eq,ly.eq]at h';exact h'
theorem SL {c e lo re pay:Int} {l:List Tf.Ho} {ms:List fM} {a:Int} {b:Rat} {qa qb:List UInt8} (hm:1<=ms.length/\ms.length<=10) (hg:∀m∈ms,Tf.GoodS m.s/\m.s.n=6) (ht:Tf.sO (ms.map fun m=>EW m.s)=some b) (lq:LQ b qa qb) (hv:wB ⟨c,e,lo,re,pay⟩ (l++[⟨6,a,iy b,0,0⟩])) (A:Option Addr) (cap:Nat) (w:World) (hA:AU w A cap ms) (hE:Env w) :
 aW 27 #[.agg #[.int .i64 c,.int .i64 e,.int .i64 lo,.int .i64 re,.int .i64 pay],.agg #[.int .i64 6,.int .i64 a,.string ⟨qa.toArray⟩,.string ⟨qb.toArray⟩,.int .i64 0,.int .i64 0],.slice A ms.length cap] w (.bool true):=by
 have hL:=Jb hm hg
 have hu:Un b:=wF (fun q hq=>by
  obtain⟨m,hm,rfl⟩:=List.mem_map.1 hq
  exact rC (hg m hm).1 (by have:=(hg m hm).2;omega) (by have:=(hg m hm).2;omega)) b ht
 have e1:iy b=(qa,qb):=by unfold iy;rw[lq.out.1,lq.out.2]
 have ho:OB (iW (bdO ms)) qa qb 0:=by rw[yF,ht];exact .good hu lq
 have hl:=Jw ho;have hf:vK c e ⟨6,a,(qa,qb),0,0⟩=true:=yh (by rw[←e1];exact (Tf.Va.snoc.1 hv.2).2.2.1);have hC:=qY c e lo re pay 6 a 0 0 qa qb ms _ A cap w hl.1 hl.2 hL hA hE qa qb 0 ho;rw [yF,ht,L9 hg,jq.2 hv.1,hf]at hC;simpa using hC
theorem zK {w:World} {A:Option Addr} {cap:Nat} {l:List Tf.Ho} {h:Tf.Ho} (hA:At 6 aX w w.heap.size A (l++[h])) (hc:(l++[h]).length<=cap) (hl:l.length<=8) (ht:∀g∈l,Oy g) (hh:Oy h):BK w A cap (l++[h]) :=
 ⟨hA,hc,by simp;omega,fun g hg=>by
  rcases List.mem_append.1 hg with hg|hg
  · exact ht g hg
  · rw[List.mem_singleton.1 hg];exact hh⟩
theorem XW {q:Rat} {a b:List UInt8} (h:Un q) (lq:LQ q a b):a.length<=9223372036854775807/\b.length<=9223372036854775807:=Jw (.good h lq)
theorem Nk {c e lo re pay:Int} {l:List Tf.Ho} (hv:¬wB ⟨c,e,lo,re,pay⟩ l) (A:Option Addr) (cap:Nat) (w:World) (h:BK w A cap l) (hE:Env w) :
 aW 19 #[.agg #[.int .i64 c,.int .i64 e,.int .i64 lo,.int .i64 re,.int .i64 pay],.slice A l.length cap] w (.bool false):=by
 have:=tH c e lo re pay l A cap w h.at_ h.cap h.len h.txt hE;rw [qF hv]at this;exact this
noncomputable def Ny (n v q:Rat):Bool:=@decide (AY q n/\q*n<=v) (Classical.propDecidable _)
theorem WI {n v q:Rat} (h:AY q n/\q*n<=v):Ny n v q=true:=@decide_eq_true _ (Classical.propDecidable _) h
theorem WJ {n v q:Rat} (h:¬(AY q n/\q*n<=v)):Ny n v q=false:=@decide_eq_false _ (Classical.propDecidable _) h
theorem Og {r:Tf.Ru} {l:List Tf.Ho} {a:Int} {o:Option Rat} {ra rb:List UInt8} {code:Int} {y:Bool} {c1:Int} {h:Tf.Ho} (ho:OB o ra rb code) (hI:IY r l 6 a o y c1 h) :
 c1=code/\((code=360/\y=false)∨∃b,o=some b/\code=0/\LQ b ra rb/\Un b/\((y=false/\¬wB r (l++[⟨6,a,iy b,0,0⟩]))∨(y=true/\wB r (l++[⟨6,a,iy b,0,0⟩])/\h=⟨6,a,(ra,rb),0,0⟩))):=by
 cases ho with
 | bad =>
  cases hI
  exact⟨rfl,.inl ⟨rfl,rfl⟩⟩
 | @good q ra rb hu lq =>
  have e1:iy q=(ra,rb):=by unfold iy;rw[lq.out.1,lq.out.2]
  cases hI with
  | yes h=>exact⟨rfl,.inr ⟨q,rfl,rfl,lq,hu,.inr ⟨rfl,h,by rw[e1]⟩⟩⟩
  | no h=>exact⟨rfl,.inr ⟨q,rfl,rfl,lq,hu,.inl ⟨rfl,h⟩⟩⟩
theorem jP {P:Program} {w w':World} {ops:Array Oper} {rest:List Oper} {o:Oper} {a:Act} {Q:Exit->Act->World->Prop} (hw:Region.wanted o (yielded ops a.tmps)=true) (s y:Operand) (t:TypeId) (ho:o.op=.call { callee:=.builtin .append,args:=#[s,y],argTypes:=#[t,t] })
 (v x v':Value) (hes:a.eval s=v) (EC:a.eval y=x) (hr:(Builtin.append_ #[t,t] o.type #[v,x]).run P w=.ok v' w') (h:wpList P ops Q rest (a.put o.dst v') w'):wpList P ops Q (o :: rest) a w:=by
 refine BigFrame.wpList_want hw fun _ hK=>?_
 unfold Oper.wp execOp
 simp only[ho,resolve,invoke,builtin,Sem.run_bind,Sem.run_pure,Result.andThen_ok,List.map_toArray,List.map_cons,List.map_nil,hes,EC,hr];exact hK _ _ h
theorem TD {P:Program} {w:World} (t ty e:TypeId) (i:TypeInfo) (z:Value) (size B m:Nat) (news:List Value) (v x q:Value) (ht:P.underlying t=some (.slice e)) (hi:P.info? e=some i) (hz:i.zero=some z)
 (hsize:i.size=size) (hzs:z.cells.size=size) (hv:IW B e q v w) (hB:B<=w.heap.size) (hs:Src P size t x m news w) (h63:m<=maxLen) (hb:m*i.bytes<=140737488355328) :
 ∃v' w',(Builtin.append_ #[t,t] ty #[v,x]).run P w=.ok v' w'/\Below w.heap.size w w'/\bD e size B m news v' w':=by
 obtain⟨g,rfl,hg,hbx⟩:=hv;obtain ⟨v',w',cap',hr,h1,h2,h3,h4⟩:=pX (P:=P) w t ty e i z size B 0 0 m [] news (.slice (some ⟨g,0,none⟩) 0 0) x ht hi hz hsize hzs ⟨g,#[],rfl,hg,Nat.le_refl _,hbx,by simp,by simp⟩ hB hs (Nat.zero_le _) (by omega) (by rw[Nat.zero_add];exact hb);rw [Nat.zero_add,List.nil_append]at h3;exact ⟨v',w',hr,h2 rfl,.inr ⟨cap',h3,h4⟩⟩
theorem TB {P:Program} {w:World} (t ty e:TypeId) (t':TypeId) (z' cs':Array Value) (he:e≠t') (i:TypeInfo) (z:Value) (size B n m:Nat) (flat news:List Value) (v x:Value) (ht:P.underlying t=some (.slice e)) (hi:P.info? e=some i) (hz:i.zero=some z)
 (hsize:i.size=size) (hzs:z.cells.size=size) (hv:bD e size B n flat v w) (hB:B<=w.heap.size) (hs:Src P size t x m news w) (hm:0<m) (h63:n+m<=maxLen) (hb:(n+m)*i.bytes<=140737488355328) :
 ∃v' w',(Builtin.append_ #[t,t] ty #[v,x]).run P w=.ok v' w'/\aG B e (n*size) news t' z' cs' w w'/\bD e size B (n+m) (flat++news) v' w':=by
 obtain⟨v',w',hr,h1,h2⟩:=xE (P:=P) w t ty e i z size B n m flat news v x ht hi hz hsize hzs hv hB hs hm h63 hb;obtain ⟨v2,w2,hr2,-,k2,-⟩:=rD (P:=P) w t ty e i z size B n m flat news v x ht hi hz hsize hzs hv hB hs hm h63 hb
 have hkv:Fg v v' w w':=by
  have:=hr.symm.trans hr2;simp only[Result.ok.injEq]at this;rw [this.1,this.2];exact k2
 refine⟨v',w',hr,⟨h1,fun g c _ hb'=>.inl (hkv.bx hb' fun n9 c9 QH=>?_)⟩,h2⟩
 rcases hv with ⟨hv,-,-⟩|⟨cap,⟨g1,cs1,hv1,-,-,hB1,-⟩,-⟩
 · rw[hv]at QH;cases QH
 · rw[hv1]at QH;simp only[Value.slice.injEq,Option.some.injEq,Addr.mk.injEq,and_true]at QH;obtain ⟨rfl,-,-⟩:=QH;have hh:=hB1.symm.trans hb';simp only[Option.some.injEq,Obj.cells.injEq]at hh;exact he hh.2.1
end Go.Proofs.YtelljijajgiabaaGreatDoor

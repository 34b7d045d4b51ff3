import Derived.Test.YtelljijajgiabaaGreatDoorQ08
set_option linter.unusedVariables false
set_option linter.unusedSimpArgs false
set_option maxRecDepth 100000
set_option maxHeartbeats 8000000
namespace Go.Proofs.YtelljijajgiabaaGreatDoor.RA
open Go.RowKit
abbrev Rl:=Value->Value->World->Prop
def eP (K:World->World->Prop) (p:Rl):Prop:=∀x v w w',p x v w->K w w'->p x v w'
def ak (u:Value):Rl:=fun _ v _=>v=u
def jJ:Rl:=fun _ _ _=>True
theorem aF {K:World->World->Prop} (u:Value):eP K (ak u):=fun _ _ _ _ h _=>h
theorem jo {K:World->World->Prop}:eP K jJ:=fun _ _ _ _ _ _=>trivial
def rel (ps:List Rl) (i:Nat):Rl:=ps.getD i jJ
def bV (K:World->World->Prop):List Rl->Prop
 | []=>True
 | p :: l=>eP K p/\bV K l
def cZ (ks:Nat->Option Nat) (vs:Nat->Value) (w:World):Nat->List Rl->Prop
 | _,[]=>True
 | k,p :: l=>p (jG ks vs k) (vs k) w/\cZ ks vs w (k+1) l
theorem bV.get {K:World->World->Prop}:∀(ps:List Rl) (i:Nat),bV K ps->eP K (ps.getD i jJ)
 | [],i,_=>by simpa using jo
 | p :: l,0,h=>by simpa using h.1
 | p :: l,i+1,h=>by simpa using bV.get l i h.2
theorem ig {ks:Nat->Option Nat} {vs:Nat->Value} {w:World}:∀(ps:List Rl) (k:Nat),(∀i,i<ps.length->(ps.getD i jJ) (jG ks vs (k+i)) (vs (k+i)) w)->cZ ks vs w k ps
 | [],_,_=>trivial
 | p :: l,k,h=>⟨by simpa using h 0 (by simp),ig l (k+1) fun i hi=>by
  have:=h (i+1) (by simp;omega)
  rw[show k+1+i=k+(i+1) by omega];simpa using this⟩
def zZ (o:Oper) (j:Nat):Bool:=o.after.toList.any fun e=>Region.binds .any e&&e.on==j
def aQ (vs:Nat->Value):Nat->List (Option Tmp)->Act->Act
 | _,[],a=>a
 | k,d :: rest,a=>aQ vs (k+1) rest (a.put d (vs k))
theorem dK (vs:Nat->Value):∀(l:List Oper) (k:Nat) (a:Act),dR vs k l a=aQ vs k (l.map (·.dst)) a
 | [],_,_=>rfl
 | o :: l,k,a=>dK vs l (k+1) _
def bG (F:Nat->Value->World->World->Prop) (K:World->World->Prop) (ks:Nat->Option Nat) (P:Program) (ops:Array Oper) (ps:List Rl) (w0:World) (a0:Act):Nat->List (Option Tmp)->List Oper->List Rl->Prop
 | k,pre,o :: l,q :: qs=>(∀(vs:Nat->Value) (w:World),K w0 w->(∀j,zZ o j=true->rel ps j (jG ks vs j) (vs j) w) ->
  wpList P ops (fun e a' w'=>e=.normal/\a'.defers=a0.defers/\K w w'/\q (jG ks vs k) (qV o a') w'/\F k (qV o a') w w') [o] (aQ vs 0 pre a0) w)/\bG F K ks P ops ps w0 a0 (k+1) (pre++[o.dst]) l qs
 | _,_,_,_=>True
theorem bG.rg {F:Nat->Value->World->World->Prop} {K:World->World->Prop} {ks:Nat->Option Nat} {P:Program} {ps:List Rl} {w0:World} {a0:Act} {L:List Oper} {n:Nat} (hnp:n<=ps.length):∀(l:List Oper) (k:Nat),(∀j,l[j]? = (L.take n)[k+j]?)->bG F K ks P L.toArray ps w0 a0 k ((L.take k).map (·.dst)) l (ps.drop k)->dw F K ks P L.toArray (rel ps) w0 a0 k l
 | [],_,_,_=>trivial
 | o :: l,k,hl,h=>by
  have h0:(L.take n)[k]? = some o:=by simpa using (hl 0).symm
  obtain⟨hkn,hLo⟩:=fC h0;have hkp:k<ps.length:=by omega
  rw[List.drop_eq_getElem_cons hkp]at h;refine ⟨fun vs w hb hE=>?_,bG.rg hnp l (k+1) (fun j=>by have:=hl (j+1);simpa [Nat.add_assoc,Nat.add_comm 1 j] using this) ?_⟩
  · have hu:=h.1 vs w hb fun j hj=>by
     obtain⟨e,he,t_⟩:=List.any_eq_true.1 hj;simp only[Bool.and_eq_true,beq_iff_eq]at t_;have:=iH _ hE e he t_.1
     rwa [t_.2]at this
    have hfr:seen L.toArray vs k a0=aQ vs 0 ((L.take k).map (·.dst)) a0:=dK vs _ 0 a0;rw [hfr];have hq:ps[k]=rel ps k:=by simp[rel,List.getD_eq_getElem?_getD,hkp]
    rw[hq]at hu;exact hu
  · have h2:=h.2
    have e1:(L.take k).map (·.dst)++[o.dst]=(L.take (k+1)).map (·.dst):=by
     rw[List.take_add_one,hLo];simp
    rw[e1]at h2;exact h2
def tV (l:List (Nat × Nat)) (i:Nat):Option Nat:=(l.find? (·.1==i)).map (·.2)
def XY (L:List Oper) (l:List (Nat × Nat)):Bool:=l.all fun p=>match L[p.1]? with|some o=>zZ o p.2|none=>true
theorem zF {L:List Oper} {l:List (Nat × Nat)} (h:XY L l=true) (i:Nat) (o:Oper) (k:Nat) (ho:L.toArray[i]? = some o) (hk:tV l i=some k):∃e∈o.after,Region.binds .any e=true/\e.on=k:=by
 unfold tV at hk
 cases hf:l.find? (·.1==i) with
 | none=>rw[hf]at hk;cases hk
 | some p =>
  rw[hf]at hk;have hp:=List.find?_some hf;have hm:=List.mem_of_find?_eq_some hf;have h1:=List.all_eq_true.1 h p hm;have e1:p.1=i:=by simpa using hp
  have e2:p.2=k:=by simpa using hk
  have ho':L[i]? = some o:=by simpa using ho
  rw[e1,ho']at h1;simp only[e2]at h1;obtain ⟨e,he,t_⟩:=List.any_eq_true.1 h1;simp only[Bool.and_eq_true,beq_iff_eq]at t_;exact ⟨e,by simpa using he,t_.1,t_.2⟩
theorem dJ {F:Nat->Value->World->World->Prop} {K:World->World->Prop} (hK:Cls K) (kl:List (Nat × Nat)) {P:Program} {l:List Oper} {Q:Exit->Act->World->Prop} {a0:Act} {w0:World} (ps:List Rl) (n sz:Nat) (S:Nat->Bool) (YA:∀w w',K w w'->w.heap.size<=w'.heap.size) (hF:∀p,S p=true->∀v w w',F p v w w'->v=.pointer (some ⟨w.heap.size,0,none⟩)/\w.heap.size<w'.heap.size) (hnp:ps.length=n) (hsz:a0.tmps.size=sz)
 (hB:(nH l.toArray sz&&mQ l.toArray n&&(decide (l.length<=n)||(Region.sinkB .any l.toArray n&&Region.chainB .any l.toArray n))&&decide (n<=l.length)&&Region.seqB .any l.toArray (l.length-n) n ((List.range l.length).map fun i=>decide (i<n)).toArray)=true)
 (hkl:XY l kl=true) (hst:bV K ps) (hsteps:bG F K (tV kl) P l.toArray ps w0 a0 0 [] (l.take n) ps)
 (hfin:∀vs w',K w0 w'->cZ (tV kl) vs w' 0 ps->(∀p q,p<n->q<n->S p=true->S q=true->p≠q->vs p≠vs q)->wpList P l.toArray Q (l.drop n) (aQ vs 0 ((l.take n).map (·.dst)) a0) w'):wpAny P .any l.toArray Q l.toArray.size (Array.replicate l.toArray.size false) a0 { w0 with drawn:=w0.drawn+1 }:=by
 subst hnp hsz;refine eu (F:=F) hK (tV kl) ps.length (rel ps) S (fun _=>YA) hF hB (zF hkl) (fun i x v w w' h hb=>bV.get ps i hst x v w w' h hb) (bG.rg (Nat.le_refl _) (l.take ps.length) 0 (fun j=>by simp) hsteps) fun vs w' hb hR Zk=>by rw[dK];exact hfin vs w' hb (ig ps 0 fun i hi=>by rw[Nat.zero_add];exact hR i hi) Zk
theorem aA {F:Nat->Value->World->World->Prop} {K:World->World->Prop} (hK:Cls K) (kl:List (Nat × Nat)) {P:Program} {id:Nat} {l:List Oper} {Q:Exit->Act->World->Prop} {a0:Act} {w0:World} (ps:List Rl) (n sz:Nat) (S:Nat->Bool) (YA:∀w w',K w w'->w.heap.size<=w'.heap.size) (hF:∀p,S p=true->∀v w w',F p v w w'->v=.pointer (some ⟨w.heap.size,0,none⟩)/\w.heap.size<w'.heap.size) (hm:P.follows .mixedOrders=true) (hnp:ps.length=n) (hsz:a0.tmps.size=sz)
 (hB:(nH l.toArray sz&&mQ l.toArray n&&(decide (l.length<=n)||(Region.sinkB .any l.toArray n&&Region.chainB .any l.toArray n))&&decide (n<=l.length)&&Region.seqB .any l.toArray (l.length-n) n ((List.range l.length).map fun i=>decide (i<n)).toArray)=true)
 (hkl:XY l kl=true) (hst:bV K ps) (hsteps:bG F K (tV kl) P l.toArray ps w0 a0 0 [] (l.take n) ps)
 (hfin:∀vs w',K w0 w'->cZ (tV kl) vs w' 0 ps->(∀p q,p<n->q<n->S p=true->S q=true->p≠q->vs p≠vs q)->wpList P l.toArray Q (l.drop n) (aQ vs 0 ((l.take n).map (·.dst)) a0) w'):(Code.region id l.toArray true).wp P Q a0 w0 :=
 wp_region_any hm (dJ hK kl ps n sz S YA hF hnp hsz hB hkl hst hsteps hfin)
end Go.Proofs.YtelljijajgiabaaGreatDoor.RA
namespace Go.Proofs.YtelljijajgiabaaGreatDoor
open Go.RowKit Go.Shelf
theorem eG {fn:Func} {t:Tmp} {g:Nat} {n d:ByteArray} (h:fn.results=#[.cell t 51]) (tmps:Array Value) (w:World) (ht:tmps.getD t undef=.pointer (some ⟨g,0,none⟩)) (hB:Bx w g 51 #[.string n,.string d]) :
 (results fn tmps).run Tryz.prog w=.ok (.agg #[.string n,.string d]) w:=by
 have h0:=hB.cell 0 rfl;have h1:=hB.cell 1 rfl;have ht':tmps[t]?.getD undef=.pointer (some ⟨g,0,none⟩):=by simpa using ht
 simp only[results,h];simp [go_sem,ht',h0,h1,loadVar]
theorem UL (f:Nat->Int) (g1 g2 g3 g4:Nat) (k n:Nat) (den:Int) (q:Rat) (sd qa qb:List UInt8) (w:World) (hf:∀i,Rq.Sz 183 (f i)) (hn:n<=100) (hk:k<=n+1) (hd:0<den) (hds:Rq.Sz 160 den) (hsd:Ix den sd) (hE:Env w) (hq:Kp (Rat.divInt (Tb.sm f k (n+1-k)) den=q)) (lq:LQ q qa qb)
 (hT:∀(i:Nat) (s:List UInt8) (W:World),k<=i->i<=n->Ix (f i) s->Below w.heap.size w W->aW 191 #[.int .i64 i,.pointer (some ⟨g1,0,none⟩),.pointer (some ⟨g2,0,none⟩),.pointer (some ⟨g3,0,none⟩),.pointer (some ⟨g4,0,none⟩)] W (.string ⟨s.toArray⟩)) :
 aW 154 #[.int .i64 k,.int .i64 n,.string ⟨sd.toArray⟩,.func (.func 191) #[] #[.pointer (some ⟨g1,0,none⟩),.pointer (some ⟨g2,0,none⟩),.pointer (some ⟨g3,0,none⟩),.pointer (some ⟨g4,0,none⟩)]] w (.agg #[.string ⟨qa.toArray⟩,.string ⟨qb.toArray⟩]):=by
 have hb0:=au w (.cells #[.string ⟨#[]⟩,.string ⟨#[]⟩] 51);have BR:=Bx.mk w 51 #[.string ⟨#[]⟩,.string ⟨#[]⟩];have z0:Ix 0 [48]:=⟨jy⟩
 go_enter Tryz.func154,Tryz.ntmps154
 go_wp2_with fail
 go_loopw [9,10] (fun s9 s10 wr=>∃(i:Nat) (s:List UInt8),s10=.int .i64 i/\s9=.string ⟨s.toArray⟩/\k<=i/\i<=n+1/\Ix (Tb.sm f k (i-k)) s/\Bx wr w.heap.size 51 #[.string ⟨#[]⟩,.string ⟨#[]⟩]/\Below w.heap.size w wr) (fun _ s10 _=>n+1-(intOf s10).toNat)
 case atStart=>exact⟨k,[48],rfl,rfl,Nat.le_refl _,hk,by rw[Nat.sub_self];exact z0,BR,hb0⟩
 case round =>
  clear hb0 BR z0;obtain ⟨i,s,rfl,rfl,hki,hin,hs,hB,hb⟩:=hrel;have hEr:=hE.below hb;by_cases hlt:i<=n
  · have t0:decide ((i:Int)<=(n:Int))=true:=by simp;omega
    obtain⟨st,est⟩:=Ix.ex (f i);obtain ⟨s2,es2⟩:=Ix.ex (Tb.sm f k (i+1-k));have hC:=hT i st wr hki hlt est hb;have hP:=fun w1 (hb1:Below wr.heap.size wr w1)=>Jt w1 hs est es2 ⟨by rw[show i+1-k=(i-k)+1 by omega];show _=Tb.sm f k (i-k)+f (k+(i-k));rw[show k+(i-k)=i by omega]⟩ (Tb.CB k hf (by omega)) (hf i) (Tb.CB k hf (by omega)) (by decide) (by decide) (by decide) (hEr.below hb1)
    clear hT hs est hEr hE;go_wp2_with fail;refine hC.mono ?_;rintro _ w1 ⟨rfl,hb1⟩;have hP1:=hP w1 hb1;clear hC hP;go_wp2_with fail;refine hP1.mono ?_;rintro _ w2 ⟨rfl,hb2⟩;clear hP1;replace hB:=(hB.call hb1).call hb2;replace hb:=aj (aj hb hb1) hb2;clear hb1 hb2;go_wp2;exact ⟨⟨i+1,s2,by go_num,rfl,by omega,by omega,es2,hB,hb⟩,by simp[intOf] <;> omega⟩
  · obtain rfl:i=n+1:=by omega
    have hM:=Fe (Tb.sm f k (n+1-k)) den wr ((Tb.CB (j:=183) k hf (m:=n+1-k) (by omega)).fits (by decide)) (hds.fits (by decide)) (by omega) hEr;rw [hs.out,hsd.out,hq.out,lq.eq]at hM;have t0:decide (((n+1:Nat):Int)<=(n:Int))=false:=by simp;omega
    clear hT hs hE hEr hq lq;go_wp2_with fail;refine hM.mono ?_;rintro _ w1 ⟨rfl,hb1⟩;clear hM;have B2:=(hB.call hb1).new (.cells #[.string ⟨qa.toArray⟩,.string ⟨qb.toArray⟩] 51);have B3:=Bx.mk w1 51 #[.string ⟨qa.toArray⟩,.string ⟨qb.toArray⟩];have hb2:=bNew (aj hb hb1) (.cells #[.string ⟨qa.toArray⟩,.string ⟨qb.toArray⟩] 51);have c0:=B2.cell 0 rfl;have c1:=B2.cell 1 rfl;have f0:=B2.frozen 0;have f1:=B2.frozen 1;have d0:=B3.cell 0 rfl;have d1:=B3.cell 1 rfl;have B4:=(B2.set 0 (.string ⟨qa.toArray⟩)).set 1 (.string ⟨qb.toArray⟩);have hb4:=aJ (aJ hb2 (p:=⟨w.heap.size,0,none⟩) (Nat.le_refl _) (.string ⟨qa.toArray⟩)) (p:=⟨w.heap.size,1,none⟩) (Nat.le_refl _) (.string ⟨qb.toArray⟩);clear hB hb hb1;go_wp2;exact bodyPost_ret (eG rfl _ _ rfl B4) rfl ⟨rfl,hb4⟩
theorem UM (f:Nat->Int) (g1 g2 g3:Nat) (k n:Nat) (den:Int) (q:Rat) (sd qa qb:List UInt8) (w:World) (hf:∀i,Rq.Sz 183 (f i)) (hn:n<=100) (hk:k<=n+1) (hd:0<den) (hds:Rq.Sz 160 den) (hsd:Ix den sd) (hE:Env w) (hq:Kp (Rat.divInt (Tb.sm f k (n+1-k)) den=q)) (lq:LQ q qa qb)
 (hT:∀(i:Nat) (s:List UInt8) (W:World),k<=i->i<=n->Ix (f i) s->Below w.heap.size w W->aW 155 #[.int .i64 i,.pointer (some ⟨g1,0,none⟩),.pointer (some ⟨g2,0,none⟩),.pointer (some ⟨g3,0,none⟩)] W (.string ⟨s.toArray⟩)) :
 aW 154 #[.int .i64 k,.int .i64 n,.string ⟨sd.toArray⟩,.func (.func 155) #[] #[.pointer (some ⟨g1,0,none⟩),.pointer (some ⟨g2,0,none⟩),.pointer (some ⟨g3,0,none⟩)]] w (.agg #[.string ⟨qa.toArray⟩,.string ⟨qb.toArray⟩]):=by
 have hb0:=au w (.cells #[.string ⟨#[]⟩,.string ⟨#[]⟩] 51);have BR:=Bx.mk w 51 #[.string ⟨#[]⟩,.string ⟨#[]⟩];have z0:Ix 0 [48]:=⟨jy⟩
 go_enter Tryz.func154,Tryz.ntmps154
 go_wp2_with fail
 go_loopw [9,10] (fun s9 s10 wr=>∃(i:Nat) (s:List UInt8),s10=.int .i64 i/\s9=.string ⟨s.toArray⟩/\k<=i/\i<=n+1/\Ix (Tb.sm f k (i-k)) s/\Bx wr w.heap.size 51 #[.string ⟨#[]⟩,.string ⟨#[]⟩]/\Below w.heap.size w wr) (fun _ s10 _=>n+1-(intOf s10).toNat)
 case atStart=>exact⟨k,[48],rfl,rfl,Nat.le_refl _,hk,by rw[Nat.sub_self];exact z0,BR,hb0⟩
 case round =>
  clear hb0 BR z0;obtain ⟨i,s,rfl,rfl,hki,hin,hs,hB,hb⟩:=hrel;have hEr:=hE.below hb;by_cases hlt:i<=n
  · have t0:decide ((i:Int)<=(n:Int))=true:=by simp;omega
    obtain⟨st,est⟩:=Ix.ex (f i);obtain ⟨s2,es2⟩:=Ix.ex (Tb.sm f k (i+1-k));have hC:=hT i st wr hki hlt est hb;have hP:=fun w1 (hb1:Below wr.heap.size wr w1)=>Jt w1 hs est es2 ⟨by rw[show i+1-k=(i-k)+1 by omega];show _=Tb.sm f k (i-k)+f (k+(i-k));rw[show k+(i-k)=i by omega]⟩ (Tb.CB k hf (by omega)) (hf i) (Tb.CB k hf (by omega)) (by decide) (by decide) (by decide) (hEr.below hb1)
    clear hT hs est hEr hE;go_wp2_with fail;refine hC.mono ?_;rintro _ w1 ⟨rfl,hb1⟩;have hP1:=hP w1 hb1;clear hC hP;go_wp2_with fail;refine hP1.mono ?_;rintro _ w2 ⟨rfl,hb2⟩;clear hP1;replace hB:=(hB.call hb1).call hb2;replace hb:=aj (aj hb hb1) hb2;clear hb1 hb2;go_wp2;exact ⟨⟨i+1,s2,by go_num,rfl,by omega,by omega,es2,hB,hb⟩,by simp[intOf] <;> omega⟩
  · obtain rfl:i=n+1:=by omega
    have hM:=Fe (Tb.sm f k (n+1-k)) den wr ((Tb.CB (j:=183) k hf (m:=n+1-k) (by omega)).fits (by decide)) (hds.fits (by decide)) (by omega) hEr;rw [hs.out,hsd.out,hq.out,lq.eq]at hM;have t0:decide (((n+1:Nat):Int)<=(n:Int))=false:=by simp;omega
    clear hT hs hE hEr hq lq;go_wp2_with fail;refine hM.mono ?_;rintro _ w1 ⟨rfl,hb1⟩;clear hM;have B2:=(hB.call hb1).new (.cells #[.string ⟨qa.toArray⟩,.string ⟨qb.toArray⟩] 51);have B3:=Bx.mk w1 51 #[.string ⟨qa.toArray⟩,.string ⟨qb.toArray⟩];have hb2:=bNew (aj hb hb1) (.cells #[.string ⟨qa.toArray⟩,.string ⟨qb.toArray⟩] 51);have c0:=B2.cell 0 rfl;have c1:=B2.cell 1 rfl;have f0:=B2.frozen 0;have f1:=B2.frozen 1;have d0:=B3.cell 0 rfl;have d1:=B3.cell 1 rfl;have B4:=(B2.set 0 (.string ⟨qa.toArray⟩)).set 1 (.string ⟨qb.toArray⟩);have hb4:=aJ (aJ hb2 (p:=⟨w.heap.size,0,none⟩) (Nat.le_refl _) (.string ⟨qa.toArray⟩)) (p:=⟨w.heap.size,1,none⟩) (Nat.le_refl _) (.string ⟨qb.toArray⟩);clear hB hb hb1;go_wp2;exact bodyPost_ret (eG rfl _ _ rfl B4) rfl ⟨rfl,hb4⟩
structure Pw (a:Int) (n g:Nat) (W:World):Prop where
 out:∃A cap,Bx W g 192 #[.slice A (n+1) cap]/\At 1 uK W W.heap.size A (CW a n)/\n+1<=cap
theorem Pw.call {a:Int} {n g:Nat} {W W':World} (h:Pw a n g W) (hb:Below W.heap.size W W'):Pw a n g W':=by
 obtain⟨A,cap,h1,h2,h3⟩:=h.out;exact ⟨A,cap,h1.call hb,(h2.below hb).more hb.size,h3⟩
structure Tl (n:Nat) (c e:Int) (gn ga gr gy go:Nat) (W:World):Prop where
 hn:Bx W gn 3 #[.int .i64 n]
 hr:Bx W gr 180 (b_ (pt n))
 hy:Pw c n gy W
 ho:Pw (e-c) n go W
 ha:Pw e n ga W
theorem Tl.call {n:Nat} {c e:Int} {gn ga gr gy go:Nat} {W W':World} (h:Tl n c e gn ga gr gy go W) (hb:Below W.heap.size W W'):Tl n c e gn ga gr gy go W' :=
 ⟨h.hn.call hb,h.hr.call hb,h.hy.call hb,h.ho.call hb,h.ha.call hb⟩
theorem Pw.cells {a:Int} {n g:Nat} {W:World} (h:Pw a n g W):∃b off cap,n+1<=cap/\(∀d os,(Sort.grow (redrawn W d) os).cell? ⟨g,0,none⟩=some (.slice (some ⟨b,off,none⟩) (n+1) cap)) /\
 ∀(j:Nat) (s:List UInt8),j<=n->Ix (a ^ j) s->∀d os,(Sort.grow (redrawn W d) os).cell? ⟨b,off+j,none⟩=some (.string ⟨s.toArray⟩):=by
 obtain⟨A,cap,h1,h2,h3⟩:=h.out;obtain ⟨b,off,rfl,hb,hc⟩:=h2 (by rw[Ec];omega);refine ⟨b,off,cap,h3,fun d os=>(h1.again d os).cell 0 rfl,fun j s hj hs d os=>?_⟩;have h4:=hc j _ (KU a (by omega)) 0 _ rfl;rw [Nat.mul_one,Nat.add_zero,hs.out]at h4;exact ((below_regrown W d os).cell (p:=⟨b,off+j,none⟩) hb).trans h4
theorem O9 (n i:Nat) (c e:Int) (gn ga gr gy go:Nat) (s:List UInt8) (w:World) (hT:Tl n c e gn ga gr gy go w) (hn:n<=50) (hi:i<=n) (h0:0<=c) (h1:c<=e) (h2:e<=1000) (hs:Ix (Tb.tm n c (e-c) i) s) (hE:Env w) :
 aW 191 #[.int .i64 i,.pointer (some ⟨gr,0,none⟩),.pointer (some ⟨gy,0,none⟩),.pointer (some ⟨go,0,none⟩),.pointer (some ⟨gn,0,none⟩)] w (.string ⟨s.toArray⟩):=by
 obtain⟨by_,oy,cy,hcy,yb,yc⟩:=hT.hy.cells;obtain ⟨bo,oo,co,hco,ob,oc⟩:=hT.ho.cells;obtain ⟨s1,e1⟩:=Ix.ex (c ^ i);obtain ⟨s2,e2⟩:=Ix.ex ((e-c) ^ (n-i));obtain ⟨s3,e3⟩:=Ix.ex (c ^ i*(e-c) ^ (n-i));have e4:=tK n i;have gN:=fun d os=>(hT.hn.again d os).cell 0 rfl
 have gR:=fun d os=>(hT.hr.again d os).cell i (jr (pt n) (by omega))
 have y1:=yc i s1 hi e1;have o1:=oc (n-i) s2 (by omega) e2;have k1:=fun d os=>yH (Sort.grow (redrawn w d) os) e1 e2 e3 ⟨rfl⟩ (Tb.jU h0 (by omega) i) (Tb.jU (c:=e-c) (by omega) (by omega) (n-i)) ((Tb.jU h0 (by omega) i).mul (Tb.jU (c:=e-c) (by omega) (by omega) (n-i))) (by omega) (by omega) (by omega) (hE.below (below_regrown w d os))
 have k2:=fun d os=>yH (Sort.grow (redrawn w d) os) e4 e3 hs ⟨rfl⟩ (Tb.qZ (by omega) i) ((Tb.jU h0 (by omega) i).mul (Tb.jU (c:=e-c) (by omega) (by omega) (n-i))) (Tb.V6 hn h0 (by omega) (d:=e-c) (by omega) (by omega) i) (by decide) (by omega) (by decide) (hE.below (below_regrown w d os))
 obtain⟨m,hm⟩:∃m,n-i=m:=⟨_,rfl⟩
 have hni:(n:Int)-(i:Int)=(m:Int):=by omega
 rw[hm]at o1;have hm2:m<=n:=by omega
 generalize pt n i=sp at *;clear yc oc hT e1 e2 e3 e4 hs hE hm
 go_enter Tryz.func191,Tryz.ntmps191
 go_wp2;refine wp_region_quiet_below (by kernel_rfl) (by kernel_rfl) ?_
 repeat (go_big_quiet_step (first
  | (go_at_call 156;with_reducible exact Calls.regrown_of (k1 _ _))
  | (go_at_call 156;with_reducible exact Calls.regrown_of (k2 _ _))))
 refine wpQuiet_nil ?_;rintro _ ⟨z,rfl⟩;have hbz:=below_regrown w z.d z.os;clear k1 k2 yb ob y1 o1 gN gR;generalize Sort.grow (redrawn w z.d) z.os=W2 at *;go_wp2;go_ret;exact ⟨rfl,hbz⟩
theorem FM (n k:Nat) (c e:Int) (gn ga gr gy go:Nat) (qa qb:List UInt8) (w:World) (hT:Tl n c e gn ga gr gy go w) (hn:n<=50) (hk:k<=n+1) (h0:0<=c) (h1:c<=e) (h2:e<=1000) (h3:1<=e) (lq:LQ (Tb.Pq n k c (e-c)) qa qb) (hE:Env w) :
 aW 190 #[.int .i64 k,.pointer (some ⟨gn,0,none⟩),.pointer (some ⟨ga,0,none⟩),.pointer (some ⟨gr,0,none⟩),.pointer (some ⟨gy,0,none⟩),.pointer (some ⟨go,0,none⟩)] w (.agg #[.string ⟨qa.toArray⟩,.string ⟨qb.toArray⟩]):=by
 have TY:=au w (.cells #[.string ⟨#[]⟩,.string ⟨#[]⟩] 51);have BR:=Bx.mk w 51 #[.string ⟨#[]⟩,.string ⟨#[]⟩];have hTA:=hT.call TY;have hEA:=hE.below TY;obtain ⟨sd,esd⟩:=Ix.ex (e ^ n)
 have hq:Kp (Rat.divInt (Tb.sm (Tb.tm n c (e-c)) k (n+1-k)) (e ^ n)=Tb.Pq n k c (e-c)):=⟨by
  show _=Rat.divInt (Tb.S n k c (e-c)) ((c+(e-c)) ^ n)
  rw[show c+(e-c)=e by omega];rfl⟩
 have Z9:=fun W (hW:Below (w.alloc (.cells #[.string ⟨#[]⟩,.string ⟨#[]⟩] 51)).heap.size (w.alloc (.cells #[.string ⟨#[]⟩,.string ⟨#[]⟩] 51)) W) =>
  UL (Tb.tm n c (e-c)) gr gy go gn k n (e ^ n) _ sd qa qb W (fun i=>Tb.V6 hn h0 (by omega) (by omega) (by omega) i) (by omega) hk (Int.pow_pos (by omega)) ((Tb.jU (c:=e) (by omega) h2 n).mono (by omega)) esd (hEA.below hW) hq lq
   (fun i s X hki hin hs hX=>O9 n i c e gn ga gr gy go s X ((hTA.call hW).call hX) hn hin h0 h1 h2 hs ((hEA.below hW).below hX))
 obtain⟨ba,oa,ca,hca,ab,ac⟩:=hTA.ha.cells;have a1:=ac n sd (Nat.le_refl _) esd;have gN:=fun d os=>(hTA.hn.again d os).cell 0 rfl
 generalize hW0:w.alloc (.cells #[.string ⟨#[]⟩,.string ⟨#[]⟩] 51)=W0 at *;have kr:=fun d os=>Z9 (Sort.grow (redrawn W0 d) os) (below_regrown W0 d os)
 clear Z9 ac hTA hT hE hEA esd hq lq
 go_enter Tryz.func190,Tryz.ntmps190
 go_wp2
 try rw[hW0]
 clear hW0;refine fD 8 (by kernel_rfl) (by kernel_rfl) ?_;simp only[List.take,List.drop]
 repeat (go_big_quiet_step (first|(go_at_call 154;with_reducible exact Calls.regrown_of (kr _ _))))
 refine wpQuiet_nil ?_;rintro _ ⟨z,rfl⟩;have hbz:=gu TY z.d z.os;replace BR:=BR.again z.d z.os;clear kr ab a1 gN TY;generalize Sort.grow (redrawn W0 z.d) z.os=W2 at *;have c0:=BR.cell 0 rfl;have c1:=BR.cell 1 rfl;have f0:=BR.frozen 0;have f1:=BR.frozen 1;have B4:=(BR.set 0 (.string ⟨qa.toArray⟩)).set 1 (.string ⟨qb.toArray⟩);have hb4:=aJ (aJ hbz (p:=⟨w.heap.size,0,none⟩) (Nat.le_refl _) (.string ⟨qa.toArray⟩)) (p:=⟨w.heap.size,1,none⟩) (Nat.le_refl _) (.string ⟨qb.toArray⟩);go_wp2;exact bodyPost_ret (eG rfl _ _ rfl B4) rfl ⟨rfl,hb4⟩
def ES (c e:Int):Bool:=Tp.within e 1 1000&&Tp.within c 0 e
theorem nS {c e:Int}:ES c e=true↔1<=e/\e<=1000/\0<=c/\c<=e:=by
 unfold ES
 rw[Bool.and_eq_true,Tp.within_iff,Tp.within_iff];omega
theorem Es (c e:Int) (w:World) :
 aW 188 #[.agg #[.int .i64 c,.int .i64 e]] w (.bool (ES c e)):=by
 have hI1:=fun w0=>aB (mV e 1 1000 w0)
 have hI2:=fun w0=>aB (mV c 0 e w0)
 have hd:Kp (ES c e=(Tp.within e 1 1000&&Tp.within c 0 e)):=⟨rfl⟩
 have B:=Bx.mk w 29 #[.int .i64 c,.int .i64 e];have hb:=bNew (gq w) (.cells #[.int .i64 c,.int .i64 e] 29);have c0:=B.cell 0 rfl;have c1:=B.cell 1 rfl;generalize Tp.within c 0 e=r2 at *
 cases h1:Tp.within e 1 1000 with
 | true =>
  rw[h1]at hI1 hd;clear h1
  go_enter Tryz.func188,Tryz.ntmps188
  go_wp2_with fail;refine (hI1 _).mono ?_;rintro e w1 ⟨rfl,hb1⟩;have d0:=(B.call hb1).cell 0 rfl;have d1:=(B.call hb1).cell 1 rfl;go_wp2_with fail;refine (hI2 _).mono ?_;rintro e w2 ⟨rfl,hb2⟩;go_wp2;go_ret;exact ⟨aH (by rw[hd.out];simp),aj (aj hb hb1) hb2⟩
 | false =>
  rw[h1]at hI1 hd;clear h1
  go_enter Tryz.func188,Tryz.ntmps188
  go_wp2_with fail;refine (hI1 _).mono ?_;rintro e w1 ⟨rfl,hb1⟩;go_wp2;go_ret;exact ⟨aH (by rw[hd.out];simp),aj hb hb1⟩
def FB (i:Nat) (v:Value) (w w':World):Prop:=17<=i/\i<=20->v=.pointer (some ⟨w.heap.size,0,none⟩)/\w.heap.size<w'.heap.size
theorem FB.no {i:Nat} {v:Value} {w w':World} (h:i<17):FB i v w w':=fun e=>by omega
def KA (w w':World):Prop:=Below w.heap.size w w'
theorem YT:RA.Cls KA:=⟨fun w=>Below.refl _ _,fun h k=>aj h k,fun w n=>⟨rfl,rfl,rfl,Nat.le_refl _,fun _ _=>rfl⟩⟩
def PwR (a:Int) (n:Nat):RA.Rl:=fun _ v W=>TM 9 1 0 (n+1) ((CW a n).flatMap uK) v W
theorem Ux (a:Int) (n:Nat):RA.eP KA (PwR a n):=fun x v w w' h hb=>ML _ _ _ _ _ v w w' h hb
theorem cO.weak {e:TypeId} {size B cap n:Nat} {flat:List Value} {v:Value} {w:World} (h:cO e size B cap n flat v w):cO e size 0 cap n flat v w:=by
 obtain⟨g,cells,h1,h2,h3⟩:=h;exact ⟨g,cells,h1,Nat.zero_le _,h3⟩
theorem qm {W:World} {a b:Nat} {t t':TypeId} {cs cs':Array Value} (h:Bx W a t cs) (h':Bx W b t' cs') (hne:t≠t'):a≠b:=by
 rintro rfl;have e:=h.symm.trans h'
 injection e with e
 injection e with e1 e2
 exact hne e2
theorem P6 {W:World} {a:Int} {n gb cap g:Nat} {cells:Array Value} (hB:Bx W gb 192 #[.slice (some ⟨g,0,none⟩) (n+1) cap]) (hc:n+1<=cap) (hx:Bx W g 9 cells) (hs:cells.size=cap*1) (hf:cells.toList.take ((n+1)*1)=(CW a n).flatMap uK):Pw a n gb W:=by
 have hR:cO 9 1 0 cap (CW a n).length ((CW a n).flatMap uK) (.slice (some ⟨g,0,none⟩) (n+1) cap) W:=by
  rw[Ec];exact⟨g,cells,rfl,Nat.zero_le _,hc,hx,hs,hf⟩
 obtain⟨A,e,h1,h2⟩:=hR.at yZ;rw [Ec]at e h2
 injection e with e1
 subst e1;exact ⟨_,cap,hB,h1,hc⟩
def BoR (B:Nat) (t:TypeId) (cs:Array Value):RA.Rl:=fun _ v W=>∃g,v=.pointer (some ⟨g,0,none⟩)/\B<=g/\Bx W g t cs
theorem Uz (B:Nat) (t:TypeId) (cs:Array Value):RA.eP KA (BoR B t cs):=fun x v w w' ⟨g,h1,h2,h3⟩ hb=>⟨g,h1,h2,h3.call hb⟩
theorem DR {o:Oper} {a:Act} {w:World} {K:Act->World->Prop} {Q:Exit->Act->World->Prop} {x y:Operand} (ho:o.op=.store 180 x y) {g:Nat} (hx:a.eval x=.pointer (some ⟨g,0,none⟩)) {t:TypeId} {old:Array Value} {f:Nat->List UInt8}
 (hy:a.eval y=.agg (b_ f)) (hB:Bx w g t old) (hs:old.size=101) (h:K (a.put o.dst undef) (w.setRow g (b_ f))):o.wp Tryz.prog a w K Q :=
 wp_store_row 180 x y ho g (b_ f) hx hy t old hB (by rw[gK];exact l9) (by rw[gK];exact hs) (y9 f) h
theorem yX (n:Nat) (c e:Int) (w:World) (hn:n<=50) (h0:0<=c) (h1:c<=e) (h2:e<=1000) (h3:1<=e) (hE:Env w) :
 Calls Tryz.prog 151 #[.int .i64 n,.agg #[.int .i64 c,.int .i64 e]] w fun e' w'=>(∃gn ga gr gy go,e'=.returned (.tuple #[.func (.func 190) #[] #[.pointer (some ⟨gn,0,none⟩),.pointer (some ⟨ga,0,none⟩),.pointer (some ⟨gr,0,none⟩),.pointer (some ⟨gy,0,none⟩),.pointer (some ⟨go,0,none⟩)],.int .i64 0])/\Tl n c e gn ga gr gy go w')/\Below w.heap.size w w':=by
 have B0:=(Bx.mk w 3 #[.int .i64 n]).new (.cells #[.int .i64 c,.int .i64 e] 29);have B1:=Bx.mk (w.alloc (.cells #[.int .i64 n] 3)) 29 #[.int .i64 c,.int .i64 e];rw [ah]at B1;have hb:=bNew (au w (.cells #[.int .i64 n] 3)) (.cells #[.int .i64 c,.int .i64 e] 29);have hC:=fun w0=>Es c e w0
 rw[nS.2 ⟨h3,h2,h0,h1⟩]at hC;have hI:=fun w0=>mV n 0 50 w0
 rw[Tp.within_iff.2 ⟨by omega,by omega⟩]at hI;have c0:=B0.cell 0 rfl;have c1:=B1.cell 0 rfl;have c2:=B1.cell 1 rfl
 go_enter Tryz.func151,Tryz.ntmps151
 go_upto_region 3 with (first|(go_at_call 188;refine (hC _).mono ?_;rintro e w1 ⟨rfl,hb1⟩;clear hC;have d0:=(B0.call hb1).cell 0 rfl)|(go_at_call 152;refine (hI _).mono ?_;rintro e w2 ⟨rfl,rfl⟩;clear hI))
 replace hb:=aj hb hb1;replace B0:=B0.call hb1;replace B1:=B1.call hb1;have hE1:=hE.below hb;clear c0 c1 c2 d0 hb1 hE
 refine RA.aA (F:=FB) YT [] [RA.ak (.int .i64 n),RA.ak (.agg (b_ (pt n))),RA.ak (.pointer (some ⟨w.heap.size+1,0,none⟩)),RA.ak (.int .i64 c),RA.ak (.int .i64 n),PwR c n,RA.ak (.pointer (some ⟨w.heap.size+1,1,none⟩)),RA.ak (.int .i64 e),RA.ak (.pointer (some ⟨w.heap.size+1,0,none⟩)),RA.ak (.int .i64 c),RA.ak (.int .i64 (e-c)),RA.ak (.int .i64 n),PwR (e-c) n,RA.ak (.pointer (some ⟨w.heap.size+1,1,none⟩)),RA.ak (.int .i64 e),RA.ak (.int .i64 n),PwR e n,
  BoR w1.heap.size 180 Tryz.zeroCells180,BoR w1.heap.size 192 #[.slice none 0 0],BoR w1.heap.size 192 #[.slice none 0 0],BoR w1.heap.size 192 #[.slice none 0 0]] 21 36 (fun i=>decide (17<=i)&&decide (i<=20)) (fun _ _ h=>h.size) (fun p hp v w w' h=>h (by simpa using hp)) rfl rfl rfl (by kernel_rfl) (by kernel_rfl) ?_ ?_ ?_
 · simp only[RA.bV]
   repeat' apply And.intro
   all_goals first|exact RA.aF _|exact Ux _ _|exact Uz _ _ _|trivial
 · simp only[RA.bG,List.take,List.length];refine ⟨?_,?_,?_,?_,?_,?_,?_,?_,?_,?_,?_,?_,?_,?_,?_,?_,?_,?_,?_,?_,?_,trivial⟩;all_goals (intro vs w2 hb2 hd;simp only[RA.aQ,Act.put,List.nil_append,List.cons_append,List.setIfInBounds_toArray,List.set_cons_succ,List.set_cons_zero,Nat.reduceAdd])
   · have q0:=(B0.call hb2).cell 0 rfl;clear hd;go_wp2;exact⟨Below.refl _ _,rfl,FB.no (by decide)⟩
   · have e0:vs 0=_:=hd 0 rfl;have hC:=o9 n w2 (by omega) (hE1.below hb2);clear hd;rw[e0];go_wp2_with fail;refine hC.mono ?_;clear hC;rintro _ w9 ⟨rfl,aY⟩;go_wp2;exact ⟨aY,rfl,FB.no (by decide)⟩
   · clear hd;go_wp2;exact⟨Below.refl _ _,rfl,FB.no (by decide)⟩
   · have e2:vs 2=_:=hd 2 rfl;have q0:=(B1.call hb2).cell 0 rfl;clear hd;rw[e2];go_wp2;exact⟨Below.refl _ _,rfl,FB.no (by decide)⟩
   · have q0:=(B0.call hb2).cell 0 rfl;clear hd;go_wp2;exact⟨Below.refl _ _,rfl,FB.no (by decide)⟩
   · have e3:vs 3=_:=hd 3 rfl;have e4:vs 4=_:=hd 4 rfl;have hC:=tN (c) n w2 (by omega) (by omega) hn (hE1.below hb2);clear hd;rw[e3,e4];go_wp2_with fail;refine hC.mono ?_;clear hC;rintro _ w9 ⟨⟨v9,rfl,cap,xU,QN⟩,aY⟩;have Yc:=xU;obtain ⟨x9,x8,rfl,-,-,-,-,-⟩:=Yc;go_wp2;exact ⟨aY,⟨cap,xU.weak,QN⟩,FB.no (by decide)⟩
   · clear hd;go_wp2;exact⟨Below.refl _ _,rfl,FB.no (by decide)⟩
   · have e6:vs 6=_:=hd 6 rfl;have q0:=(B1.call hb2).cell 1 rfl;clear hd;rw[e6];go_wp2;exact⟨Below.refl _ _,rfl,FB.no (by decide)⟩
   · clear hd;go_wp2;exact⟨Below.refl _ _,rfl,FB.no (by decide)⟩
   · have e8:vs 8=_:=hd 8 rfl;have q0:=(B1.call hb2).cell 0 rfl;clear hd;rw[e8];go_wp2;exact⟨Below.refl _ _,rfl,FB.no (by decide)⟩
   · have e7:vs 7=_:=hd 7 rfl;have e9:vs 9=_:=hd 9 rfl;clear hd;rw[e7,e9];go_wp2;exact⟨Below.refl _ _,rfl,FB.no (by decide)⟩
   · have q0:=(B0.call hb2).cell 0 rfl;clear hd;go_wp2;exact⟨Below.refl _ _,rfl,FB.no (by decide)⟩
   · have e10:vs 10=_:=hd 10 rfl;have e11:vs 11=_:=hd 11 rfl;have hC:=tN (e-c) n w2 (by omega) (by omega) hn (hE1.below hb2);clear hd;rw[e10,e11];go_wp2_with fail;refine hC.mono ?_;clear hC;rintro _ w9 ⟨⟨v9,rfl,cap,xU,QN⟩,aY⟩;have Yc:=xU;obtain ⟨x9,x8,rfl,-,-,-,-,-⟩:=Yc;go_wp2;exact ⟨aY,⟨cap,xU.weak,QN⟩,FB.no (by decide)⟩
   · clear hd;go_wp2;exact⟨Below.refl _ _,rfl,FB.no (by decide)⟩
   · have e13:vs 13=_:=hd 13 rfl;have q0:=(B1.call hb2).cell 1 rfl;clear hd;rw[e13];go_wp2;exact⟨Below.refl _ _,rfl,FB.no (by decide)⟩
   · have q0:=(B0.call hb2).cell 0 rfl;clear hd;go_wp2;exact⟨Below.refl _ _,rfl,FB.no (by decide)⟩
   · have e14:vs 14=_:=hd 14 rfl;have e15:vs 15=_:=hd 15 rfl;have hC:=tN (e) n w2 (by omega) (by omega) hn (hE1.below hb2);clear hd;rw[e14,e15];go_wp2_with fail;refine hC.mono ?_;clear hC;rintro _ w9 ⟨⟨v9,rfl,cap,xU,QN⟩,aY⟩;have Yc:=xU;obtain ⟨x9,x8,rfl,-,-,-,-,-⟩:=Yc;go_wp2;exact ⟨aY,⟨cap,xU.weak,QN⟩,FB.no (by decide)⟩
   · clear hd;go_wp2;exact⟨au _ _,⟨_,rfl,Below.size hb2,Bx.mk _ _ _⟩,fun _=>⟨rfl,by rw[ah];omega⟩⟩
   · clear hd;go_wp2;exact⟨au _ _,⟨_,rfl,Below.size hb2,Bx.mk _ _ _⟩,fun _=>⟨rfl,by rw[ah];omega⟩⟩
   · clear hd;go_wp2;exact⟨au _ _,⟨_,rfl,Below.size hb2,Bx.mk _ _ _⟩,fun _=>⟨rfl,by rw[ah];omega⟩⟩
   · clear hd;go_wp2;exact⟨au _ _,⟨_,rfl,Below.size hb2,Bx.mk _ _ _⟩,fun _=>⟨rfl,by rw[ah];omega⟩⟩
 · intro vs W1 hba hR hne;simp only[RA.cZ,RA.ak]at hR;obtain ⟨e0,e1,e2,e3,e4,⟨k5,⟨x5,y5,e5,-,l5,X5,z5,f5⟩,-⟩,e6,e7,e8,e9,e10,e11,⟨k12,⟨x12,y12,e12,-,l12,X12,z12,f12⟩,-⟩,e13,e14,e15,⟨k16,⟨x16,y16,e16,-,l16,X16,z16,f16⟩,-⟩,⟨g17,e17,b17,Zv⟩,⟨g18,e18,b18,B18⟩,⟨g19,e19,b19,B19⟩,⟨g20,e20,b20,B20⟩,-⟩:=hR
   have ne:∀i j x y,17<=i->i<=20->17<=j->j<=20->i≠j->vs i=.pointer (some ⟨x,0,none⟩)->vs j=.pointer (some ⟨y,0,none⟩)->x≠y:=fun i j x y h1 h2 h3 h4 h5 h6 h7 h8 =>
    hne i j (by omega) (by omega) (by simp[h1,h2]) (by simp[h3,h4]) h5 (by rw[h6,h7,h8])
   have n1:=ne 17 18 _ _ (by decide) (by decide) (by decide) (by decide) (by decide) e17 e18;have n2:=ne 17 19 _ _ (by decide) (by decide) (by decide) (by decide) (by decide) e17 e19;have n3:=ne 17 20 _ _ (by decide) (by decide) (by decide) (by decide) (by decide) e17 e20;have n4:=ne 18 19 _ _ (by decide) (by decide) (by decide) (by decide) (by decide) e18 e19;have n5:=ne 18 20 _ _ (by decide) (by decide) (by decide) (by decide) (by decide) e18 e20;have n6:=ne 19 20 _ _ (by decide) (by decide) (by decide) (by decide) (by decide) e19 e20;replace hba:Below w1.heap.size w1 W1:=hba;simp only[List.drop,List.take,List.map,RA.aQ,Act.put,List.setIfInBounds_toArray,List.set_cons_succ,List.set_cons_zero,Nat.reduceAdd];rw [e0,e1,e2,e3,e4,e5,e6,e7,e8,e9,e10,e11,e12,e13,e14,e15,e16,e17,e18,e19,e20];have hzz:=uw;generalize Tryz.zeroCells180=zc at *;clear e0 e1 e2 e3 e4 e5 e6 e7 e8 e9 e10 e11 e12 e13 e14 e15 e16 e17 e18 e19 e20 ne hne;refine wpList_plain rfl fun _ hK=>DR rfl rfl rfl Zv hzz (hK _ _ ?_)
   have hbR:=hba.trans ((below_setRow W1 (b_ (pt n)) b17).mono (Nat.le_refl _));have R17:=oJ Zv (b_ (pt n));have XI:Bx (W1.setRow g17 (b_ (pt n))) g18 192 #[.slice none 0 0]:=(setRow_other _ (fun h=>n1 h.symm)).trans B18;have o19:Bx (W1.setRow g17 (b_ (pt n))) g19 192 #[.slice none 0 0]:=(setRow_other _ (fun h=>n2 h.symm)).trans B19;have o20:Bx (W1.setRow g17 (b_ (pt n))) g20 192 #[.slice none 0 0]:=(setRow_other _ (fun h=>n3 h.symm)).trans B20;have m5:Bx (W1.setRow g17 (b_ (pt n))) x5 9 y5:=(setRow_other _ (qm X5 Zv (by decide))).trans X5;have m12:Bx (W1.setRow g17 (b_ (pt n))) x12 9 y12:=(setRow_other _ (qm X12 Zv (by decide))).trans X12;have m16:Bx (W1.setRow g17 (b_ (pt n))) x16 9 y16:=(setRow_other _ (qm X16 Zv (by decide))).trans X16;clear Zv B18 B19 B20 X5 X12 X16;generalize W1.setRow g17 (b_ (pt n))=W2 at *;have dz0:=XI.cell 0 rfl;have fz0:=XI.frozen 0;have Xh:Bx (W2.setCell ⟨g18,0,none⟩ (.slice (some ⟨x5,0,none⟩) (n+1) k5)) g17 180 (b_ (pt n)):=R17.far (p:=⟨g18,0,none⟩) (n1) (.slice (some ⟨x5,0,none⟩) (n+1) k5);have Wy:Bx (W2.setCell ⟨g18,0,none⟩ (.slice (some ⟨x5,0,none⟩) (n+1) k5)) g18 192 #[.slice (some ⟨x5,0,none⟩) (n+1) k5]:=by simpa using XI.set 0 (.slice (some ⟨x5,0,none⟩) (n+1) k5)
   have zx:Bx (W2.setCell ⟨g18,0,none⟩ (.slice (some ⟨x5,0,none⟩) (n+1) k5)) g19 192 #[.slice none 0 0]:=o19.far (p:=⟨g18,0,none⟩) (fun h=>n4 h.symm) (.slice (some ⟨x5,0,none⟩) (n+1) k5);have Wp:Bx (W2.setCell ⟨g18,0,none⟩ (.slice (some ⟨x5,0,none⟩) (n+1) k5)) g20 192 #[.slice none 0 0]:=o20.far (p:=⟨g18,0,none⟩) (fun h=>n5 h.symm) (.slice (some ⟨x5,0,none⟩) (n+1) k5);have XV:Bx (W2.setCell ⟨g18,0,none⟩ (.slice (some ⟨x5,0,none⟩) (n+1) k5)) x5 9 y5:=m5.far (p:=⟨g18,0,none⟩) (qm m5 XI (by decide)) (.slice (some ⟨x5,0,none⟩) (n+1) k5);have Qs:Bx (W2.setCell ⟨g18,0,none⟩ (.slice (some ⟨x5,0,none⟩) (n+1) k5)) x12 9 y12:=m12.far (p:=⟨g18,0,none⟩) (qm m12 XI (by decide)) (.slice (some ⟨x5,0,none⟩) (n+1) k5);have Qq:Bx (W2.setCell ⟨g18,0,none⟩ (.slice (some ⟨x5,0,none⟩) (n+1) k5)) x16 9 y16:=m16.far (p:=⟨g18,0,none⟩) (qm m16 XI (by decide)) (.slice (some ⟨x5,0,none⟩) (n+1) k5);have aas:Below w1.heap.size w1 (W2.setCell ⟨g18,0,none⟩ (.slice (some ⟨x5,0,none⟩) (n+1) k5)):=hbR.setCell (p:=⟨g18,0,none⟩) b18 (.slice (some ⟨x5,0,none⟩) (n+1) k5);have dz1:=zx.cell 0 rfl;have fz1:=zx.frozen 0;have Xg:Bx ((W2.setCell ⟨g18,0,none⟩ (.slice (some ⟨x5,0,none⟩) (n+1) k5)).setCell ⟨g19,0,none⟩ (.slice (some ⟨x12,0,none⟩) (n+1) k12)) g17 180 (b_ (pt n)):=Xh.far (p:=⟨g19,0,none⟩) (n2) (.slice (some ⟨x12,0,none⟩) (n+1) k12);have Wx:Bx ((W2.setCell ⟨g18,0,none⟩ (.slice (some ⟨x5,0,none⟩) (n+1) k5)).setCell ⟨g19,0,none⟩ (.slice (some ⟨x12,0,none⟩) (n+1) k12)) g18 192 #[.slice (some ⟨x5,0,none⟩) (n+1) k5]:=Wy.far (p:=⟨g19,0,none⟩) (n4) (.slice (some ⟨x12,0,none⟩) (n+1) k12);have Wu:Bx ((W2.setCell ⟨g18,0,none⟩ (.slice (some ⟨x5,0,none⟩) (n+1) k5)).setCell ⟨g19,0,none⟩ (.slice (some ⟨x12,0,none⟩) (n+1) k12)) g19 192 #[.slice (some ⟨x12,0,none⟩) (n+1) k12]:=by simpa using zx.set 0 (.slice (some ⟨x12,0,none⟩) (n+1) k12)
   have zu:Bx ((W2.setCell ⟨g18,0,none⟩ (.slice (some ⟨x5,0,none⟩) (n+1) k5)).setCell ⟨g19,0,none⟩ (.slice (some ⟨x12,0,none⟩) (n+1) k12)) g20 192 #[.slice none 0 0]:=Wp.far (p:=⟨g19,0,none⟩) (fun h=>n6 h.symm) (.slice (some ⟨x12,0,none⟩) (n+1) k12);have XU:Bx ((W2.setCell ⟨g18,0,none⟩ (.slice (some ⟨x5,0,none⟩) (n+1) k5)).setCell ⟨g19,0,none⟩ (.slice (some ⟨x12,0,none⟩) (n+1) k12)) x5 9 y5:=XV.far (p:=⟨g19,0,none⟩) (qm XV zx (by decide)) (.slice (some ⟨x12,0,none⟩) (n+1) k12);have Qr:Bx ((W2.setCell ⟨g18,0,none⟩ (.slice (some ⟨x5,0,none⟩) (n+1) k5)).setCell ⟨g19,0,none⟩ (.slice (some ⟨x12,0,none⟩) (n+1) k12)) x12 9 y12:=Qs.far (p:=⟨g19,0,none⟩) (qm Qs zx (by decide)) (.slice (some ⟨x12,0,none⟩) (n+1) k12);have Qp:Bx ((W2.setCell ⟨g18,0,none⟩ (.slice (some ⟨x5,0,none⟩) (n+1) k5)).setCell ⟨g19,0,none⟩ (.slice (some ⟨x12,0,none⟩) (n+1) k12)) x16 9 y16:=Qq.far (p:=⟨g19,0,none⟩) (qm Qq zx (by decide)) (.slice (some ⟨x12,0,none⟩) (n+1) k12);have aar:Below w1.heap.size w1 ((W2.setCell ⟨g18,0,none⟩ (.slice (some ⟨x5,0,none⟩) (n+1) k5)).setCell ⟨g19,0,none⟩ (.slice (some ⟨x12,0,none⟩) (n+1) k12)):=aas.setCell (p:=⟨g19,0,none⟩) b19 (.slice (some ⟨x12,0,none⟩) (n+1) k12);have dz2:=zu.cell 0 rfl;have fz2:=zu.frozen 0;have Xf:Bx (((W2.setCell ⟨g18,0,none⟩ (.slice (some ⟨x5,0,none⟩) (n+1) k5)).setCell ⟨g19,0,none⟩ (.slice (some ⟨x12,0,none⟩) (n+1) k12)).setCell ⟨g20,0,none⟩ (.slice (some ⟨x16,0,none⟩) (n+1) k16)) g17 180 (b_ (pt n)):=Xg.far (p:=⟨g20,0,none⟩) (n3) (.slice (some ⟨x16,0,none⟩) (n+1) k16);have Wv:Bx (((W2.setCell ⟨g18,0,none⟩ (.slice (some ⟨x5,0,none⟩) (n+1) k5)).setCell ⟨g19,0,none⟩ (.slice (some ⟨x12,0,none⟩) (n+1) k12)).setCell ⟨g20,0,none⟩ (.slice (some ⟨x16,0,none⟩) (n+1) k16)) g18 192 #[.slice (some ⟨x5,0,none⟩) (n+1) k5]:=Wx.far (p:=⟨g20,0,none⟩) (n5) (.slice (some ⟨x16,0,none⟩) (n+1) k16);have Ws:Bx (((W2.setCell ⟨g18,0,none⟩ (.slice (some ⟨x5,0,none⟩) (n+1) k5)).setCell ⟨g19,0,none⟩ (.slice (some ⟨x12,0,none⟩) (n+1) k12)).setCell ⟨g20,0,none⟩ (.slice (some ⟨x16,0,none⟩) (n+1) k16)) g19 192 #[.slice (some ⟨x12,0,none⟩) (n+1) k12]:=Wu.far (p:=⟨g20,0,none⟩) (n6) (.slice (some ⟨x16,0,none⟩) (n+1) k16);have Wn:Bx (((W2.setCell ⟨g18,0,none⟩ (.slice (some ⟨x5,0,none⟩) (n+1) k5)).setCell ⟨g19,0,none⟩ (.slice (some ⟨x12,0,none⟩) (n+1) k12)).setCell ⟨g20,0,none⟩ (.slice (some ⟨x16,0,none⟩) (n+1) k16)) g20 192 #[.slice (some ⟨x16,0,none⟩) (n+1) k16]:=by simpa using zu.set 0 (.slice (some ⟨x16,0,none⟩) (n+1) k16)
   have ZL:Bx (((W2.setCell ⟨g18,0,none⟩ (.slice (some ⟨x5,0,none⟩) (n+1) k5)).setCell ⟨g19,0,none⟩ (.slice (some ⟨x12,0,none⟩) (n+1) k12)).setCell ⟨g20,0,none⟩ (.slice (some ⟨x16,0,none⟩) (n+1) k16)) x5 9 y5:=XU.far (p:=⟨g20,0,none⟩) (qm XU zu (by decide)) (.slice (some ⟨x16,0,none⟩) (n+1) k16);have WE:Bx (((W2.setCell ⟨g18,0,none⟩ (.slice (some ⟨x5,0,none⟩) (n+1) k5)).setCell ⟨g19,0,none⟩ (.slice (some ⟨x12,0,none⟩) (n+1) k12)).setCell ⟨g20,0,none⟩ (.slice (some ⟨x16,0,none⟩) (n+1) k16)) x12 9 y12:=Qr.far (p:=⟨g20,0,none⟩) (qm Qr zu (by decide)) (.slice (some ⟨x16,0,none⟩) (n+1) k16);have WC:Bx (((W2.setCell ⟨g18,0,none⟩ (.slice (some ⟨x5,0,none⟩) (n+1) k5)).setCell ⟨g19,0,none⟩ (.slice (some ⟨x12,0,none⟩) (n+1) k12)).setCell ⟨g20,0,none⟩ (.slice (some ⟨x16,0,none⟩) (n+1) k16)) x16 9 y16:=Qp.far (p:=⟨g20,0,none⟩) (qm Qp zu (by decide)) (.slice (some ⟨x16,0,none⟩) (n+1) k16);have Yv:Below w1.heap.size w1 (((W2.setCell ⟨g18,0,none⟩ (.slice (some ⟨x5,0,none⟩) (n+1) k5)).setCell ⟨g19,0,none⟩ (.slice (some ⟨x12,0,none⟩) (n+1) k12)).setCell ⟨g20,0,none⟩ (.slice (some ⟨x16,0,none⟩) (n+1) k16)):=aar.setCell (p:=⟨g20,0,none⟩) b20 (.slice (some ⟨x16,0,none⟩) (n+1) k16);have hfin:Tl n c e w.heap.size g20 g17 g18 g19 (((W2.setCell ⟨g18,0,none⟩ (.slice (some ⟨x5,0,none⟩) (n+1) k5)).setCell ⟨g19,0,none⟩ (.slice (some ⟨x12,0,none⟩) (n+1) k12)).setCell ⟨g20,0,none⟩ (.slice (some ⟨x16,0,none⟩) (n+1) k16)):=⟨B0.call Yv,Xf,P6 Wv l5 ZL z5 f5,P6 Ws l12 WE z12 f12,P6 Wn l16 WC z16 f16⟩
   have hbF:=aj hb Yv;clear R17 XI o19 o20 m5 m12 m16 Xh Xg Xf Wy Wx Wv zx Wu Ws Wp zu Wn XV XU ZL Qs Qr WE Qq Qp WC aas aar Yv hbR B0 B1 hba f5 f12 f16 z5 z12 z16;go_wp2;exact bodyPost_ret (results_tmp2 rfl _ _ _) rfl ⟨⟨_,_,_,_,_,rfl,hfin⟩,hbF⟩
theorem nV (n k:Nat) (c e:Int) (qa qb:List UInt8) (w:World) (hn:n<=50) (hk:k<=n+1) (h0:0<=c) (h1:c<=e) (h2:e<=1000) (h3:1<=e) (lq:LQ (Tb.Pq n k c (e-c)) qa qb) (hE:Env w) :
 aW 107 #[.int .i64 n,.int .i64 k,.agg #[.int .i64 c,.int .i64 e]] w (.tuple #[.agg #[.string ⟨qa.toArray⟩,.string ⟨qb.toArray⟩],.int .i64 0]):=by
 have B0:=(Bx.mk w 29 #[.int .i64 c,.int .i64 e]).new (.cells #[.string ⟨#[]⟩,.string ⟨#[]⟩] 51);have B1:=Bx.mk (w.alloc (.cells #[.int .i64 c,.int .i64 e] 29)) 51 #[.string ⟨#[]⟩,.string ⟨#[]⟩];rw [ah]at B1;have hb:=bNew (au w (.cells #[.int .i64 c,.int .i64 e] 29)) (.cells #[.string ⟨#[]⟩,.string ⟨#[]⟩] 51);have c0:=B0.cell 0 rfl;have c1:=B0.cell 1 rfl;have hC:=yX n c e _ hn h0 h1 h2 h3 (hE.below hb);have hI:=fun w0=>mV k 0 ((n:Int)+1) w0
 rw[Tp.within_iff.2 ⟨by omega,by omega⟩]at hI;have hEE:=fun w1 (hb1:Below w.heap.size w w1)=>hE.below hb1
 clear hE
 go_enter Tryz.func107,Tryz.ntmps107
 go_wp2_with fail;refine hC.mono ?_;rintro _ w1 ⟨⟨gn,ga,gr,gy,go,rfl,hT⟩,hb1⟩;replace hb:=aj hb hb1;replace B1:=B1.call hb1;have hK:=FM n k c e gn ga gr gy go qa qb w1 hT hn hk h0 h1 h2 h3 lq (hEE w1 hb);clear hC hb1 B0 c0 c1 hT hEE lq
 go_wp2_with (first|(go_at_call 152;refine (hI _).mono ?_;rintro e w2 ⟨rfl,rfl⟩;clear hI))
 refine hK.mono ?_;rintro _ w2 ⟨rfl,hb2⟩;clear hK;have c0:=(B1.call hb2).cell 0 rfl;have c1:=(B1.call hb2).cell 1 rfl;have f0:=(B1.call hb2).frozen 0;have f1:=(B1.call hb2).frozen 1;have B4:=((B1.call hb2).set 0 (.string ⟨qa.toArray⟩)).set 1 (.string ⟨qb.toArray⟩);have hb4:=aJ (aJ (aj hb hb2) (p:=⟨w.heap.size+1,0,none⟩) (Nat.le_succ _) (.string ⟨qa.toArray⟩)) (p:=⟨w.heap.size+1,1,none⟩) (Nat.le_succ _) (.string ⟨qb.toArray⟩);go_wp2;exact bodyPost_ret (aU rfl _ _ rfl rfl B4) rfl ⟨rfl,hb4⟩
end Go.Proofs.YtelljijajgiabaaGreatDoor

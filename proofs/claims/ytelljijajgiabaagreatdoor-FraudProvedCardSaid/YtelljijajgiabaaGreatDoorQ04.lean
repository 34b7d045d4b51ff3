import Derived.Test.YtelljijajgiabaaGreatDoorQ03
set_option linter.unusedVariables false
set_option linter.unusedSimpArgs false
set_option maxRecDepth 100000
set_option maxHeartbeats 8000000
namespace Ig
theorem Jy:∀(b:List UInt8) (n:Nat),b.foldl (fun n c=>10*n+(c.toNat-48)) n=n*10 ^ b.length+nv b
 | [],n=>by simp[nv]
 | c :: b,n=>by
  have h1:=Jy b (10*n+(c.toNat-48));have h2:=Jy b (10*0+(c.toNat-48))
  unfold nv at h1 h2 ⊢
  rw[List.foldl_cons,List.foldl_cons,h1,h2,List.length_cons,Nat.pow_succ,Nat.add_mul,Nat.add_mul,Nat.mul_comm 10 n,Nat.mul_assoc,Nat.mul_comm 10 (10 ^ b.length)];omega
theorem XK (a b:List UInt8):nv (a++b)=nv a*10 ^ b.length+nv b:=by
 rw[←Jy]
 unfold nv
 rw[List.foldl_append]
theorem WA:∀(k:Nat) {s:List UInt8},s.length=k->s.all xR=true->nv s<10 ^ k
 | 0,s,h,_=>by rw[List.length_eq_zero_iff.1 h];decide
 | k+1,s,h,hd=>by
  rcases List.eq_nil_or_concat s with h0|⟨m,c,h0⟩
  · rw[h0]at h;simp at h
  · obtain rfl:s=m++[c]:=by simpa using h0
    rw[List.all_append,Bool.and_eq_true]at hd;have ih:=WA k (s:=m) (by simpa using h) hd.1;have hc:c.toNat<=57:=by have:=hd.2;simp[xR]at this;omega
    rw[yK,Nat.pow_succ];omega
structure vX (D:List UInt8) (a m:Nat) (out:List Int):Prop where
 le:m<=D.length
 gr:Gr out
 eq:aT out+10000 ^ out.length*(nv (D.take m):Int)=a
 lo:out.length+m<=D.length
theorem Gq (a:Nat):vX (Go.Lib.decDigits a) a (Go.Lib.decDigits a).length []:=⟨Nat.le_refl _,(fun g h=>by cases h),by rw[List.take_length,Eh];simp[aT],by simp⟩
theorem Ia {D:List UInt8} (hD:D.all xR=true) {m:Nat}:nv ((D.take m).drop (m-4))<10000:=by
 have h1:((D.take m).drop (m-4)).all xR=true:=List.all_eq_true.2 fun c hc=>List.all_eq_true.1 hD c (List.mem_of_mem_take (List.mem_of_mem_drop hc))
 have h2:=WA _ rfl h1;have h3:((D.take m).drop (m-4)).length<=4:=by simp;omega
 exact Nat.lt_of_lt_of_le h2 (Nat.pow_le_pow_right (n:=10) (by decide) h3)
theorem Jv {D:List UInt8} {a m:Nat} {out:List Int} (hD:D.all xR=true) (h:vX D a m out) (hm:0<m):vX D a (m-4) (out++[(nv ((D.take m).drop (m-4)):Int)]):=by
 have hlt:=Ia hD (m:=m);refine ⟨by have:=h.le;omega,fun g hg=>?_,?_,by have:=h.lo;simp;omega⟩
 · rcases List.mem_append.1 hg with hg|hg
   · exact h.gr g hg
   · obtain rfl:g=_:=by simpa using hg
     omega
 · have hs:D.take m=D.take (m-4)++(D.take m).drop (m-4):=by
    conv=>lhs;rw[←List.take_append_drop (m-4) (D.take m),List.take_take,Nat.min_eq_left (by omega)]
   have hv:nv (D.take m)=nv (D.take (m-4))*10000+nv ((D.take m).drop (m-4)):=by
    conv=>lhs;rw[hs,XK]
    by_cases h4:4<=m
    · have:((D.take m).drop (m-4)).length=4:=by have:=h.le;simp;omega
      rw[this]
    · rw[show m-4=0 by omega];simp[nv]
   rw[←h.eq,hv,dF,List.length_append,List.length_singleton,Int.pow_succ];generalize nv ((D.take m).drop (m-4))=n;generalize nv (D.take (m-4))=q;generalize (10000:Int) ^ out.length=p;simp only[aT];rw [Int.natCast_add,Int.natCast_mul,Int.mul_add,Int.mul_add,Int.mul_assoc];rw [show ((10000:Nat):Int)=10000 from rfl,Int.mul_comm 10000 (q:Int)];omega
theorem Na {D:List UInt8} {a:Nat} {out:List Int} (h:vX D a 0 out):bf out=grp a:=by
 rw[kN h.gr];have:=h.eq;simp [nv]at this
 rw[this,Int.toNat_natCast]
end Ig
namespace Go.Proofs.YtelljijajgiabaaGreatDoor
open Go.RowKit Go.Shelf
theorem wO {W:World} {B:Nat} {v:Value} {out:List Int} (h:W.ownsRow B 3 1 v out.length (out.flatMap aO)):∃A cap,v=.slice A out.length cap/\At 1 aO W W.heap.size A out/\out.length<=cap/\cap<=maxLen/\∀b off,A=some ⟨b,off,none⟩->B<=b:=by
 rcases h.2 with ⟨rfl,h0⟩|⟨g,cap,cur,rfl,h2,h3,h4,h5,h6,h7⟩
 · obtain rfl:out=[]:=List.length_eq_zero_iff.1 h0;exact ⟨none,0,rfl,At.nil,Nat.le_refl _,Nat.zero_le _,fun b off h=>by cases h⟩
 · obtain⟨A,e,hA,hc⟩:=cO.at (f:=aO) (size:=1) (fun _=>rfl) (show cO 3 1 B cap out.length (out.flatMap aO) (.slice (some ⟨g,0,none⟩) out.length cap) W from ⟨g,cur,rfl,h2,h4,h3,h6,h7⟩);refine ⟨A,cap,e,hA,hc,h5,fun b off hb=>?_⟩;rw [hb]at e;simp only[Value.slice.injEq,Option.some.injEq,Addr.mk.injEq]at e;omega
theorem dG {e:TypeId} {B n size:Nat} {v:Value} {bs:List Value} {w w':World} (h:w.ownsRow B e size v n bs) (hb:Below w.heap.size w w'):w'.ownsRow B e size v n bs:=by
 refine⟨h.1,?_⟩
 rcases h.2 with h1|⟨g,cap,cur,h1,h2,h3,h4⟩
 · exact .inl h1
 · exact .inr ⟨g,cap,cur,h1,h2,(hb.block g (Array.getElem?_eq_some_iff.1 h3).1).trans h3,h4⟩
theorem Qa {e:TypeId} {B n size:Nat} {v:Value} {bs:List Value} {w:World} (h:w.ownsRow B e size v n bs) {p:Addr} (hp:p.block<B) (u:Value):(w.setCell p u).ownsRow B e size v n bs:=by
 refine⟨h.1,?_⟩
 rcases h.2 with h1|⟨g,cap,cur,h1,h2,h3,h4⟩
 · exact .inl h1
 · exact .inr ⟨g,cap,cur,h1,h2,(Below.heap_setCell w p u g (by omega)).trans h3,h4⟩
theorem G_ {e t:TypeId} {B n size g:Nat} {v:Value} {bs:List Value} {cs:Array Value} {w w':World} (ho:w.ownsRow B e size v n bs) (hg:w.grownBy w' v.ownBlock) (hB:Bx w g t cs) (hlt:g<B):Bx w' g t cs :=
 (hg.block g hB.lt (fun h=>by have:=(ho.lt g h.symm).1;omega)).trans hB
theorem VG {s:List UInt8} (h:s.all Ig.xR=true):∀c∈s,48<=c.toNat/\c.toNat<=57:=fun c hc=>by
 have:=List.all_eq_true.1 h c hc;simpa [Ig.xR] using this
def lenOf:Value->Nat
 | .string b=>b.size
 | _=>0
theorem jv {fn:Func} {t:Tmp} {g:Nat} {neg:Bool} {A:Option Addr} {n c:Nat} (h:fn.results=#[.cell t 129]) (tmps:Array Value) (w:World) (ht:tmps.getD t undef=.pointer (some ⟨g,0,none⟩)) (hB:Bx w g 129 #[.bool neg,.slice A n c]) :
 (results fn tmps).run Tryz.prog w=.ok (.agg #[.bool neg,.slice A n c]) w:=by
 have h0:=hB.cell 0 rfl;have h1:=hB.cell 1 rfl;have ht':tmps[t]?.getD undef=.pointer (some ⟨g,0,none⟩):=by simpa using ht
 simp only[results,h];simp [go_sem,ht',h0,h1,loadVar]
theorem parse_any (z:Int) (w:World) (hz:Ig.fits z) :
 Calls Tryz.prog 136 #[.string ⟨(Lib.itoa z).toArray⟩] w fun e w'=>∃v,e=.returned (.agg #[.bool (decide (z<0)),v])/\aI w' z.natAbs v/\Below w.heap.size w w':=by
 have hT:=fun w0=>nC (Lib.itoa z) w0
 have hlen:(decide ((Lib.decDigits z.natAbs).length<(Lib.itoa z).length))=decide (z<0):=by
  by_cases h:0<=z
  · rw[Ig.itoa_nonneg h,decide_eq_false (by omega),decide_eq_false (by omega)]
  · rw[Ig.itoa_neg (by omega),decide_eq_true (by rw[List.length_cons];omega),decide_eq_true (by omega)]
 have hD:=Ig.pR z.natAbs;have hst:=Ig.Gq z.natAbs;have hDl:(Lib.decDigits z.natAbs).length<=200:=by rw[Ig.jC];exact (Ig.iF z).1 hz
 rw[Ig.rJ]at hT;generalize decide (z<0)=neg at *;generalize z.natAbs=a at *;generalize Lib.itoa z=s at *;generalize Lib.decDigits a=D at *
 go_enter Tryz.func136,Tryz.ntmps136
 go_wp2_with (go_at_call 176;refine (hT _).mono ?_;rintro _ _ ⟨rfl,rfl⟩)
 have hb0:=bNew (au w (.cells #[.bool false,.slice none 0 0] 129)) (.cells #[.bool neg,.slice none 0 0] 129);have B1:=(Bx.mk w 129 #[.bool false,.slice none 0 0]).new (.cells #[.bool neg,.slice none 0 0] 129);have B2:=Bx.mk (w.alloc (.cells #[.bool false,.slice none 0 0] 129)) 129 #[.bool neg,.slice none 0 0];have hsz:((w.alloc (.cells #[.bool false,.slice none 0 0] 129)).alloc (.cells #[.bool neg,.slice none 0 0] 129)).heap.size=w.heap.size+2:=by rw[ah,ah]
 rw[ah]at B2;generalize ((w.alloc (.cells #[.bool false,.slice none 0 0] 129)).alloc (.cells #[.bool neg,.slice none 0 0] 129))=W0 at *;clear hT hlen
 go_loopw [3,5,6,7] (fun s3 s5 s6 s7 wr=>∃(m:Nat) (out:List Int) (v:Value),s3=.string ⟨(D.take m).toArray⟩/\Kp (Ig.vX D a m out)/\m<=D.length/\out.length<=200/\Bx wr w.heap.size 129 #[.bool false,.slice none 0 0]/\Bx wr (w.heap.size+1) 129 #[.bool neg,v]/\wr.ownsRow (w.heap.size+2) 3 1 v out.length (out.flatMap aO)/\w.heap.size+2<=wr.heap.size/\Below w.heap.size w wr)
  (fun s3 s5 s6 s7 _=>lenOf s3)
 case atStart=>exact⟨D.length,[],.slice none 0 0,by rw[List.take_length],⟨hst⟩,Nat.le_refl _,by simp,B1,B2,World.ownsRow_nil _ _ _ _,by omega,hb0⟩
 case round =>
  clear hb0 B1 B2 hsz hst;obtain ⟨m,out,v,rfl,hp,hmD,hol,B1,B2,hown,hle,hb⟩:=hrel;by_cases h0:0<m
  · have hnext:=Kp.mk (Ig.Jv hD hp.out h0);have hch:=Ig.Ia hD (m:=m);have hlo:=hp.out.lo;have hdig:((D.take m).drop (m-4)).all Ig.xR=true:=List.all_eq_true.2 fun c hc=>List.all_eq_true.1 hD c (List.mem_of_mem_take (List.mem_of_mem_drop hc))
    have hcl:((D.take m).drop (m-4)).length<=4:=by simp;omega
    have hcn:(D.take m).drop (m-4)≠[]:=by
     intro h;have:=congrArg List.length h;simp at this;omega
    have hA:=fun w0=>TU ((D.take m).drop (m-4)) (Ig.nv ((D.take m).drop (m-4)):Int) w0 (by omega) (Iw _ (VG hdig) hcn (by omega))
    have htk:(D.take m).take (m-4)=D.take (m-4):=by rw[List.take_take,Nat.min_eq_left (by omega)]
    have htl:(D.take m).length=m:=by simp;omega
    clear hdig hcl hcn;generalize Ig.nv ((D.take m).drop (m-4))=n at *;generalize hch2:(D.take m).drop (m-4)=ch at *;have hmx:max (0:Int) ((m:Int)-4)=((m-4:Nat):Int):=by omega
    have hm4:m-4<=m:=by omega
    clear hp;generalize D.take m=t at *;generalize ht':D.take (m-4)=t' at *;generalize hk:m-4=k at *;have c1:=B2.cell 1 rfl;have htc:List.take (m-k) ch=ch:=by rw[←hch2];exact List.take_of_length_le (by rw[List.length_drop,htl];omega)
    go_wp2_with fail;refine (hA _).mono ?_;rintro _ w1 ⟨rfl,hb1⟩;clear c1 hA htc;replace B1:=B1.call hb1;replace B2:=B2.call hb1;replace hown:=dG hown hb1;replace hb:=aj hb hb1;replace hle:=Nat.le_trans hle hb1.size;have c1:=B2.cell 1 rfl;obtain ⟨i0,z0,hi,hz,hs1,hz1,hby⟩:=wV;have hBt:=Bx.mk w1 3 #[.int .i64 (n:Int)]
    go_wp2_with (at_builtin;refine wpList_append_own _ rfl (.tmp 31) (.tmp 33) 127 rfl (w.heap.size+2) 3 i0 z0 1 8 Tryz.underlying127 hi hz hs1 hby hz1 (by decide) _ _ _ rfl (hown.alloc _) ⟨w1.heap.size,0,none⟩ 1 1 [.int .i64 (n:Int)] rfl rfl ?c1 ?c2 ?c3 ?c4 ?c5 ?_)
    case c1 =>
     intro j u hj
     match j,hj with
     | 0,hj=>simp at hj;subst hj;simp[Addr.add]
    case c2=>intro u hu;simp at hu;subst hu;rfl
    case c3=>unfold maxLen;omega
    case c4=>omega
    case c5=>rw[ah];omega
    intro v' w2 hown' hgrow _;have hbn:=au w1 (.cells #[.int .i64 (n:Int)] 3);have hown1:=dG hown hbn;have TT:=G_ hown1 hgrow (B1.call hbn) (by omega);have Zu:=G_ hown1 hgrow (B2.call hbn) (by omega);have hb':=(aj hb hbn).grown hgrow (by rw[ah];omega) (fun k hk=>by have:=(hown1.lt k hk).1;omega);have hle':w.heap.size+2<=w2.heap.size:=Nat.le_trans (Nat.le_trans hle hbn.size) hgrow.size
    obtain⟨ao,n',cap,rfl⟩:∃ao n' cap,v'=.slice ao n' cap:=by
     rcases hown'.2 with ⟨hv,_⟩|⟨g,cap,cur,hv,_⟩
     · exact⟨_,_,_,hv⟩
     · exact⟨_,_,_,hv⟩
    have d1:=Zu.cell 1 rfl;have f1:=Zu.frozen 1;clear c1 hBt hgrow hown hown1 B1 B2 hbn hb hle hi hz hs1 hz1 hby;go_wp2;refine ⟨⟨k,out++[(n:Int)],.slice ao n' cap,?_,hnext,by omega,by rw[List.length_append,List.length_singleton];omega,TT.far (by simp) _,Zu.set 1 _,?_,?_,aJ hb' (by show w.heap.size<=w.heap.size+1;omega) _⟩,?_⟩
    · rw[ht']
    · rw[List.length_append,List.length_singleton,List.flatMap_append];exact Qa hown' (by show w.heap.size+1<w.heap.size+2;omega) _
    · exact Nat.le_trans hle' (KeepsOthers.setCell w2 _ _).size
    · simp only[lenOf]
      show t'.length<t.length
      rw[←htk,List.length_take,htl];omega
  · obtain rfl:m=0:=by omega
    have hfin:=Ig.Na hp.out;clear hp hD hmD;obtain ⟨A,cap,rfl,hA,hcap,hcm,hAB⟩:=wO hown;have hT:=jk out A cap wr hA hcap (by omega);have hN:=wP hA hcap hcm ⟨hfin⟩;have hAt:At 1 aO wr wr.heap.size A (Ig.bf out):=by rw[←jQ];exact hA.take _
    clear hown hA hN;have hlk:Kp ((Ig.grp a).length=(Ig.bf out).length):=⟨by rw[hfin]⟩
    have htl:=Kp.mk (show (Ig.bf out).length<=cap by rw[←jQ,List.length_take];omega);rw [hfin]at hAt;clear hfin;generalize (Ig.bf out).length=n at *;have c0:=B2.cell 0 rfl;have c1:=B2.cell 1 rfl;have f1:=B2.frozen 1;have Zu:=B2.set 1 (.slice A n cap);have TT:=B1.far (p:=⟨w.heap.size+1,1,none⟩) (by simp) (.slice A n cap);have hb':=aJ hb (p:=⟨w.heap.size+1,1,none⟩) (by show w.heap.size<=w.heap.size+1;omega) (.slice A n cap);have hAt':=EY (g:=w.heap.size+1) (o:=1) hAt (fun b off h=>by have:=hAB b off h;omega) (.slice A n cap);clear B1 hb hAt;go_wp2_with fail;refine hT.mono ?_;rintro _ _ ⟨rfl,rfl⟩;clear hT;have d0:=Zu.cell 0 rfl;have d1:=Zu.cell 1 rfl;have e0:=TT.cell 0 rfl;have e1:=TT.cell 1 rfl;have g0:=TT.frozen 0;have g1:=TT.frozen 1;have B1s:=(TT.set 0 (.bool neg)).set 1 (.slice A n cap);have hbs:=aJ (aJ hb' (p:=⟨w.heap.size,0,none⟩) (Nat.le_refl _) (.bool neg)) (p:=⟨w.heap.size,1,none⟩) (Nat.le_refl _) (.slice A n cap);have hAs:=EY (g:=w.heap.size) (o:=1) (EY (g:=w.heap.size) (o:=0) hAt' (fun b off h=>by have:=hAB b off h;omega) (.bool neg)) (fun b off h=>by have:=hAB b off h;omega) (.slice A n cap);go_wp2;refine bodyPost_ret (jv rfl _ _ rfl B1s) rfl ⟨_,rfl,⟨A,cap,by rw[hlk.out],hAs.more ?_,by rw[hlk.out];exact htl.out,hcm⟩,hbs⟩;exact Nat.le_trans (KeepsOthers.setCell wr _ _).size (Nat.le_trans (KeepsOthers.setCell _ _ _).size (KeepsOthers.setCell _ _ _).size)
theorem aV {z:Int} (h:Ig.fits z):(Lib.itoa z).length<=1000000:=by
 have h1:=(Ig.iF z).1 h;have h2:=Ig.jC z.natAbs;by_cases hz:0<=z
 · rw[Ig.itoa_nonneg hz];omega
 · rw[Ig.itoa_neg (by omega),List.length_cons];omega
theorem D6 {fn:Func} {t u s:Tmp} {g g':Nat} {n n':Bool} {v v':Value} {A A':Option Addr} {l l' c c':Nat} (hv:v=.slice A l c) (hv':v'=.slice A' l' c') (h:fn.results=#[.cell t 129,.cell u 129,.tmp s]) (tmps:Array Value) (w:World) (ht:tmps.getD t undef=.pointer (some ⟨g,0,none⟩)) (hu:tmps.getD u undef=.pointer (some ⟨g',0,none⟩))
 (hB:Bx w g 129 #[.bool n,v]) (hB':Bx w g' 129 #[.bool n',v']) :
 (results fn tmps).run Tryz.prog w=.ok (.tuple #[.agg #[.bool n,v],.agg #[.bool n',v'],tmps.getD s undef]) w:=by
 subst hv hv';have h0:=hB.cell 0 rfl;have h1:=hB.cell 1 rfl;have h0':=hB'.cell 0 rfl;have h1':=hB'.cell 1 rfl;have ht':tmps[t]?.getD undef=.pointer (some ⟨g,0,none⟩):=by simpa using ht
 have hu':tmps[u]?.getD undef=.pointer (some ⟨g',0,none⟩):=by simpa using hu
 simp only[results,h];simp [go_sem,ht',hu',h0,h0',h1,h1',loadVar]
theorem VB {W:World} {g o:Nat} {neg:Bool} {A A':Option Addr} {n c B:Nat} {p:List Int} (hB:Bx W g 129 #[.bool neg,.slice A n c]) (h:At 1 aO W B A' p) (u:Value):At 1 aO (W.setCell ⟨g,o,none⟩ u) B A' p:=fun h0=>by
 obtain⟨b,off,e,hb,hc⟩:=h h0
 have hne:b≠g:=by
  rintro rfl;have h1:=hc 0 p[0] (List.getElem?_eq_getElem h0) 0 (.int .i64 p[0]) rfl
  unfold Bx at hB
  rw[World.cell?,hB]at h1
  rcases Nat.eq_zero_or_pos off with h2|h2
  · subst h2;simp at h1
  · obtain⟨k,rfl⟩:=Nat.exists_eq_succ_of_ne_zero (Nat.ne_of_gt h2)
    rcases k with _|k <;> simp at h1
 exact⟨b,off,e,hb,fun i c hi j v hj=>(ni (Below.heap_setCell W ⟨g,o,none⟩ u b hne)).trans (hc i c hi j v hj)⟩
theorem fE {W:World} {g o:Nat} {neg:Bool} {A:Option Addr} {n c a:Nat} {v:Value} (hB:Bx W g 129 #[.bool neg,.slice A n c]) (h:aI W a v) (u:Value):aI (W.setCell ⟨g,o,none⟩ u) a v:=by
 obtain⟨A',cap,h1,h2,h3,h4⟩:=h.out;exact ⟨A',cap,h1,(VB hB h2 u).more (KeepsOthers.setCell W _ u).size,h3,h4⟩
theorem both_any (x y:Int) (w:World) (hx:Ig.fits x) (hy:Ig.fits y) :
 Calls Tryz.prog 97 #[.string ⟨(Lib.itoa x).toArray⟩,.string ⟨(Lib.itoa y).toArray⟩] w fun e w'=>∃u v,e=.returned (.tuple #[.agg #[.bool (decide (x<0)),u],.agg #[.bool (decide (y<0)),v],.bool true])/\aI w' x.natAbs u/\aI w' y.natAbs v/\Below w.heap.size w w':=by
 have hb0:=bNew (au w (.cells #[.bool false,.slice none 0 0] 129)) (.cells #[.bool false,.slice none 0 0] 129);have B1:=(Bx.mk w 129 #[.bool false,.slice none 0 0]).new (.cells #[.bool false,.slice none 0 0] 129);have B2:=Bx.mk (w.alloc (.cells #[.bool false,.slice none 0 0] 129)) 129 #[.bool false,.slice none 0 0];have hsz:((w.alloc (.cells #[.bool false,.slice none 0 0] 129)).alloc (.cells #[.bool false,.slice none 0 0] 129)).heap.size=w.heap.size+2:=by rw[ah,ah]
 rw[ah]at B2;have hV1:=fun w0=>nM (Lib.itoa x) (aV hx) w0
 have hV2:=fun w0=>nM (Lib.itoa y) (aV hy) w0
 rw[Ig.bQ hx]at hV1;rw [Ig.bQ hy]at hV2;have hP1:=fun w0=>parse_any x w0 hx
 have hP2:=fun w0=>parse_any y w0 hy
 generalize decide (x<0)=nx at *;generalize decide (y<0)=ny at *;generalize x.natAbs=ax at *;generalize y.natAbs=ay at *;generalize Lib.itoa x=sx at *;generalize Lib.itoa y=sy at *;clear hx hy
 go_enter Tryz.func97,Tryz.ntmps97
 go_wp2_with fail;generalize ((w.alloc (.cells #[.bool false,.slice none 0 0] 129)).alloc (.cells #[.bool false,.slice none 0 0] 129))=W0 at *;refine (hV1 _).mono ?_;rintro _ w1 ⟨rfl,hb1⟩;go_wp2_with fail;refine (hV2 _).mono ?_;rintro _ w2 ⟨rfl,hb2⟩;go_wp2_with fail;refine (hP1 _).mono ?_;rintro _ w3 ⟨u,rfl,hu,hb3⟩;go_wp2_with fail;refine (hP2 _).mono ?_;rintro _ w4 ⟨v,rfl,hv,hb4⟩;replace hu:=hu.call hb4;replace hb1:=aj (aj (aj hb1 hb2) hb3) hb4;clear hV1 hV2 hP1 hP2 hb2 hb3 hb4;obtain ⟨A1,c1,rfl,-⟩:=id hu.out;obtain ⟨A2,c2,rfl,-⟩:=id hv.out;replace B1:=B1.call hb1;replace B2:=B2.call hb1;have Zf:=B1.set 0 (.bool nx);have u1:=fE (o:=0) B1 hu (.bool nx);have v1:=fE (o:=0) B1 hv (.bool nx);have u2:=fE (o:=1) Zf u1 (.slice A1 (Ig.grp ax).length c1);have v2:=fE (o:=1) Zf v1 (.slice A1 (Ig.grp ax).length c1);have B1s:=Zf.set 1 (.slice A1 (Ig.grp ax).length c1);have B2r:=(B2.far (p:=⟨w.heap.size,0,none⟩) (by simp) (.bool nx)).far (p:=⟨w.heap.size,1,none⟩) (by simp) (.slice A1 (Ig.grp ax).length c1);have B2a:=B2r.set 0 (.bool ny);have u3:=fE (o:=0) B2r u2 (.bool ny);have v3:=fE (o:=0) B2r v2 (.bool ny);have u4:=fE (o:=1) B2a u3 (.slice A2 (Ig.grp ay).length c2);have v4:=fE (o:=1) B2a v3 (.slice A2 (Ig.grp ay).length c2);have B2s:=B2a.set 1 (.slice A2 (Ig.grp ay).length c2);have B1t:=(B1s.far (p:=⟨w.heap.size+1,0,none⟩) (by simp) (.bool ny)).far (p:=⟨w.heap.size+1,1,none⟩) (by simp) (.slice A2 (Ig.grp ay).length c2);have hbs:=aJ (aJ (aJ (aJ (aj hb0 hb1) (p:=⟨w.heap.size,0,none⟩) (Nat.le_refl _) (.bool nx)) (p:=⟨w.heap.size,1,none⟩) (Nat.le_refl _) (.slice A1 (Ig.grp ax).length c1)) (p:=⟨w.heap.size+1,0,none⟩) (Nat.le_succ _) (.bool ny)) (p:=⟨w.heap.size+1,1,none⟩) (Nat.le_succ _) (.slice A2 (Ig.grp ay).length c2);have c0:=B1.cell 0 rfl;have c1:=B1.cell 1 rfl;have d0:=B2.cell 0 rfl;have d1:=B2.cell 1 rfl;have f0:=B1.frozen 0;have f1:=B1.frozen 1;have g0:=B2.frozen 0;have g1:=B2.frozen 1;clear u1 u2 u3 v1 v2 v3 hu hv;generalize (Ig.grp ax).length=lx at *;generalize (Ig.grp ay).length=ly at *;go_wp2;refine bodyPost_ret (D6 rfl rfl rfl _ _ rfl rfl B1t B2s) rfl ⟨_,_,rfl,u4,v4,hbs⟩
theorem Vy {a b:Nat} (h:b<=a):decide (Ig.dX a b ≥ 0)=true:=by
 rcases Nat.lt_or_ge b a with h1|h1
 · rw[Ig.kL h1];rfl
 · rw[show a=b by omega,Ig.nR];rfl
theorem Jd (n1:Bool) (a b:Nat) (u v:Value) (w:World) (h1:aI w a u) (h2:aI w b v) (la:(Ig.grp a).length<=80000) (lb:(Ig.grp b).length<=80000) :
 Calls Tryz.prog 158 #[.agg #[.bool n1,u],.agg #[.bool n1,v]] w fun e w'=>∃r,e=.returned (.agg #[.bool n1,r])/\aI w' (a+b) r/\Below w.heap.size w w':=by
 have hb0:=bNew (bNew (au w (.cells #[.bool n1,u] 129)) (.cells #[.bool n1,v] 129)) (.cells #[.bool false,.slice none 0 0] 129);have B1:=((Bx.mk w 129 #[.bool n1,u]).new (.cells #[.bool n1,v] 129)).new (.cells #[.bool false,.slice none 0 0] 129);have B2:=(Bx.mk (w.alloc (.cells #[.bool n1,u] 129)) 129 #[.bool n1,v]).new (.cells #[.bool false,.slice none 0 0] 129);have B3:=Bx.mk ((w.alloc (.cells #[.bool n1,u] 129)).alloc (.cells #[.bool n1,v] 129)) 129 #[.bool false,.slice none 0 0];have hsz:(((w.alloc (.cells #[.bool n1,u] 129)).alloc (.cells #[.bool n1,v] 129)).alloc (.cells #[.bool false,.slice none 0 0] 129)).heap.size=w.heap.size+3:=by rw[ah,ah,ah]
 rw[ah]at B2;rw [ah,ah]at B3;have h1':=h1.call hb0;have h2':=h2.call hb0;obtain ⟨A1,c1,rfl,-⟩:=id h1.out;obtain ⟨A2,c2,rfl,-⟩:=id h2.out;clear h1 h2;generalize hla:(Ig.grp a).length=la' at *;generalize hlb:(Ig.grp b).length=lb' at *;replace hla:=Kp.mk hla;replace hlb:=Kp.mk hlb
 go_enter Tryz.func158,Tryz.ntmps158
 go_wp2_with fail;obtain ⟨W0,hW0⟩:∃W0,W0=(((w.alloc (.cells #[.bool n1,.slice A1 la' c1] 129)).alloc (.cells #[.bool n1,.slice A2 lb' c2] 129)).alloc (.cells #[.bool false,.slice none 0 0] 129)):=⟨_,rfl⟩
 rw[←hW0]at hb0 B1 B2 B3 hsz h1' h2' ⊢;clear hW0;have q10:=fun w1 (hb1:Below W0.heap.size W0 w1)=>(hb1.cell (p:=⟨w.heap.size,0,none⟩) B1.lt).trans (B1.cell 0 rfl)
 have q11:=fun w1 (hb1:Below W0.heap.size W0 w1)=>(hb1.cell (p:=⟨w.heap.size,1,none⟩) B1.lt).trans (B1.cell 1 rfl)
 have Js:=fun w1 (hb1:Below W0.heap.size W0 w1)=>(hb1.cell (p:=⟨w.heap.size+1,0,none⟩) B2.lt).trans (B2.cell 0 rfl)
 have Jr:=fun w1 (hb1:Below W0.heap.size W0 w1)=>(hb1.cell (p:=⟨w.heap.size+1,1,none⟩) B2.lt).trans (B2.cell 1 rfl)
 refine aA [ak (.pointer (some ⟨w.heap.size,0,none⟩)),ak (.bool n1),ak (.pointer (some ⟨w.heap.size,1,none⟩)),ak (.slice A1 la' c1),ak (.pointer (some ⟨w.heap.size+1,1,none⟩)),ak (.slice A2 lb' c2),(fun x W=>aI W (a+b) x),(fun x W=>∃r,x=.agg #[.bool n1,r]/\aI W (a+b) r)] 8 42 (by kernel_rfl) rfl rfl (by kernel_rfl) ?_ ?_ ?_
 · simp only[bV]
   and_intros <;> first|exact aF _|exact fun v w w' h hb=>h.call hb|exact fun v w w' ⟨r,e,h⟩ hb=>⟨r,e,h.call hb⟩|trivial
 · simp only[Users,List.take,List.length];refine ⟨?_,?_,?_,?_,?_,?_,?_,?_,trivial⟩;all_goals (intro vs w1 hb1 hd;have p10:=q10 w1 hb1;have p11:=q11 w1 hb1;have p20:=Js w1 hb1;have p21:=Jr w1 hb1;have hN1:=h1'.call hb1;have Ro:=h2'.call hb1;clear q10 q11 Js Jr;simp only[aQ,Act.put,List.nil_append,List.cons_append,List.setIfInBounds_toArray,List.set_cons_succ,List.set_cons_zero,Nat.reduceAdd])
   · clear hd;go_wp2;exact⟨Below.refl _ _,rfl⟩
   · have e:vs 0=.pointer (some ⟨w.heap.size,0,none⟩):=hd 0 rfl;clear hd;rw[e];go_wp2;exact⟨Below.refl _ _,rfl⟩
   · clear hd;go_wp2;exact⟨Below.refl _ _,rfl⟩
   · have e:vs 2=.pointer (some ⟨w.heap.size,1,none⟩):=hd 2 rfl;clear hd;rw[e];go_wp2;exact⟨Below.refl _ _,rfl⟩
   · clear hd;go_wp2;exact⟨Below.refl _ _,rfl⟩
   · have e:vs 4=.pointer (some ⟨w.heap.size+1,1,none⟩):=hd 4 rfl;clear hd;rw[e];go_wp2;exact⟨Below.refl _ _,rfl⟩
   · have e:vs 3=.slice A1 la' c1:=hd 3 rfl;have e':vs 5=.slice A2 lb' c2:=hd 5 rfl;clear hd;rw [e,e'];have hC:=uT a b _ _ w1 hN1 Ro (by rw[hla.out];omega) (by rw[hlb.out];omega);go_wp2_with fail;refine hC.mono ?_;clear hC;rintro _ w9 ⟨v9,rfl,rZ,aY⟩;go_wp2;exact rZ
   · have e:vs 1=.bool n1:=hd 1 rfl;have e':aI w1 (a+b) (vs 6):=hd 6 rfl;clear hd;rw [e];obtain ⟨A6,c6,h6,-⟩:=id e'.out;rw [h6]at e' ⊢;go_wp2;exact ⟨Below.refl _ _,_,rfl,e'⟩
 · clear q10 q11 Js Jr;intro vs wa hba hR;simp only[cZ,ak]at hR;obtain ⟨-,-,-,-,-,-,-,⟨r,e7,hr⟩,-⟩:=hR;simp only[List.drop,List.take,List.map,aQ,Act.put,List.setIfInBounds_toArray,List.set_cons_succ,List.set_cons_zero,Nat.reduceAdd];rw [e7];generalize vs 0=z0,vs 1=z1,vs 2=z2,vs 3=z3,vs 4=z4,vs 5=z5,vs 6=z6;clear e7;obtain ⟨A9,c9,rfl,-⟩:=id hr.out;replace B3:=B3.call hba;have k0:=B3.cell 0 rfl;have k1:=B3.cell 1 rfl;have f0:=B3.frozen 0;have f1:=B3.frozen 1;have hr1:=fE (o:=0) B3 hr (.bool n1);have Xr:=B3.set 0 (.bool n1);have hr2:=fE (o:=1) Xr hr1 (.slice A9 (Ig.grp (a+b)).length c9);have B3b:=Xr.set 1 (.slice A9 (Ig.grp (a+b)).length c9);have hbs:=aJ (aJ (aj hb0 hba) (p:=⟨w.heap.size+1+1,0,none⟩) (by show w.heap.size<=w.heap.size+1+1;omega) (.bool n1)) (p:=⟨w.heap.size+1+1,1,none⟩) (by show w.heap.size<=w.heap.size+1+1;omega) (.slice A9 (Ig.grp (a+b)).length c9);clear hr hr1;generalize (Ig.grp (a+b)).length=n9 at *;go_wp2;exact bodyPost_ret (jv rfl _ _ rfl B3b) rfl ⟨_,rfl,hr2,hbs⟩
theorem Px (n1 n2:Bool) (a b:Nat) (u v:Value) (w:World) (h1:aI w a u) (h2:aI w b v) (la:(Ig.grp a).length<=80000) (lb:(Ig.grp b).length<=80000) (hne:n1≠n2) (hle:b<=a) :
 Calls Tryz.prog 158 #[.agg #[.bool n1,u],.agg #[.bool n2,v]] w fun e w'=>∃r,e=.returned (.agg #[.bool n1,r])/\aI w' (a-b) r/\Below w.heap.size w w':=by
 have hb0:=bNew (bNew (au w (.cells #[.bool n1,u] 129)) (.cells #[.bool n2,v] 129)) (.cells #[.bool false,.slice none 0 0] 129);have B1:=((Bx.mk w 129 #[.bool n1,u]).new (.cells #[.bool n2,v] 129)).new (.cells #[.bool false,.slice none 0 0] 129);have B2:=(Bx.mk (w.alloc (.cells #[.bool n1,u] 129)) 129 #[.bool n2,v]).new (.cells #[.bool false,.slice none 0 0] 129);have B3:=Bx.mk ((w.alloc (.cells #[.bool n1,u] 129)).alloc (.cells #[.bool n2,v] 129)) 129 #[.bool false,.slice none 0 0];have hsz:(((w.alloc (.cells #[.bool n1,u] 129)).alloc (.cells #[.bool n2,v] 129)).alloc (.cells #[.bool false,.slice none 0 0] 129)).heap.size=w.heap.size+3:=by rw[ah,ah,ah]
 rw[ah]at B2;rw [ah,ah]at B3;have h1':=h1.call hb0;have h2':=h2.call hb0;obtain ⟨A1,c1,rfl,-⟩:=id h1.out;obtain ⟨A2,c2,rfl,-⟩:=id h2.out;have hle0:(decide (Ig.dX a b ≥ 0))=true:=Vy hle;have hnn:(n1==n2)=false:=by cases n1 <;> cases n2 <;> simp_all
 have Yf:decide (n1=n2)=false:=by cases n1 <;> cases n2 <;> simp_all
 clear h1 h2;generalize hla:(Ig.grp a).length=la' at *;generalize hlb:(Ig.grp b).length=lb' at *;replace hla:=Kp.mk hla;replace hlb:=Kp.mk hlb
 go_enter Tryz.func158,Tryz.ntmps158
 go_wp2_with fail;obtain ⟨W0,hW0⟩:∃W0,W0=(((w.alloc (.cells #[.bool n1,.slice A1 la' c1] 129)).alloc (.cells #[.bool n2,.slice A2 lb' c2] 129)).alloc (.cells #[.bool false,.slice none 0 0] 129)):=⟨_,rfl⟩
 rw[←hW0]at hb0 B1 B2 B3 hsz h1' h2' ⊢;clear hW0;refine (kX a b _ _ W0 h1' h2' (by rw[hla.out];omega) (by rw[hlb.out];omega)).mono ?_;rintro _ W9 ⟨rfl,aY⟩;replace hb0:=aj hb0 aY;replace B1:=B1.call aY;replace B2:=B2.call aY;replace B3:=B3.call aY;replace h1':=h1'.call aY;replace h2':=h2'.call aY;clear aY hsz;go_wp2_with fail;have q10:=fun w1 (hb1:Below W9.heap.size W9 w1)=>(hb1.cell (p:=⟨w.heap.size,0,none⟩) B1.lt).trans (B1.cell 0 rfl)
 have q11:=fun w1 (hb1:Below W9.heap.size W9 w1)=>(hb1.cell (p:=⟨w.heap.size,1,none⟩) B1.lt).trans (B1.cell 1 rfl)
 have Js:=fun w1 (hb1:Below W9.heap.size W9 w1)=>(hb1.cell (p:=⟨w.heap.size+1,0,none⟩) B2.lt).trans (B2.cell 0 rfl)
 have Jr:=fun w1 (hb1:Below W9.heap.size W9 w1)=>(hb1.cell (p:=⟨w.heap.size+1,1,none⟩) B2.lt).trans (B2.cell 1 rfl)
 refine aA [ak (.pointer (some ⟨w.heap.size,0,none⟩)),ak (.bool n1),ak (.pointer (some ⟨w.heap.size,1,none⟩)),ak (.slice A1 la' c1),ak (.pointer (some ⟨w.heap.size+1,1,none⟩)),ak (.slice A2 lb' c2),(fun x W=>aI W (a-b) x),(fun x W=>∃r,x=.agg #[.bool n1,r]/\aI W (a-b) r)] 8 42 (by kernel_rfl) rfl rfl (by kernel_rfl) ?_ ?_ ?_
 · simp only[bV]
   and_intros <;> first|exact aF _|exact fun v w w' h hb=>h.call hb|exact fun v w w' ⟨r,e,h⟩ hb=>⟨r,e,h.call hb⟩|trivial
 · simp only[Users,List.take,List.length];refine ⟨?_,?_,?_,?_,?_,?_,?_,?_,trivial⟩;all_goals (intro vs w1 hb1 hd;have p10:=q10 w1 hb1;have p11:=q11 w1 hb1;have p20:=Js w1 hb1;have p21:=Jr w1 hb1;have hN1:=h1'.call hb1;have Ro:=h2'.call hb1;clear q10 q11 Js Jr;simp only[aQ,Act.put,List.nil_append,List.cons_append,List.setIfInBounds_toArray,List.set_cons_succ,List.set_cons_zero,Nat.reduceAdd])
   · clear hd;go_wp2;exact⟨Below.refl _ _,rfl⟩
   · have e:vs 0=.pointer (some ⟨w.heap.size,0,none⟩):=hd 0 rfl;clear hd;rw[e];go_wp2;exact⟨Below.refl _ _,rfl⟩
   · clear hd;go_wp2;exact⟨Below.refl _ _,rfl⟩
   · have e:vs 2=.pointer (some ⟨w.heap.size,1,none⟩):=hd 2 rfl;clear hd;rw[e];go_wp2;exact⟨Below.refl _ _,rfl⟩
   · clear hd;go_wp2;exact⟨Below.refl _ _,rfl⟩
   · have e:vs 4=.pointer (some ⟨w.heap.size+1,1,none⟩):=hd 4 rfl;clear hd;rw[e];go_wp2;exact⟨Below.refl _ _,rfl⟩
   · have e:vs 3=.slice A1 la' c1:=hd 3 rfl;have e':vs 5=.slice A2 lb' c2:=hd 5 rfl;clear hd;rw [e,e'];have hC:=rX a b _ _ w1 hN1 Ro hle (by rw[hla.out];omega);go_wp2_with fail;refine hC.mono ?_;clear hC;rintro _ w9 ⟨v9,rfl,rZ,aY⟩;go_wp2;exact rZ
   · have e:vs 1=.bool n1:=hd 1 rfl;have e':aI w1 (a-b) (vs 6):=hd 6 rfl;clear hd;rw [e];obtain ⟨A6,c6,h6,-⟩:=id e'.out;rw [h6]at e' ⊢;go_wp2;exact ⟨Below.refl _ _,_,rfl,e'⟩
 · clear q10 q11 Js Jr;intro vs wa hba hR;simp only[cZ,ak]at hR;obtain ⟨-,-,-,-,-,-,-,⟨r,e7,hr⟩,-⟩:=hR;simp only[List.drop,List.take,List.map,aQ,Act.put,List.setIfInBounds_toArray,List.set_cons_succ,List.set_cons_zero,Nat.reduceAdd];rw [e7];generalize vs 0=z0,vs 1=z1,vs 2=z2,vs 3=z3,vs 4=z4,vs 5=z5,vs 6=z6;clear e7;obtain ⟨A9,c9,rfl,-⟩:=id hr.out;replace B3:=B3.call hba;have k0:=B3.cell 0 rfl;have k1:=B3.cell 1 rfl;have f0:=B3.frozen 0;have f1:=B3.frozen 1;have hr1:=fE (o:=0) B3 hr (.bool n1);have Xr:=B3.set 0 (.bool n1);have hr2:=fE (o:=1) Xr hr1 (.slice A9 (Ig.grp (a-b)).length c9);have B3b:=Xr.set 1 (.slice A9 (Ig.grp (a-b)).length c9);have hbs:=aJ (aJ (aj hb0 hba) (p:=⟨w.heap.size+1+1,0,none⟩) (by show w.heap.size<=w.heap.size+1+1;omega) (.bool n1)) (p:=⟨w.heap.size+1+1,1,none⟩) (by show w.heap.size<=w.heap.size+1+1;omega) (.slice A9 (Ig.grp (a-b)).length c9);clear hr hr1;generalize (Ig.grp (a-b)).length=n9 at *;go_wp2;exact bodyPost_ret (jv rfl _ _ rfl B3b) rfl ⟨_,rfl,hr2,hbs⟩
theorem Pv (n1 n2:Bool) (a b:Nat) (u v:Value) (w:World) (h1:aI w a u) (h2:aI w b v) (la:(Ig.grp a).length<=80000) (lb:(Ig.grp b).length<=80000) (hne:n1≠n2) (hle:a<b) :
 Calls Tryz.prog 158 #[.agg #[.bool n1,u],.agg #[.bool n2,v]] w fun e w'=>∃r,e=.returned (.agg #[.bool n2,r])/\aI w' (b-a) r/\Below w.heap.size w w':=by
 have hb0:=bNew (bNew (au w (.cells #[.bool n1,u] 129)) (.cells #[.bool n2,v] 129)) (.cells #[.bool false,.slice none 0 0] 129);have B1:=((Bx.mk w 129 #[.bool n1,u]).new (.cells #[.bool n2,v] 129)).new (.cells #[.bool false,.slice none 0 0] 129);have B2:=(Bx.mk (w.alloc (.cells #[.bool n1,u] 129)) 129 #[.bool n2,v]).new (.cells #[.bool false,.slice none 0 0] 129);have B3:=Bx.mk ((w.alloc (.cells #[.bool n1,u] 129)).alloc (.cells #[.bool n2,v] 129)) 129 #[.bool false,.slice none 0 0];have hsz:(((w.alloc (.cells #[.bool n1,u] 129)).alloc (.cells #[.bool n2,v] 129)).alloc (.cells #[.bool false,.slice none 0 0] 129)).heap.size=w.heap.size+3:=by rw[ah,ah,ah]
 rw[ah]at B2;rw [ah,ah]at B3;have h1':=h1.call hb0;have h2':=h2.call hb0;obtain ⟨A1,c1,rfl,-⟩:=id h1.out;obtain ⟨A2,c2,rfl,-⟩:=id h2.out;have hle0:(decide (Ig.dX a b ≥ 0))=false:=by rw[Ig.kK hle];rfl
 have hnn:(n1==n2)=false:=by cases n1 <;> cases n2 <;> simp_all
 have Yf:decide (n1=n2)=false:=by cases n1 <;> cases n2 <;> simp_all
 clear h1 h2;generalize hla:(Ig.grp a).length=la' at *;generalize hlb:(Ig.grp b).length=lb' at *;replace hla:=Kp.mk hla;replace hlb:=Kp.mk hlb
 go_enter Tryz.func158,Tryz.ntmps158
 go_wp2_with fail;obtain ⟨W0,hW0⟩:∃W0,W0=(((w.alloc (.cells #[.bool n1,.slice A1 la' c1] 129)).alloc (.cells #[.bool n2,.slice A2 lb' c2] 129)).alloc (.cells #[.bool false,.slice none 0 0] 129)):=⟨_,rfl⟩
 rw[←hW0]at hb0 B1 B2 B3 hsz h1' h2' ⊢;clear hW0;refine (kX a b _ _ W0 h1' h2' (by rw[hla.out];omega) (by rw[hlb.out];omega)).mono ?_;rintro _ W9 ⟨rfl,aY⟩;replace hb0:=aj hb0 aY;replace B1:=B1.call aY;replace B2:=B2.call aY;replace B3:=B3.call aY;replace h1':=h1'.call aY;replace h2':=h2'.call aY;clear aY hsz;go_wp2_with fail;have q10:=fun w1 (hb1:Below W9.heap.size W9 w1)=>(hb1.cell (p:=⟨w.heap.size,0,none⟩) B1.lt).trans (B1.cell 0 rfl)
 have q11:=fun w1 (hb1:Below W9.heap.size W9 w1)=>(hb1.cell (p:=⟨w.heap.size,1,none⟩) B1.lt).trans (B1.cell 1 rfl)
 have Js:=fun w1 (hb1:Below W9.heap.size W9 w1)=>(hb1.cell (p:=⟨w.heap.size+1,0,none⟩) B2.lt).trans (B2.cell 0 rfl)
 have Jr:=fun w1 (hb1:Below W9.heap.size W9 w1)=>(hb1.cell (p:=⟨w.heap.size+1,1,none⟩) B2.lt).trans (B2.cell 1 rfl)
 refine aA [ak (.pointer (some ⟨w.heap.size+1,0,none⟩)),ak (.bool n2),ak (.pointer (some ⟨w.heap.size+1,1,none⟩)),ak (.slice A2 lb' c2),ak (.pointer (some ⟨w.heap.size,1,none⟩)),ak (.slice A1 la' c1),(fun x W=>aI W (b-a) x),(fun x W=>∃r,x=.agg #[.bool n2,r]/\aI W (b-a) r)] 8 42 (by kernel_rfl) rfl rfl (by kernel_rfl) ?_ ?_ ?_
 · simp only[bV]
   and_intros <;> first|exact aF _|exact fun v w w' h hb=>h.call hb|exact fun v w w' ⟨r,e,h⟩ hb=>⟨r,e,h.call hb⟩|trivial
 · simp only[Users,List.take,List.length];refine ⟨?_,?_,?_,?_,?_,?_,?_,?_,trivial⟩;all_goals (intro vs w1 hb1 hd;have p10:=q10 w1 hb1;have p11:=q11 w1 hb1;have p20:=Js w1 hb1;have p21:=Jr w1 hb1;have hN1:=h1'.call hb1;have Ro:=h2'.call hb1;clear q10 q11 Js Jr;simp only[aQ,Act.put,List.nil_append,List.cons_append,List.setIfInBounds_toArray,List.set_cons_succ,List.set_cons_zero,Nat.reduceAdd])
   · clear hd;go_wp2;exact⟨Below.refl _ _,rfl⟩
   · have e:vs 0=.pointer (some ⟨w.heap.size+1,0,none⟩):=hd 0 rfl;clear hd;rw[e];go_wp2;exact⟨Below.refl _ _,rfl⟩
   · clear hd;go_wp2;exact⟨Below.refl _ _,rfl⟩
   · have e:vs 2=.pointer (some ⟨w.heap.size+1,1,none⟩):=hd 2 rfl;clear hd;rw[e];go_wp2;exact⟨Below.refl _ _,rfl⟩
   · clear hd;go_wp2;exact⟨Below.refl _ _,rfl⟩
   · have e:vs 4=.pointer (some ⟨w.heap.size,1,none⟩):=hd 4 rfl;clear hd;rw[e];go_wp2;exact⟨Below.refl _ _,rfl⟩
   · have e:vs 3=.slice A2 lb' c2:=hd 3 rfl;have e':vs 5=.slice A1 la' c1:=hd 5 rfl;clear hd;rw [e,e'];have hC:=rX b a _ _ w1 Ro hN1 (by omega) (by rw[hlb.out];omega);go_wp2_with fail;refine hC.mono ?_;clear hC;rintro _ w9 ⟨v9,rfl,rZ,aY⟩;go_wp2;exact rZ
   · have e:vs 1=.bool n2:=hd 1 rfl;have e':aI w1 (b-a) (vs 6):=hd 6 rfl;clear hd;rw [e];obtain ⟨A6,c6,h6,-⟩:=id e'.out;rw [h6]at e' ⊢;go_wp2;exact ⟨Below.refl _ _,_,rfl,e'⟩
 · clear q10 q11 Js Jr;intro vs wa hba hR;simp only[cZ,ak]at hR;obtain ⟨-,-,-,-,-,-,-,⟨r,e7,hr⟩,-⟩:=hR;simp only[List.drop,List.take,List.map,aQ,Act.put,List.setIfInBounds_toArray,List.set_cons_succ,List.set_cons_zero,Nat.reduceAdd];rw [e7];generalize vs 0=z0,vs 1=z1,vs 2=z2,vs 3=z3,vs 4=z4,vs 5=z5,vs 6=z6;clear e7;obtain ⟨A9,c9,rfl,-⟩:=id hr.out;replace B3:=B3.call hba;have k0:=B3.cell 0 rfl;have k1:=B3.cell 1 rfl;have f0:=B3.frozen 0;have f1:=B3.frozen 1;have hr1:=fE (o:=0) B3 hr (.bool n2);have Xr:=B3.set 0 (.bool n2);have hr2:=fE (o:=1) Xr hr1 (.slice A9 (Ig.grp (b-a)).length c9);have B3b:=Xr.set 1 (.slice A9 (Ig.grp (b-a)).length c9);have hbs:=aJ (aJ (aj hb0 hba) (p:=⟨w.heap.size+1+1,0,none⟩) (by show w.heap.size<=w.heap.size+1+1;omega) (.bool n2)) (p:=⟨w.heap.size+1+1,1,none⟩) (by show w.heap.size<=w.heap.size+1+1;omega) (.slice A9 (Ig.grp (b-a)).length c9);clear hr hr1;generalize (Ig.grp (b-a)).length=n9 at *;go_wp2;exact bodyPost_ret (jv rfl _ _ rfl B3b) rfl ⟨_,rfl,hr2,hbs⟩
theorem Cm (n1 n2:Bool) (a b:Nat) (u v:Value) (w:World) (h1:aI w a u) (h2:aI w b v) (la:(Ig.grp a).length<=80000) (lb:(Ig.grp b).length<=80000) :
 Calls Tryz.prog 158 #[.agg #[.bool n1,u],.agg #[.bool n2,v]] w fun e w'=>∃n c r,e=.returned (.agg #[.bool n,r])/\aI w' c r/\dM n c=dM n1 a+dM n2 b/\c<=a+b/\Below w.heap.size w w':=by
 by_cases hn:n1=n2
 · subst hn;exact (Jd n1 a b u v w h1 h2 la lb).mono fun e w' ⟨r,e1,e2,e3⟩=>⟨n1,a+b,r,e1,e2,by cases n1 <;> simp[dM] <;> omega,Nat.le_refl _,e3⟩
 · rcases Nat.lt_or_ge a b with h|h
   · exact (Pv n1 n2 a b u v w h1 h2 la lb hn h).mono fun e w' ⟨r,e1,e2,e3⟩=>⟨n2,b-a,r,e1,e2,by cases n1 <;> cases n2 <;> simp[dM]at hn ⊢ <;> omega,by omega,e3⟩
   · exact (Px n1 n2 a b u v w h1 h2 la lb hn h).mono fun e w' ⟨r,e1,e2,e3⟩=>⟨n1,a-b,r,e1,e2,by cases n1 <;> cases n2 <;> simp[dM]at hn ⊢ <;> omega,by omega,e3⟩
end Go.Proofs.YtelljijajgiabaaGreatDoor
namespace Ig
theorem gI {z:Int} (h:fits z):(grp z.natAbs).length<=50:=by
 refine fG ?_;have:(10000:Nat) ^ 50=10 ^ 200:=by rw[show (10000:Nat)=10 ^ 4 from rfl,←Nat.pow_mul]
 rw[this];exact h
theorem jW {a b k:Nat} (h:(grp b).length<=k) (hab:a<=b):(grp a).length<=k :=
 fG (Nat.lt_of_le_of_lt hab (Nat.lt_of_lt_of_le (iZ b) (Nat.pow_le_pow_right (by decide) h)))
theorem qP {a b k:Nat} (ha:(grp a).length<=k) (hb:(grp b).length<=k):(grp (a+b)).length<=k+1:=by
 refine fG ?_;have h1:=Nat.lt_of_lt_of_le (iZ a) (Nat.pow_le_pow_right (show 0<10000 by decide) ha);have h2:=Nat.lt_of_lt_of_le (iZ b) (Nat.pow_le_pow_right (show 0<10000 by decide) hb);rw [Nat.pow_succ];generalize 10000 ^ k=p at *;omega
end Ig
namespace Go.Proofs.YtelljijajgiabaaGreatDoor
open Go.RowKit Go.Shelf
theorem wH (x:Int):dM (decide (x<0)) x.natAbs=x:=by
 unfold dM
 by_cases h:x<0
 · rw[decide_eq_true h];simp;omega
 · rw[decide_eq_false h];simp;omega
theorem MC (x y:Int) (w:World) (hx:Ig.fits x) (hy:Ig.fits y) (hE:Env w) :
 aW 131 #[.string ⟨(Lib.itoa x).toArray⟩,.string ⟨(Lib.itoa y).toArray⟩] w (.tuple #[.string ⟨(Ig.iq (x+y)).toArray⟩,.int .i64 (Ig.resE (x+y))]):=by
 have hB:=both_any x y w hx hy;have lx:=Ig.gI hx;have ly:=Ig.gI hy;have ex:=wH x;have ey:=wH y;have exy:Kp (dM (decide (x<0)) x.natAbs+dM (decide (y<0)) y.natAbs=x+y):=⟨by rw[ex,ey]⟩
 generalize x+y=z at *;generalize decide (x<0)=nx at *;generalize decide (y<0)=ny at *;generalize x.natAbs=ax at *;generalize y.natAbs=ay at *;generalize Lib.itoa x=sx at *;generalize Lib.itoa y=sy at *;clear hx hy ex ey
 go_enter Tryz.func131,Tryz.ntmps131
 go_wp2_with fail;refine hB.mono ?_;rintro _ w1 ⟨u,v,rfl,hu,hv,hb1⟩;obtain ⟨A1,c1,rfl,-⟩:=id hu.out;obtain ⟨A2,c2,rfl,-⟩:=id hv.out;clear hB;go_wp2_with fail;have hb2:=bNew (au w1 (.cells #[.bool nx,.slice A1 (Ig.grp ax).length c1] 129)) (.cells #[.bool ny,.slice A2 (Ig.grp ay).length c2] 129);have hP:=Cm nx ny ax ay _ _ _ (hu.call hb2) (hv.call hb2) (by omega) (by omega);refine hP.mono ?_;rintro _ w3 ⟨n,c,r,rfl,hr,hsg,hle,hb3⟩;rw [exy.out]at hsg;have hb4:=aj (aj hb1 hb2) hb3;have hlc:(Ig.grp c).length<=50+1:=Ig.jW (Ig.qP lx ly) hle;have hT:=dY n c r w3 hr (by omega) (hE.below hb4);rw [hsg]at hT;clear hP hb2 hu hv hb3 exy;obtain ⟨A3,c3,rfl,-⟩:=id hr.out;go_wp2_with fail;refine hT.mono ?_;rintro _ w5 ⟨rfl,hb5⟩;clear hT;go_wp2
 go_ret2
 exact⟨rfl,aj hb4 hb5⟩
theorem UE (n:Bool) (a:Nat):dM (!n) a= - dM n a:=by cases n <;> simp[dM]
theorem Md (x y:Int) (w:World) (hx:Ig.fits x) (hy:Ig.fits y) (hE:Env w) :
 aW 112 #[.string ⟨(Lib.itoa x).toArray⟩,.string ⟨(Lib.itoa y).toArray⟩] w (.tuple #[.string ⟨(Ig.iq (x-y)).toArray⟩,.int .i64 (Ig.resE (x-y))]):=by
 have hB:=both_any x y w hx hy;have lx:=Ig.gI hx;have ly:=Ig.gI hy;have ex:=wH x;have ey:=wH y;have exy:Kp (dM (decide (x<0)) x.natAbs+dM (!decide (y<0)) y.natAbs=x-y):=⟨by rw[UE,ex,ey];omega⟩
 generalize x-y=z at *;generalize decide (x<0)=nx at *;generalize decide (y<0)=ny at *;generalize x.natAbs=ax at *;generalize y.natAbs=ay at *;generalize Lib.itoa x=sx at *;generalize Lib.itoa y=sy at *;clear hx hy ex ey
 go_enter Tryz.func112,Tryz.ntmps112
 go_wp2_with fail;refine hB.mono ?_;rintro _ w1 ⟨u,v,rfl,hu,hv,hb1⟩;obtain ⟨A1,c1,rfl,-⟩:=id hu.out;obtain ⟨A2,c2,rfl,-⟩:=id hv.out;clear hB;have hb2:=bNew (au w1 (.cells #[.bool nx,.slice A1 (Ig.grp ax).length c1] 129)) (.cells #[.bool (!ny),.slice A2 (Ig.grp ay).length c2] 129);go_wp2_with fail;have hP:=Cm nx (!ny) ax ay _ _ _ (hu.call hb2) (hv.call hb2) (by omega) (by omega);refine hP.mono ?_;rintro _ w3 ⟨n,c,r,rfl,hr,hsg,hle,hb3⟩;rw [exy.out]at hsg;have hb4:=aj (aj hb1 hb2) hb3;have hlc:(Ig.grp c).length<=50+1:=Ig.jW (Ig.qP lx ly) hle;have hT:=dY n c r w3 hr (by omega) (hE.below hb4);rw [hsg]at hT;clear hP hb2 hu hv hb3 exy;obtain ⟨A3,c3,rfl,-⟩:=id hr.out;go_wp2_with fail;refine hT.mono ?_;rintro _ w5 ⟨rfl,hb5⟩;clear hT;go_wp2
 go_ret2
 exact⟨rfl,aj hb4 hb5⟩
theorem UF (n m:Bool) (a b:Nat):dM (n != m) (a*b)=dM n a*dM m b:=by cases n <;> cases m <;> simp[dM,Int.mul_neg,Int.neg_mul]
theorem MB (x y:Int) (w:World) (hx:Ig.fits x) (hy:Ig.fits y) (hE:Env w) :
 aW 111 #[.string ⟨(Lib.itoa x).toArray⟩,.string ⟨(Lib.itoa y).toArray⟩] w (.tuple #[.string ⟨(Ig.iq (x*y)).toArray⟩,.int .i64 (Ig.resE (x*y))]):=by
 have hB:=both_any x y w hx hy;have lx:=Ig.gI hx;have ly:=Ig.gI hy;have ex:=wH x;have ey:=wH y;have exy:Kp (dM (decide (x<0) != decide (y<0)) (x.natAbs*y.natAbs)=x*y):=⟨by rw[UF,ex,ey]⟩
 generalize x*y=z at *;generalize decide (x<0)=nx at *;generalize decide (y<0)=ny at *;generalize x.natAbs=ax at *;generalize y.natAbs=ay at *;generalize Lib.itoa x=sx at *;generalize Lib.itoa y=sy at *;clear hx hy ex ey;have hlm:(Ig.grp (ax*ay)).length<=50+50:=nO lx (Nat.lt_of_lt_of_le (Ig.iZ ay) (Nat.pow_le_pow_right (by decide) ly))
 go_enter Tryz.func111,Tryz.ntmps111
 go_wp2_with fail;refine hB.mono ?_;rintro _ w1 ⟨u,v,rfl,hu,hv,hb1⟩;obtain ⟨A1,c1,rfl,-⟩:=id hu.out;obtain ⟨A2,c2,rfl,-⟩:=id hv.out;clear hB;have hb2:=bNew (au w1 (.cells #[.bool nx,.slice A1 (Ig.grp ax).length c1] 129)) (.cells #[.bool ny,.slice A2 (Ig.grp ay).length c2] 129);have B1:=(Bx.mk w1 129 #[.bool nx,.slice A1 (Ig.grp ax).length c1]).new (.cells #[.bool ny,.slice A2 (Ig.grp ay).length c2] 129);have B2:=Bx.mk (w1.alloc (.cells #[.bool nx,.slice A1 (Ig.grp ax).length c1] 129)) 129 #[.bool ny,.slice A2 (Ig.grp ay).length c2];rw [ah]at B2;go_wp2_with fail;replace hu:=hu.call hb2;replace hv:=hv.call hb2;generalize hg:((w1.alloc (.cells #[.bool nx,.slice A1 (Ig.grp ax).length c1] 129)).alloc (.cells #[.bool ny,.slice A2 (Ig.grp ay).length c2] 129))=W0 at *;clear hg;replace hE:=hE.below (aj hb1 hb2);have q10:=fun w1' (hb1:Below W0.heap.size W0 w1')=>(hb1.cell (p:=⟨w1.heap.size,0,none⟩) B1.lt).trans (B1.cell 0 rfl)
 have q11:=fun w1' (hb1:Below W0.heap.size W0 w1')=>(hb1.cell (p:=⟨w1.heap.size,1,none⟩) B1.lt).trans (B1.cell 1 rfl)
 have Js:=fun w1' (hb1:Below W0.heap.size W0 w1')=>(hb1.cell (p:=⟨w1.heap.size+1,0,none⟩) B2.lt).trans (B2.cell 0 rfl)
 have Jr:=fun w1' (hb1:Below W0.heap.size W0 w1')=>(hb1.cell (p:=⟨w1.heap.size+1,1,none⟩) B2.lt).trans (B2.cell 1 rfl)
 generalize hlx:(Ig.grp ax).length=kx at *;generalize hly:(Ig.grp ay).length=ky at *;replace hlx:=Kp.mk hlx;replace hly:=Kp.mk hly
 refine aA [ak (.pointer (some ⟨w1.heap.size,0,none⟩)),ak (.bool nx),ak (.pointer (some ⟨w1.heap.size+1,0,none⟩)),ak (.bool ny),ak (.bool (nx != ny)),ak (.pointer (some ⟨w1.heap.size,1,none⟩)),ak (.slice A1 kx c1),ak (.pointer (some ⟨w1.heap.size+1,1,none⟩)),ak (.slice A2 ky c2),(fun v W=>aI W (ax*ay) v),(fun v W=>∃r,v=.agg #[.bool (nx != ny),r]/\aI W (ax*ay) r),
  ak (.tuple #[.string ⟨(Ig.iq z).toArray⟩,.int .i64 (Ig.resE z)]),ak (.string ⟨(Ig.iq z).toArray⟩),ak (.int .i64 (Ig.resE z)),ak (.string ⟨(Ig.iq z).toArray⟩),ak (.int .i64 (Ig.resE z))] 16 32 (by kernel_rfl) rfl rfl (by kernel_rfl) ?_ ?_ ?_
 · simp only[bV]
   and_intros <;> first|exact aF _|exact fun v w w' h hb=>h.call hb|exact fun v w w' ⟨r,e,h⟩ hb=>⟨r,e,h.call hb⟩|trivial
 · simp only[Users,List.take,List.length];refine ⟨?_,?_,?_,?_,?_,?_,?_,?_,?_,?_,?_,?_,?_,?_,?_,?_,trivial⟩;all_goals (intro vs w2 hb2' hd;have p10:=q10 w2 hb2';have p11:=q11 w2 hb2';have p20:=Js w2 hb2';have p21:=Jr w2 hb2';have hN1:=hu.call hb2';have Ro:=hv.call hb2';clear q10 q11 Js Jr;simp only[aQ,Act.put,List.nil_append,List.cons_append,List.setIfInBounds_toArray,List.set_cons_succ,List.set_cons_zero,Nat.reduceAdd])
   · clear hd;go_wp2;exact⟨Below.refl _ _,rfl⟩
   · have e:=hd 0 rfl;change vs 0=_ at e;clear hd;rw[e];go_wp2;exact⟨Below.refl _ _,rfl⟩
   · clear hd;go_wp2;exact⟨Below.refl _ _,rfl⟩
   · have e:=hd 2 rfl;change vs 2=_ at e;clear hd;rw[e];go_wp2;exact⟨Below.refl _ _,rfl⟩
   · have e:=hd 1 rfl;have e':=hd 3 rfl;change vs 1=_ at e;change vs 3=_ at e';clear hd;rw[e,e'];go_wp2;exact⟨Below.refl _ _,by cases nx <;> cases ny <;> rfl⟩
   · clear hd;go_wp2;exact⟨Below.refl _ _,rfl⟩
   · have e:=hd 5 rfl;change vs 5=_ at e;clear hd;rw[e];go_wp2;exact⟨Below.refl _ _,rfl⟩
   · clear hd;go_wp2;exact⟨Below.refl _ _,rfl⟩
   · have e:=hd 7 rfl;change vs 7=_ at e;clear hd;rw[e];go_wp2;exact⟨Below.refl _ _,rfl⟩
   · have e:=hd 6 rfl;have e':=hd 8 rfl;change vs 6=_ at e;change vs 8=_ at e';clear hd;rw[e,e'];have hC:=times_any ax ay _ _ w2 hN1 Ro (by rw[hlx.out];omega) (by rw[hly.out];omega);go_wp2_with fail;refine hC.mono ?_;clear hC;rintro _ w9 ⟨v9,rfl,rZ,aY⟩;go_wp2;exact rZ
   · have e:=hd 4 rfl;change vs 4=_ at e;have e':aI w2 (ax*ay) (vs 9):=hd 9 rfl;clear hd;rw[e];obtain ⟨A6,c6,h6,-⟩:=id e'.out;rw [h6]at e' ⊢;go_wp2;exact ⟨Below.refl _ _,_,rfl,e'⟩
   · have e:∃r,vs 10=.agg #[.bool (nx != ny),r]/\aI w2 (ax*ay) r:=hd 10 rfl
     clear hd;obtain ⟨r,e,hr⟩:=e;rw [e];have hT:=dY (nx != ny) (ax*ay) r w2 hr (by omega) (hE.below hb2');rw [exy.out]at hT;go_wp2_with fail;refine hT.mono ?_;clear hT;rintro _ w9 ⟨rfl,aY⟩;go_wp2;rfl
   · have e:=hd 11 rfl;change vs 11=_ at e;clear hd;rw[e];go_wp2;exact⟨Below.refl _ _,rfl⟩
   · have e:=hd 11 rfl;change vs 11=_ at e;clear hd;rw[e];go_wp2;exact⟨Below.refl _ _,rfl⟩
   · have e:=hd 12 rfl;change vs 12=_ at e;clear hd;rw[e];go_wp2;exact⟨Below.refl _ _,rfl⟩
   · have e:=hd 13 rfl;change vs 13=_ at e;clear hd;rw[e];go_wp2;exact⟨Below.refl _ _,rfl⟩
 · clear q10 q11 Js Jr;intro vs wa hba hR;simp only[cZ,ak]at hR;obtain ⟨-,-,-,-,-,-,-,-,-,-,-,-,-,-,e14,e15,-⟩:=hR;simp only[List.drop,List.take,List.map,aQ,Act.put,List.setIfInBounds_toArray,List.set_cons_succ,List.set_cons_zero,Nat.reduceAdd];rw [e14,e15];go_wp2
   go_ret2
   exact⟨rfl,aj (aj hb1 hb2) hba⟩
end Go.Proofs.YtelljijajgiabaaGreatDoor
namespace Rq
theorem Hf (n d:Int):((d.gcd n:Nat):Int)=((Nat.gcd n.natAbs d.natAbs:Nat):Int):=by
 rw[Nat.gcd_comm];rfl
theorem mP {n d:Int} (hd:0<d):(Rat.divInt n d).num=n / ((Nat.gcd n.natAbs d.natAbs:Nat):Int)/\((Rat.divInt n d).den:Int)=d / ((Nat.gcd n.natAbs d.natAbs:Nat):Int):=by
 refine⟨?_,?_⟩
 · rw[Rat.num_divInt,Int.sign_eq_one_of_pos hd,Int.one_mul,Hf]
 · rw[Rat.den_divInt,if_neg (by omega),Int.natCast_ediv,Hf]
   congr 1
   omega
theorem zC {n d:Int}:Rat.divInt n d=Rat.divInt (0-n) (0-d):=by
 rw[Int.zero_sub,Int.zero_sub,Rat.neg_divInt_neg]
theorem TG (a b:Rat):Rat.divInt (a.num*b.den+b.num*a.den) (a.den*b.den)=a+b:=by
 rw[Rat.add_def',←Rat.divInt_ofNat];simp
theorem wQ (a b:Rat):Rat.divInt (a.num*b.num) (a.den*b.den)=a*b:=by
 rw[Rat.mul_def',←Rat.divInt_ofNat];simp
theorem uG {n d:Int} (hd:0<d) (hg:Nat.gcd n.natAbs d.natAbs=1):∃q:Rat,q.num=n/\(q.den:Int)=d:=by
 refine⟨⟨n,d.toNat,by omega,?_⟩,rfl,by simp;omega⟩
 show Nat.gcd _ _=1
 rw[show d.toNat=d.natAbs by omega];exact hg
theorem KT (q:Rat):Nat.gcd q.num.natAbs (q.den:Int).natAbs=1:=q.reduced
structure Fq (q:Rat):Prop where
 num:Ig.fits q.num
 den:Ig.fits (q.den:Int)
def IX (n d:List UInt8):Prop:=∃q:Rat,Fq q/\n=Go.Lib.itoa q.num/\d=Go.Lib.itoa (q.den:Int)
noncomputable def okB (n d:List UInt8):Bool:=@decide (IX n d) (Classical.propDecidable _)
theorem qL {n d:List UInt8} (h:IX n d):okB n d=true:=by unfold okB;exact @decide_eq_true _ (Classical.propDecidable _) h
theorem dV {n d:List UInt8} (h:¬IX n d):okB n d=false:=by unfold okB;exact @decide_eq_false _ (Classical.propDecidable _) h
theorem oq {q:Rat} (h:Fq q):okB (Go.Lib.itoa q.num) (Go.Lib.itoa (q.den:Int))=true:=qL ⟨q,h,rfl,rfl⟩
theorem iG (q:Rat):0<(q.den:Int):=by have:=q.den_pos;omega
theorem lQ (q:Rat):(q.den:Int)≠0:=by have:=q.den_pos;omega
end Rq
namespace Tb
def lG:List Rat->Rat
 | []=>0
 | r :: l=>r+lG l
theorem FX:∀a b:List Rat,lG (a++b)=lG a+lG b
 | [],b=>by show lG b=0+lG b;rw[Rat.zero_add]
 | r :: a,b=>by
  show r+lG (a++b)=r+lG a+lG b
  rw[FX a b,Rat.add_assoc]
theorem MQ (a:List Rat) (r:Rat):lG (a++[r])=lG a+r:=by
 rw[FX]
 show lG a+(r+0)=_
 rw[Rat.add_zero]
theorem xK:∀ {l:List Rat},(∀r∈l,0<=r)->0<=lG l
 | [],_=>Rat.le_refl
 | r :: l,h=>Rat.add_nonneg (h r (by simp)) (xK fun q hq=>h q (by simp[hq]))
theorem KP:∀ {l:List Rat},(∀r∈l,r<=1)->lG l<=(l.length:Rat)
 | [],_=>Rat.le_refl
 | r :: l,h=>by
  have h1:=h r (by simp);have h2:=KP fun q hq=>h q (List.mem_cons_of_mem _ hq)
  show r+lG l<=((l.length+1:Nat):Rat)
  rw[Rat.natCast_add]
  grind
theorem qK (r:Rat):∀m:Nat,lG (List.replicate m r)=r*(m:Rat)
 | 0=>by show (0:Rat)=r*((0:Nat):Rat);simp
 | m+1=>by
  show r+lG (List.replicate m r)=r*((m+1:Nat):Rat)
  rw[qK r m,Rat.natCast_add]
  grind
theorem z_ {n d:Int} (hd:0<d):((Rat.divInt n d).den:Int)<=d:=by
 rw[(Rq.mP hd).2];exact Int.ediv_le_self _ (by omega)
end Tb
namespace Go.Proofs.YtelljijajgiabaaGreatDoor
open Go.RowKit Go.Shelf
theorem Jz {W:World} {a b:Nat} {v:Value} (h:aI W a v) (k:aI W b v):a=b:=by
 obtain⟨A,c,rfl,hA,-,-⟩:=h.out;obtain ⟨A',c',e,hA',-,-⟩:=k.out;simp only[Value.slice.injEq]at e;obtain ⟨rfl,hl,rfl⟩:=e
 have:Ig.grp a=Ig.grp b:=by
  apply List.ext_getElem hl
  intro i h1 h2;obtain ⟨g,off,rfl,-,hc⟩:=hA (by omega);obtain ⟨g',off',e',-,hc'⟩:=hA' (by omega);simp only[Option.some.injEq,Addr.mk.injEq,and_true]at e';obtain ⟨rfl,rfl⟩:=e';have x1:=hc i _ (List.getElem?_eq_getElem h1) 0 _ rfl;have x2:=hc' i _ (List.getElem?_eq_getElem h2) 0 _ rfl;rw [x1]at x2;simpa using x2
 have h1:=Ig.bY a;rw [this,Ig.bY]at h1;omega
theorem KX {W:World} {a:Nat} {v:Value} (h:aI W a v):Classical.epsilon (fun k=>aI W k v)=a :=
 Jz (Classical.epsilon_spec (p:=fun k=>aI W k v) ⟨a,h⟩) h
theorem oG {x y:Int} (hx:Ig.fits x) (hy:Ig.fits y):Ig.fits ((Nat.gcd x.natAbs y.natAbs:Nat):Int):=by
 unfold Ig.fits at *
 rw[Int.natAbs_natCast];by_cases h:x.natAbs=0
 · rw[h,Nat.gcd_zero_left];exact hy
 · exact Nat.lt_of_le_of_lt (Nat.le_of_dvd (by omega) (Nat.gcd_dvd_left _ _)) hx
theorem Fh (x y:Int) (w:World) (hx:Ig.fits x) (hy:Ig.fits y) (hE:Env w) :
 aW 96 #[.string ⟨(Lib.itoa x).toArray⟩,.string ⟨(Lib.itoa y).toArray⟩] w (.tuple #[.string ⟨(Lib.itoa ((Nat.gcd x.natAbs y.natAbs:Nat):Int)).toArray⟩,.int .i64 0]):=by
 have hB:=both_any x y w hx hy;have lx:=Ig.gI hx;have ly:=Ig.gI hy;have fg:=oG hx hy
 have hres:∀k,k=Nat.gcd x.natAbs y.natAbs->Kp (Ig.iq (dM false k)=Lib.itoa ((Nat.gcd x.natAbs y.natAbs:Nat):Int)/\Ig.resE (dM false k)=0):=fun k h=>⟨by
  rw[h,show dM false (Nat.gcd x.natAbs y.natAbs)=((Nat.gcd x.natAbs y.natAbs:Nat):Int) from rfl]
  exact⟨Ig.dh fg,Ig.dO fg⟩⟩
 clear fg;generalize Lib.itoa ((Nat.gcd x.natAbs y.natAbs:Nat):Int)=SG at *;generalize decide (x<0)=nx at *;generalize decide (y<0)=ny at *;generalize x.natAbs=ax at *;generalize y.natAbs=ay at *;generalize Lib.itoa x=sx at *;generalize Lib.itoa y=sy at *;clear hx hy
 go_enter Tryz.func96,Tryz.ntmps96
 go_wp2_with fail;refine hB.mono ?_;rintro _ w1 ⟨u,v,rfl,hu,hv,hb1⟩;obtain ⟨A1,c1,rfl,-⟩:=id hu.out;obtain ⟨A2,c2,rfl,-⟩:=id hv.out;clear hB;have hb2:=bNew (au w1 (.cells #[.bool nx,.slice A1 (Ig.grp ax).length c1] 129)) (.cells #[.bool ny,.slice A2 (Ig.grp ay).length c2] 129);have B1:=(Bx.mk w1 129 #[.bool nx,.slice A1 (Ig.grp ax).length c1]).new (.cells #[.bool ny,.slice A2 (Ig.grp ay).length c2] 129);have B2:=Bx.mk (w1.alloc (.cells #[.bool nx,.slice A1 (Ig.grp ax).length c1] 129)) 129 #[.bool ny,.slice A2 (Ig.grp ay).length c2];rw [ah]at B2;go_wp2_with fail;replace hu:=hu.call hb2;replace hv:=hv.call hb2;replace hb1:=aj hb1 hb2;generalize hg:((w1.alloc (.cells #[.bool nx,.slice A1 (Ig.grp ax).length c1] 129)).alloc (.cells #[.bool ny,.slice A2 (Ig.grp ay).length c2] 129))=W0 at *;clear hg hb2;have q1:=fun w2 (hb2:Below W0.heap.size W0 w2)=>(hb2.cell (p:=⟨w1.heap.size,1,none⟩) B1.lt).trans (B1.cell 1 rfl)
 have q2:=fun w2 (hb2:Below W0.heap.size W0 w2)=>(hb2.cell (p:=⟨w1.heap.size+1,1,none⟩) B2.lt).trans (B2.cell 1 rfl)
 refine aA [ak (.pointer (some ⟨w1.heap.size,1,none⟩)),ak (.slice A1 (Ig.grp ax).length c1),ak (.pointer (some ⟨w1.heap.size+1,1,none⟩)),ak (.slice A2 (Ig.grp ay).length c2),ak (.slice A1 (Ig.grp ax).length c1),ak (.slice A2 (Ig.grp ay).length c2)] 6 42 (by kernel_rfl) rfl rfl (by kernel_rfl) ?_ ?_ ?_
 · simp only[bV]
   and_intros <;> first|exact aF _|trivial
 · simp only[Users,List.take,List.length];refine ⟨?_,?_,?_,?_,?_,?_,trivial⟩;all_goals (intro vs w2 hb2 hd;have p1:=q1 w2 hb2;have p2:=q2 w2 hb2;clear q1 q2;simp only[aQ,Act.put,List.nil_append,List.cons_append,List.setIfInBounds_toArray,List.set_cons_succ,List.set_cons_zero,Nat.reduceAdd])
   · clear hd;go_wp2;exact⟨Below.refl _ _,rfl⟩
   · have e:=hd 0 rfl;change vs 0=_ at e;clear hd;rw[e];go_wp2;exact⟨Below.refl _ _,rfl⟩
   · clear hd;go_wp2;exact⟨Below.refl _ _,rfl⟩
   · have e:=hd 2 rfl;change vs 2=_ at e;clear hd;rw[e];go_wp2;exact⟨Below.refl _ _,rfl⟩
   · have e:=hd 1 rfl;change vs 1=_ at e;clear hd;rw[e];go_wp2;exact⟨Below.refl _ _,rfl⟩
   · have e:=hd 3 rfl;change vs 3=_ at e;clear hd;rw[e];go_wp2;exact⟨Below.refl _ _,rfl⟩
 · clear q1 q2;intro vs wa hba hR;simp only[cZ,ak]at hR;obtain ⟨e0,e1,e2,e3,e4,e5,-⟩:=hR;simp only[List.drop,List.take,List.map,aQ,Act.put,List.setIfInBounds_toArray,List.set_cons_succ,List.set_cons_zero,Nat.reduceAdd];rw [e0,e1,e2,e3,e4,e5];replace hu:=hu.call hba;replace hv:=hv.call hba;replace hb1:=aj hb1 hba;clear e0 e1 e2 e3 e4 e5 hba B1 B2;go_wp2
   go_loopw [9,10,11,12] (fun s9 s10 s11 s12 wr=>∃k l,aI wr k s9/\aI wr l s10/\(Ig.grp k).length<=50/\(Ig.grp l).length<=50/\Nat.gcd k l=Nat.gcd ax ay/\Below w.heap.size w wr) (fun s9 s10 s11 s12 wr=>Classical.epsilon (fun k=>aI wr k s10))
   case atStart=>exact⟨ax,ay,hu,hv,lx,ly,rfl,hb1⟩
   case round =>
    clear hu hv hb1 lx ly;obtain ⟨k,l,hk,hl,lk,ll,hg,hb⟩:=hrel;have hm:=KX hl;obtain ⟨A3,c3,rfl,-⟩:=id hk.out;obtain ⟨A4,c4,rfl,-⟩:=id hl.out;by_cases h0:l=0
    · subst h0;have hl0:(Ig.grp 0).length=0:=by rw[Ig.aP];rfl
      have hr:=hres k (by rw[←hg,Nat.gcd_zero_right]);have hT:=dY false k _ wr hk (by omega) (hE.below hb);rw [hr.out.1,hr.out.2]at hT;simp only[hl0];clear hres hm hg hl hr;go_wp2_with fail;refine hT.mono ?_;rintro _ w5 ⟨rfl,hb5⟩;clear hT;go_wp2
      go_ret2
      exact⟨rfl,aj hb hb5⟩
    · have hl0:(Ig.grp l).length≠0:=fun e=>h0 (Ig.jh.1 e)
      have t0:decide (((Ig.grp l).length:Int) > 0)=true:=decide_eq_true (by omega);have hO:=Gs k l _ _ wr hk hl (by omega) (by omega) (by omega);go_wp2_with fail;refine hO.mono ?_;rintro _ w5 ⟨q,r,rfl,hq,hr,hb5⟩;clear hO t0;have hl5:=hl.call hb5;have Vf:=KX hr;obtain ⟨A5,c5,rfl,-⟩:=id hq.out;obtain ⟨A6,c6,rfl,-⟩:=id hr.out;go_wp2;refine ⟨⟨l,k % l,hl5,hr,ll,Ig.jW lk (Nat.mod_le _ _),by rw[←hg,Nat.gcd_comm k l,Nat.gcd_rec l k,Nat.gcd_comm],aj hb hb5⟩,?_⟩;rw [hm,Vf];exact Nat.mod_lt _ (by omega)
theorem Af (x y:Int):dA x y=if decide (x<0) then (if decide (y<0) then Ig.dX y.natAbs x.natAbs else -1) else (if decide (y<0) then 1 else Ig.dX x.natAbs y.natAbs):=by
 simp only[decide_eq_true_eq]
 unfold dA Ig.dX
 split <;> split <;> split <;> (try split) <;> (try split) <;> first|rfl|omega
theorem kZ (x y:Int) (w:World) (hx:Ig.fits x) (hy:Ig.fits y) :
 aW 67 #[.string ⟨(Lib.itoa x).toArray⟩,.string ⟨(Lib.itoa y).toArray⟩] w (.int .i64 (dA x y)):=by
 have hB:=both_any x y w hx hy;have lx:=Ig.gI hx;have ly:=Ig.gI hy;have hc:=Af x y;replace hc:=Kp.mk hc;generalize dA x y=z at *;generalize decide (x<0)=nx at *;generalize decide (y<0)=ny at *;generalize x.natAbs=ax at *;generalize y.natAbs=ay at *;generalize Lib.itoa x=sx at *;generalize Lib.itoa y=sy at *;clear hx hy
 go_enter Tryz.func67,Tryz.ntmps67
 go_wp2_with fail;refine hB.mono ?_;rintro _ w1 ⟨u,v,rfl,hu,hv,hb1⟩;obtain ⟨A1,c1,rfl,-⟩:=id hu.out;obtain ⟨A2,c2,rfl,-⟩:=id hv.out;clear hB;have hb2:=bNew (au w1 (.cells #[.bool nx,.slice A1 (Ig.grp ax).length c1] 129)) (.cells #[.bool ny,.slice A2 (Ig.grp ay).length c2] 129);have hu2:=hu.call hb2;have hv2:=hv.call hb2;have hb3:=aj hb1 hb2;clear hu hv;cases nx <;> cases ny
 · have hz:z=Ig.dX ax ay:=hc.out;have hC:=kX ax ay _ _ _ hu2 hv2 (by omega) (by omega);rw [←hz]at hC;clear hc hz;go_wp2_with fail;refine hC.mono ?_;rintro _ w4 ⟨rfl,hb4⟩;clear hC;go_wp2;go_ret;exact ⟨rfl,aj hb3 hb4⟩
 · have hz:z=1:=hc.out;subst hz;clear hc;go_wp2;go_ret;exact ⟨rfl,hb3⟩
 · have hz:z= -1:=hc.out;subst hz;clear hc;go_wp2;go_ret;exact ⟨rfl,hb3⟩
 · have hz:z=Ig.dX ay ax:=hc.out;have hC:=kX ay ax _ _ _ hv2 hu2 (by omega) (by omega);rw [←hz]at hC;clear hc hz;go_wp2_with fail;refine hC.mono ?_;rintro _ w4 ⟨rfl,hb4⟩;clear hC;go_wp2;go_ret;exact ⟨rfl,aj hb3 hb4⟩
def QV (q:Rat):Value:=.agg #[.string ⟨(Lib.itoa q.num).toArray⟩,.string ⟨(Lib.itoa (q.den:Int)).toArray⟩]
theorem iE (y:Int):(Lib.itoa y==[48])=decide (y=0):=by
 have h0:Lib.itoa 0=[48]:=by decide +kernel
 rw[Bool.eq_iff_iff,beq_iff_eq,decide_eq_true_iff,←h0];exact ⟨fun h=>Ig.dH h,fun h=>by rw[h]⟩
theorem GR (y:Int):(Lib.itoa y==[49])=decide (y=1):=by
 have h0:Lib.itoa 1=[49]:=by decide +kernel
 rw[Bool.eq_iff_iff,beq_iff_eq,decide_eq_true_iff,←h0];exact ⟨fun h=>Ig.dH h,fun h=>by rw[h]⟩
theorem ji:Ig.fits 0:=by unfold Ig.fits;decide
theorem xu:Ig.fits 1:=Nat.lt_of_lt_of_le (show (1:Int).natAbs<10 ^ 1 by decide) (Nat.pow_le_pow_right (by decide) (by decide))
theorem jy:Lib.itoa 0=[48]:=by decide +kernel
theorem IG (n d:List UInt8) (w:World) (hn:n.length<=1000000) (h:Ig.bF n=false) :
 aW 65 #[.agg #[.string ⟨n.toArray⟩,.string ⟨d.toArray⟩]] w (.bool false):=by
 have hV:=fun w0=>ku n hn w0
 rw[h]at hV;have hb:=au w (.cells #[.string ⟨n.toArray⟩,.string ⟨d.toArray⟩] 51)
 go_enter Tryz.func65,Tryz.ntmps65
 go_wp2_with fail;refine (hV _).mono ?_;rintro _ w1 ⟨rfl,hb1⟩;have hb2:=aj hb hb1;clear hV;go_wp2;go_ret;exact ⟨rfl,hb2⟩
theorem IE (n d:List UInt8) (w:World) (hn:n.length<=1000000) (hd:d.length<=1000000) (h:Ig.bF n=true) (h':Ig.bF d=false) :
 aW 65 #[.agg #[.string ⟨n.toArray⟩,.string ⟨d.toArray⟩]] w (.bool false):=by
 have hV:=fun w0=>ku n hn w0
 have hV':=fun w0=>ku d hd w0
 rw[h]at hV;rw [h']at hV';have hb:=au w (.cells #[.string ⟨n.toArray⟩,.string ⟨d.toArray⟩] 51);have hB:=Bx.mk w 51 #[.string ⟨n.toArray⟩,.string ⟨d.toArray⟩];have c1:=hB.cell 1 rfl
 go_enter Tryz.func65,Tryz.ntmps65
 go_wp2_with fail;refine (hV _).mono ?_;rintro _ w1 ⟨rfl,hb1⟩;replace hb:=aj hb hb1;replace hB:=hB.call hb1;have c1:=hB.cell 1 rfl;go_wp2_with fail;refine (hV' _).mono ?_;rintro _ w2 ⟨rfl,hb1⟩;replace hb:=aj hb hb1;clear hV hV';go_wp2;go_ret;exact ⟨rfl,hb⟩
theorem Aw (x y:Int) (w:World) (hx:Ig.fits x) (hy:Ig.fits y) (hE:Env w) :
 aW 65 #[.agg #[.string ⟨(Lib.itoa x).toArray⟩,.string ⟨(Lib.itoa y).toArray⟩]] w (.bool (decide (0<y)&&decide (Nat.gcd x.natAbs y.natAbs=1))):=by
 have hV:=fun w0=>ku (Lib.itoa x) (aV hx) w0
 have hV':=fun w0=>ku (Lib.itoa y) (aV hy) w0
 rw[Ig.bQ hx]at hV;rw [Ig.bQ hy]at hV';have hC:=fun w0=>kZ y 0 w0 hy ji
 rw[jy]at hC;have hG:=fun w0 hE=>Fh x y w0 hx hy hE
 have h1:=GR ((Nat.gcd x.natAbs y.natAbs:Nat):Int);have h2:decide (((Nat.gcd x.natAbs y.natAbs:Nat):Int)=1)=decide (Nat.gcd x.natAbs y.natAbs=1):=decide_eq_decide.2 (by omega);rw [h2]at h1
 have hc:decide (dA y 0<=0)= !decide (0<y):=by
  unfold dA
  by_cases h:0<y
  · rw[if_neg (by omega),if_pos h];simp[h]
  · by_cases h':y<0
    · rw[if_pos h'];simp[h]
    · rw[if_neg h',if_neg h];simp[h]
 generalize dA y 0=cc at *;generalize Lib.itoa ((Nat.gcd x.natAbs y.natAbs:Nat):Int)=sg at *;generalize decide (Nat.gcd x.natAbs y.natAbs=1)=bg at *;generalize Lib.itoa x=n at *;generalize Lib.itoa y=d at *;generalize decide (0<y)=by0 at *;clear hx hy h2;have hb:=au w (.cells #[.string ⟨n.toArray⟩,.string ⟨d.toArray⟩] 51);have hB:=Bx.mk w 51 #[.string ⟨n.toArray⟩,.string ⟨d.toArray⟩];have c0:=hB.cell 0 rfl;have c1:=hB.cell 1 rfl
 go_enter Tryz.func65,Tryz.ntmps65
 go_wp2_with fail;refine (hV _).mono ?_;rintro _ w1 ⟨rfl,hb1⟩;replace hb:=aj hb hb1;replace hB:=hB.call hb1;have c1:=hB.cell 1 rfl;go_wp2_with fail;refine (hV' _).mono ?_;rintro _ w2 ⟨rfl,hb1⟩;replace hb:=aj hb hb1;replace hB:=hB.call hb1;have c1:=hB.cell 1 rfl;clear hV hV';go_wp2_with fail;refine (hC _).mono ?_;rintro _ w3 ⟨rfl,hb1⟩;replace hb:=aj hb hb1;replace hB:=hB.call hb1;have c0:=hB.cell 0 rfl;have c1:=hB.cell 1 rfl;clear hC;cases by0
 · have t:decide (cc<=0)=true:=hc;clear hc hG;go_wp2;go_ret;exact ⟨rfl,hb⟩
 · have t:decide (cc<=0)=false:=hc;have hG2:=hG _ (hE.below hb);clear hc hG;go_wp2_with fail;refine hG2.mono ?_;rintro _ w4 ⟨rfl,hb1⟩;replace hb:=aj hb hb1;clear hG2;go_wp2;go_ret;exact ⟨rfl,hb⟩
theorem qc (n d:List UInt8) (w:World) (hn:n.length<=1000000) (hd:d.length<=1000000) (hE:Env w) :
 aW 65 #[.agg #[.string ⟨n.toArray⟩,.string ⟨d.toArray⟩]] w (.bool (Rq.okB n d)):=by
 by_cases h1:Ig.bF n=true
 · by_cases h2:Ig.bF d=true
   · obtain⟨x,rfl,hx⟩:=Ig.jm h1;obtain ⟨y,rfl,hy⟩:=Ig.jm h2;have h:=Aw x y w hx hy hE;by_cases hq:0<y/\Nat.gcd x.natAbs y.natAbs=1
     · obtain⟨q,e1,e2⟩:=Rq.uG hq.1 hq.2;rw [Rq.qL ⟨q,⟨by rw[e1];exact hx,by rw[e2];exact hy⟩,by rw[e1],by rw[e2]⟩];rw [decide_eq_true hq.1,decide_eq_true hq.2]at h;exact h
     · have h3:¬Rq.IX (Lib.itoa x) (Lib.itoa y):=by
        rintro ⟨q,-,e1,e2⟩;have e1:=Ig.dH e1;have e2:=Ig.dH e2;subst e1;subst e2;exact hq ⟨Rq.iG q,Rq.KT q⟩
       rw[Rq.dV h3]
       have h4:(decide (0<y)&&decide (Nat.gcd x.natAbs y.natAbs=1))=false:=by
        by_cases h5:0<y
        · rw[decide_eq_false (fun h6=>hq ⟨h5,h6⟩),Bool.and_false]
        · rw[decide_eq_false h5,Bool.false_and]
       rw[h4]at h;exact h
   · have h3:¬Rq.IX n d:=by
      rintro ⟨q,hf,-,rfl⟩;exact h2 (Ig.bQ hf.den)
     rw[Rq.dV h3];exact IE n d w hn hd h1 (by simpa using h2)
 · have h3:¬Rq.IX n d:=by
    rintro ⟨q,hf,rfl,-⟩;exact h1 (Ig.bQ hf.num)
   rw[Rq.dV h3];exact IG n d w hn (by simpa using h1)
def LQ (q:Rat) (n d:List UInt8):Prop:=Kp (Lib.itoa q.num=n/\Lib.itoa (q.den:Int)=d)
theorem LQ.eq {q:Rat} {n d:List UInt8} (h:LQ q n d):QV q=.agg #[.string ⟨n.toArray⟩,.string ⟨d.toArray⟩]:=by
 rw[←h.out.1,←h.out.2];rfl
theorem LQ.ex (q:Rat):∃n d,LQ q n d:=⟨_,_,⟨rfl,rfl⟩⟩
theorem pO (z:Int) (b:Nat) (hb:0<b):(Rat.divInt z (b:Int)).num.natAbs<=z.natAbs/\(Rat.divInt z (b:Int)).den<=b:=by
 obtain⟨h1,h2⟩:=Rq.mP (n:=z) (d:=(b:Int)) (by omega)
 constructor
 · rw[h1];exact Int.natAbs_ediv_le_natAbs _ _
 · have:((Rat.divInt z (b:Int)).den:Int)<=(b:Int):=by
    rw[h2];exact Int.ediv_le_self _ (by omega)
   omega
theorem Nu (z:Int):Lib.itoa z≠[]:=by
 by_cases h:0<=z
 · rw[Ig.itoa_nonneg h];have:=Ig.Aa z.natAbs;intro h2;exact this (by simpa using h2)
 · rw[Ig.itoa_neg (by omega)];simp
theorem Qg:Rq.okB [] []=false:=Rq.dV (fun ⟨q,_,e,_⟩=>Nu _ e.symm)
end Go.Proofs.YtelljijajgiabaaGreatDoor

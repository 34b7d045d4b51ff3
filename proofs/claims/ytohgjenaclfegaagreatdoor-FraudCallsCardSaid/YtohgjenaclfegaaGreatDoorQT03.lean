import Derived.Test.YtohgjenaclfegaaGreatDoorQT02
import Derived.Test.YtohgjenaclfegaaGreatDoorQI05
set_option linter.unusedVariables false
set_option linter.unusedSimpArgs false
set_option maxRecDepth 100000
set_option maxHeartbeats 8000000
namespace Go.Proofs.YtohgjenaclfegaaGreatDoor
open Go.RowKit Go.Shelf
def kJ (q:Rat):List UInt8 × List UInt8:=(Lib.itoa q.num,Lib.itoa (q.den:Int))
def kD (p:List UInt8 × List UInt8):List Value:=[.string ⟨p.1.toArray⟩,.string ⟨p.2.toArray⟩]
def Un (q:Rat):Prop:=Rq.Fq q/\0<=q/\q<=1
def UnS (p:List UInt8 × List UInt8):Prop:=∃q,Un q/\p=kJ q
noncomputable def DZ (p:List UInt8 × List UInt8):Bool:=@decide (UnS p) (Classical.propDecidable _)
theorem Jp {p:List UInt8 × List UInt8} (h:UnS p):DZ p=true:=@decide_eq_true _ (Classical.propDecidable _) h
theorem WU {p:List UInt8 × List UInt8} (h:¬UnS p):DZ p=false:=@decide_eq_false _ (Classical.propDecidable _) h
theorem Ya (q:Rat) (p1 p2:List UInt8) (w:World) (hp:LQ q p1 p2) (hq:Rq.Fq q) (hE:Env w) :
 aT 156 #[.agg #[.string ⟨p1.toArray⟩,.string ⟨p2.toArray⟩]] w (.bool (!DZ (p1,p2))):=by
 have B:=Bx.mk w 77 #[.string ⟨p1.toArray⟩,.string ⟨p2.toArray⟩];have hb:=aA w (.cells #[.string ⟨p1.toArray⟩,.string ⟨p2.toArray⟩] 77);obtain ⟨za,zb,lz⟩:=LQ.ex (Wq 0);obtain ⟨oa,ob,lo⟩:=LQ.ex (Wq 1);obtain ⟨cz,hcz⟩:=AZ (Rq.kV q (Wq 0));obtain ⟨co,hco⟩:=AZ (Rq.kV q (Wq 1));have hI:I64 0:=⟨by decide,by decide⟩
 have hI1:I64 1:=⟨by decide,by decide⟩
 have hok:Rq.okB p1 p2=true:=by rw[←hp.out.1,←hp.out.2];exact Rq.vC hq
 have hln:p1.length<=1000000:=by rw[←hp.out.1];exact bJ hq.num
 have hld:p2.length<=1000000:=by rw[←hp.out.2];exact bJ hq.den
 generalize hW:w.alloc (.cells #[.string ⟨p1.toArray⟩,.string ⟨p2.toArray⟩] 77)=W0 at *;have hE0:=hE.below hb;have kv:=fun x os=>nG p1 p2 (Sort.grow (redrawn W0 x) os) hln hld (hE0.below (below_regrown W0 x os))
 rw[hok]at kv;have kz:=fun x os=>oP (Sort.grow (redrawn W0 x) os) hI lz (hE0.below (below_regrown W0 x os))
 have ko:=fun x os=>oP (Sort.grow (redrawn W0 x) os) hI1 lo (hE0.below (below_regrown W0 x os))
 have kcz:=fun x os=>jZ (Sort.grow (redrawn W0 x) os) hp lz hq (tZ hI) (hE0.below (below_regrown W0 x os)) hcz
 have kco:=fun x os=>jZ (Sort.grow (redrawn W0 x) os) hp lo hq (tZ hI1) (hE0.below (below_regrown W0 x os)) hco
 have g0:=fun x os=>(B.again x os).cell 0 rfl
 have g1:=fun x os=>(B.again x os).cell 1 rfl
 have pair:(p1,p2)=kJ q:=by unfold kJ;rw[hp.out.1,hp.out.2]
 have kP:(decide (cz<0)=true/\Kp (DZ (p1,p2)=false))∨(decide (cz<0)=false/\decide (co > 0)=true/\Kp (DZ (p1,p2)=false))∨(decide (cz<0)=false/\decide (co > 0)=false/\Kp (DZ (p1,p2)=true)):=by
  have hun:UnS (p1,p2)->0<=q/\q<=1:=fun ⟨r,⟨_,h1,h2⟩,h3⟩=>by
   have e:r=q:=by
    rw[pair]at h3
    unfold kJ at h3
    obtain⟨e1,e2⟩:=Prod.mk.inj h3;exact Rat.ext (Ig.dX e1).symm (by have:=Ig.dX e2;omega)
   rw[←e];exact⟨h1,h2⟩
  rcases Rq.jC q 0 with ⟨x,h⟩|⟨x,h⟩|⟨x,h⟩
  · left
    exact⟨by rw[←hcz.out,TL,x];rfl,⟨WU fun hu=>absurd (hun hu).1 (Rat.not_le.2 h)⟩⟩
  all_goals
   right
   have h0:decide (cz<0)=false:=by rw[←hcz.out,TL,x];rfl
   have hge:0<=q:=by first|exact Rat.le_of_lt h|(rw [h];exact Rat.le_refl)
   rcases Rq.jC q 1 with ⟨y,k⟩|⟨y,k⟩|⟨y,k⟩
   · right;exact⟨h0,by rw[←hco.out,Nw,y];rfl,⟨Jp ⟨q,⟨hq,hge,Rat.le_of_lt k⟩,pair⟩⟩⟩
   · right;exact⟨h0,by rw[←hco.out,Nw,y];rfl,⟨Jp ⟨q,⟨hq,hge,by rw[k];exact Rat.le_refl⟩,pair⟩⟩⟩
   · left;exact⟨h0,by rw[←hco.out,Nw,y];rfl,⟨WU fun hu=>absurd (hun hu).2 (Rat.not_le.2 k)⟩⟩
 clear hE hE0 hok hln hld hcz hco lz lo hp hq pair hI hI1;generalize DZ (p1,p2)=u at *
 rcases kP with ⟨t1,hu⟩|⟨t1,t2,hu⟩|⟨t1,t2,hu⟩
 all_goals
  go_enter Tryz.func156,Tryz.ntmps156
  go_wp2
  try rw[hW]
  clear hW;refine wp_region_quiet_below (by kernel_rfl) (by kernel_rfl) ?_
  repeat (go_big_quiet_step (first
   | (go_at_call 157;with_reducible exact Calls.regrown_of (kv _ _))
   | (go_at_call 146;with_reducible exact Calls.regrown_of (kz _ _))
   | (go_at_call 146;with_reducible exact Calls.regrown_of (ko _ _))
   | (go_at_call 103;with_reducible exact Calls.regrown_of (kcz _ _))
   | (go_at_call 103;with_reducible exact Calls.regrown_of (kco _ _))))
  refine wpQuiet_nil ?_;rintro _ ⟨z,rfl⟩;have hbz:=dY hb z.d z.os;clear kv kz ko kcz kco g0 g1;generalize Sort.grow (redrawn W0 z.d) z.os=W2 at *;go_wp2;go_ret;exact ⟨eF (by rw[hu.out] <;> rfl),hbz⟩
abbrev Pr:=List UInt8 × List UInt8
theorem idx_q (l:List Pr) (A:Option Addr) (cap:Nat) (w:World) (hA:At 2 kD w w.heap.size A l) (hn:l.length<=cap) (hl:l.length<=9223372036854775807)
 (hp:∀p∈l,∀W,Below w.heap.size w W->aT 156 #[.agg #[.string ⟨p.1.toArray⟩,.string ⟨p.2.toArray⟩]] W (.bool (!DZ p))) :
 aT 221 #[.slice A l.length cap,.func (.func 156) #[] #[]] w (.int .i64 (su (fun p=> !DZ p) l)):=by
 obtain⟨f,hf⟩:∃f:Pr->Bool,f=fun p=> !DZ p:=⟨_,rfl⟩
 have hp':∀p∈l,∀W,Below w.heap.size w W->aT 156 #[.agg #[.string ⟨p.1.toArray⟩,.string ⟨p.2.toArray⟩]] W (.bool (f p)):=by rw[hf];exact hp
 rw[←hf];clear hp hf
 go_enter Tryz.func221,Tryz.ntmps221
 go_wp2
 go_loopw [8] (fun s8 wr=>∃k:Nat,k<=l.length/\s8=.int .i64 k/\Kp (∀(j:Nat) (hj:j<l.length),j<k->f l[j]=false)/\Below w.heap.size w wr) (fun s8 _=>l.length-(intOf s8).toNat)
 case atStart=>exact⟨0,Nat.zero_le _,rfl,⟨fun j hj h=>by omega⟩,bH _⟩
 case round =>
  obtain⟨k,hk,rfl,hno,hb⟩:=hrel;by_cases hlt:k<l.length
  · obtain⟨b,off,rfl,hbB,hcell⟩:=hA (by omega);have hck:l[k]? = some l[k]:=List.getElem?_eq_getElem hlt;have hP:=hp' l[k] (List.getElem_mem hlt) wr hb;have hh:=fun (h:f l[k]=true)=>JI hlt h (fun j hj=>hno.out j (by omega) hj)
    have hnx:Kp (f l[k]=false->∀(j:Nat) (hj:j<l.length),j<k+1->f l[j]=false):=⟨fun h j hj hjk=>by
     rcases Nat.lt_or_ge j k with h1|h1
     · exact hno.out j hj h1
     · obtain rfl:j=k:=by omega
       exact h⟩
    have c0:wr.cell? ⟨b,off+k*2,none⟩=some (.string ⟨l[k].1.toArray⟩):=(hb.cell (p:=⟨b,_,none⟩) hbB).trans (hcell k _ hck 0 _ rfl);have c1:wr.cell? ⟨b,off+k*2+1,none⟩=some (.string ⟨l[k].2.toArray⟩):=(hb.cell (p:=⟨b,_,none⟩) hbB).trans (hcell k _ hck 1 _ rfl);have hfin:Kp (f l[k]=true->su f l=k):=⟨hh⟩
    generalize f l[k]=t at *;generalize l[k].1=x0 at *;generalize l[k].2=x1 at *;clear hcell hA hck hno hh hp';cases t
    · go_wp2_with (refine hP.mono ?_;rintro _ w1 ⟨rfl,hb1⟩;clear hP)
      exact⟨⟨k+1,by omega,by go_num,⟨by first|exact hnx.out rfl|exact hnx.out trivial⟩,ah hb hb1⟩,by simp[intOf];omega⟩
    · go_wp2_with (refine hP.mono ?_;rintro _ w1 ⟨rfl,hb1⟩;clear hP)
      go_ret;exact ⟨bQ (by first|exact (hfin.out rfl).symm|exact (hfin.out trivial).symm),ah hb hb1⟩
  · have hfin:Kp (su f l= -1):=⟨ER fun j hj=>hno.out j hj (by omega)⟩
    clear hno hp';go_wp2;go_ret;exact ⟨bQ hfin.out.symm,hb⟩
theorem XU (l:List Pr) (A:Option Addr) (cap:Nat) (w:World) (hA:At 2 kD w w.heap.size A l) (hn:l.length<=cap) (hl:l.length<=9223372036854775807)
 (hp:∀p∈l,∀W,Below w.heap.size w W->aT 156 #[.agg #[.string ⟨p.1.toArray⟩,.string ⟨p.2.toArray⟩]] W (.bool (!DZ p))) :
 aT 158 #[.slice A l.length cap,.func (.func 156) #[] #[]] w (.bool (l.any (fun p=> !DZ p))):=by
 have hI:=idx_q l A cap w hA hn hl hp;have hd:=JJ (fun p:Pr=> !DZ p) l;generalize su (fun p:Pr=> !DZ p) l=i at *;generalize l.any (fun p=> !DZ p)=r at *;clear hA hp;by_cases h:0<=i
 all_goals
  have t0:decide (0<=i)=r:=hd;first|rw[decide_eq_true h]at t0|rw[decide_eq_false h]at t0
  subst t0;clear hd
  go_enter Tryz.func158,Tryz.ntmps158
  go_wp2_with (go_at_call 221;refine hI.mono ?_;rintro _ w1 ⟨rfl,hb1⟩;clear hI)
  go_ret;exact ⟨eF (by simp <;> omega),hb1⟩
structure Ot (g:Nat) (W W':World):Prop where
 os:W'.os=W.os
 tape:W'.tape=W.tape
 output:W'.output=W.output
 size:W.heap.size<=W'.heap.size
 block:∀k,k<W.heap.size->k≠g->W'.heap[k]? = W.heap[k]?
theorem Ot.below {g:Nat} {W W':World} (h:Below W.heap.size W W'):Ot g W W':=⟨h.os,h.tape,h.output,h.size,fun k hk _=>h.block k hk⟩
theorem Ot.trans {g:Nat} {A B C:World} (h:Ot g A B) (k:Ot g B C):Ot g A C:=⟨k.os.trans h.os,k.tape.trans h.tape,k.output.trans h.output,Nat.le_trans h.size k.size,fun i hi hne=>(k.block i (Nat.lt_of_lt_of_le hi h.size) hne).trans (h.block i hi hne)⟩
theorem Ot.to {g B:Nat} {W W':World} (h:Ot g W W') (hB:B<=g) (hW:B<=W.heap.size):Below B W W':=⟨h.os,h.tape,h.output,h.size,fun k hk=>h.block k (by omega) (by omega)⟩
theorem Ot.bx {g b:Nat} {t:TypeId} {cs:Array Value} {W W':World} (h:Ot g W W') (hB:Bx W b t cs) (hne:b≠g):Bx W' b t cs:=(h.block b hB.lt hne).trans hB
theorem Ot.set {g:Nat} {W:World} (u:Value) (i:Nat) (o:Nat) (h:o=g∨W.heap.size<=o):Ot g W (W.setCell ⟨o,i,none⟩ u) :=
 ⟨((Below.refl 0 W).setCell (p:=⟨o,i,none⟩) (Nat.zero_le _) u).os,((Below.refl 0 W).setCell (p:=⟨o,i,none⟩) (Nat.zero_le _) u).tape,((Below.refl 0 W).setCell (p:=⟨o,i,none⟩) (Nat.zero_le _) u).output,((Below.refl 0 W).setCell (p:=⟨o,i,none⟩) (Nat.zero_le _) u).size,fun k hk hne=>Below.heap_setCell W ⟨o,i,none⟩ u k (by show k≠o;omega)⟩
theorem Ot.nV {g:Nat} {W W':World} (h:Ot g W W') (u:Value) (i:Nat) (o:Nat) (ho:o=g∨W.heap.size<=o):Ot g W (W'.setCell ⟨o,i,none⟩ u) :=
 have hb:=(Below.refl 0 W').setCell (p:=⟨o,i,none⟩) (Nat.zero_le _) u
 ⟨hb.os.trans h.os,hb.tape.trans h.tape,hb.output.trans h.output,Nat.le_trans h.size hb.size,fun k hk hne=>(Below.heap_setCell W' ⟨o,i,none⟩ u k (by show k≠o;omega)).trans (h.block k hk hne)⟩
theorem Oo (o o2:Option Rat) (q:Rat) (ge:Nat) (sa sb qa qb ra rb:List UInt8) (c c2:Int) (w:World) (ho:NZ o) (hq:Rq.Fq q) (h2:Kp (tY o (some q)=o2)) (es:Kp (sn o=sa/\sd o=sb/\eO o=c)) (lq:LQ q qa qb) (er:Kp (sn o2=ra/\sd o2=rb/\eO o2=c2)) (hB:Bx w ge 50 #[.int .i64 c]) (hE:Env w) :
 Calls Tryz.prog 160 #[.agg #[.string ⟨sa.toArray⟩,.string ⟨sb.toArray⟩],.agg #[.string ⟨qa.toArray⟩,.string ⟨qb.toArray⟩],.pointer (some ⟨ge,0,none⟩)] w fun e w'=>e=.returned (.agg #[.string ⟨ra.toArray⟩,.string ⟨rb.toArray⟩])/\Bx w' ge 50 #[.int .i64 c2]/\Ot ge w w':=by
 have hgl:=hB.lt;have B0:=((Bx.mk w 77 #[.string ⟨sa.toArray⟩,.string ⟨sb.toArray⟩]).new (.cells #[.string ⟨qa.toArray⟩,.string ⟨qb.toArray⟩] 77)).new (.cells #[.string ⟨#[]⟩,.string ⟨#[]⟩] 77);have B1:=(Bx.mk (w.alloc (.cells #[.string ⟨sa.toArray⟩,.string ⟨sb.toArray⟩] 77)) 77 #[.string ⟨qa.toArray⟩,.string ⟨qb.toArray⟩]).new (.cells #[.string ⟨#[]⟩,.string ⟨#[]⟩] 77);rw [aj]at B1;have B2:=Bx.mk ((w.alloc (.cells #[.string ⟨sa.toArray⟩,.string ⟨sb.toArray⟩] 77)).alloc (.cells #[.string ⟨qa.toArray⟩,.string ⟨qb.toArray⟩] 77)) 77 #[.string ⟨#[]⟩,.string ⟨#[]⟩];rw [aj,aj]at B2;have hb:=bNew (bNew (aA w (.cells #[.string ⟨sa.toArray⟩,.string ⟨sb.toArray⟩] 77)) (.cells #[.string ⟨qa.toArray⟩,.string ⟨qb.toArray⟩] 77)) (.cells #[.string ⟨#[]⟩,.string ⟨#[]⟩] 77);have BE:=hB.call hb;have c0:=BE.cell 0 rfl;have a0:=B0.cell 0 rfl;have a1:=B0.cell 1 rfl;have b0:=B1.cell 0 rfl;have b1:=B1.cell 1 rfl;generalize hW:((w.alloc (.cells #[.string ⟨sa.toArray⟩,.string ⟨sb.toArray⟩] 77)).alloc (.cells #[.string ⟨qa.toArray⟩,.string ⟨qb.toArray⟩] 77)).alloc (.cells #[.string ⟨#[]⟩,.string ⟨#[]⟩] 77)=W0 at *;have hE0:=hE.below hb
 rcases o with _|x
 · have e2:o2=none:=h2.out.symm;subst e2;have e3:sa=ra:=es.out.1.symm.trans er.out.1;have e4:sb=rb:=es.out.2.1.symm.trans er.out.2.1;have e5:c=40:=es.out.2.2.symm;have e6:c2=40:=er.out.2.2.symm;subst e3 e4 e5 e6;have d0:=B2.cell 0 rfl;have d1:=B2.cell 1 rfl;have f0:=B2.frozen 0;have f1:=B2.frozen 1;have B4:=(B2.set 0 (.string ⟨sa.toArray⟩)).set 1 (.string ⟨sb.toArray⟩);have O4:=(Ot.below (g:=ge) hb).nV (.string ⟨sa.toArray⟩) 0 (w.heap.size+1+1) (.inr (by omega));replace O4:=O4.nV (.string ⟨sb.toArray⟩) 1 (w.heap.size+1+1) (.inr (by omega));have E4:=(BE.far (p:=⟨w.heap.size+1+1,0,none⟩) (by show ge≠w.heap.size+1+1;omega) (.string ⟨sa.toArray⟩)).far (p:=⟨w.heap.size+1+1,1,none⟩) (by show ge≠w.heap.size+1+1;omega) (.string ⟨sb.toArray⟩);clear es er h2 ho hE hE0 hq lq
   go_enter Tryz.func160,Tryz.ntmps160
   go_wp2;exact bodyPost_ret (dW rfl _ _ rfl B4) rfl ⟨rfl,E4,O4⟩
 · obtain⟨hF2,hAdd⟩:=FW (some x) (some q) ho (fun r hr=>by cases hr;exact hq);have hA:=hAdd W0 hE0;rw [h2.out]at hA;have v1:VO (some x)=.agg #[.string ⟨sa.toArray⟩,.string ⟨sb.toArray⟩]:=by unfold VO;rw[es.out.1,es.out.2.1]
   have v2:VO (some q)=.agg #[.string ⟨qa.toArray⟩,.string ⟨qb.toArray⟩]:=by rw[←lq.eq];rfl
   have v3:VO o2=.agg #[.string ⟨ra.toArray⟩,.string ⟨rb.toArray⟩]:=by unfold VO;rw[er.out.1,er.out.2.1]
   rw[v1,v2,v3,er.out.2.2]at hA;have e5:c=0:=es.out.2.2.symm;subst e5;clear es er h2 ho hE hE0 hq lq v1 v2 v3 hAdd hF2
   go_enter Tryz.func160,Tryz.ntmps160
   go_wp2_with fail;refine hA.mono ?_;rintro _ w1 ⟨rfl,hb1⟩;clear hA a0 a1 b0 b1 c0;replace B0:=B0.call hb1;replace B2:=B2.call hb1;replace BE:=BE.call hb1;replace hb:=ah hb hb1;have a0:=B0.cell 0 rfl;have a1:=B0.cell 1 rfl;have f0:=B0.frozen 0;have f1:=B0.frozen 1;have c0:=BE.cell 0 rfl;have fe:=BE.frozen 0;have P0:Bx ((w1.setCell ⟨w.heap.size,0,none⟩ (.string ⟨ra.toArray⟩)).setCell ⟨w.heap.size,1,none⟩ (.string ⟨rb.toArray⟩)) w.heap.size 77 #[.string ⟨ra.toArray⟩,.string ⟨rb.toArray⟩]:=by simpa using (B0.set 0 (.string ⟨ra.toArray⟩)).set 1 (.string ⟨rb.toArray⟩)
   have BE1:Bx ((w1.setCell ⟨w.heap.size,0,none⟩ (.string ⟨ra.toArray⟩)).setCell ⟨w.heap.size,1,none⟩ (.string ⟨rb.toArray⟩)) ge 50 #[.int .i64 0]:=(BE.far (p:=⟨w.heap.size,0,none⟩) (by show ge≠w.heap.size;omega) (.string ⟨ra.toArray⟩)).far (p:=⟨w.heap.size,1,none⟩) (by show ge≠w.heap.size;omega) (.string ⟨rb.toArray⟩);have B21:Bx ((w1.setCell ⟨w.heap.size,0,none⟩ (.string ⟨ra.toArray⟩)).setCell ⟨w.heap.size,1,none⟩ (.string ⟨rb.toArray⟩)) (w.heap.size+1+1) 77 #[.string ⟨#[]⟩,.string ⟨#[]⟩]:=(B2.far (p:=⟨w.heap.size,0,none⟩) (by show _≠w.heap.size;omega) (.string ⟨ra.toArray⟩)).far (p:=⟨w.heap.size,1,none⟩) (by show _≠w.heap.size;omega) (.string ⟨rb.toArray⟩);have P02:Bx (((w1.setCell ⟨w.heap.size,0,none⟩ (.string ⟨ra.toArray⟩)).setCell ⟨w.heap.size,1,none⟩ (.string ⟨rb.toArray⟩)).setCell ⟨ge,0,none⟩ (.int .i64 c2)) w.heap.size 77 #[.string ⟨ra.toArray⟩,.string ⟨rb.toArray⟩]:=P0.far (p:=⟨ge,0,none⟩) (by show _≠ge;omega) (.int .i64 c2);have BE2:Bx (((w1.setCell ⟨w.heap.size,0,none⟩ (.string ⟨ra.toArray⟩)).setCell ⟨w.heap.size,1,none⟩ (.string ⟨rb.toArray⟩)).setCell ⟨ge,0,none⟩ (.int .i64 c2)) ge 50 #[.int .i64 c2]:=by simpa using BE1.set 0 (.int .i64 c2)
   have B22:Bx (((w1.setCell ⟨w.heap.size,0,none⟩ (.string ⟨ra.toArray⟩)).setCell ⟨w.heap.size,1,none⟩ (.string ⟨rb.toArray⟩)).setCell ⟨ge,0,none⟩ (.int .i64 c2)) (w.heap.size+1+1) 77 #[.string ⟨#[]⟩,.string ⟨#[]⟩]:=B21.far (p:=⟨ge,0,none⟩) (by show _≠ge;omega) (.int .i64 c2);have ce2:=BE1.cell 0 rfl;have fe2:=BE1.frozen 0;have p0:=P02.cell 0 rfl;have p1:=P02.cell 1 rfl;have r0:=B22.cell 0 rfl;have r1:=B22.cell 1 rfl;have rf0:=B22.frozen 0;have rf1:=B22.frozen 1;have B4:=(B22.set 0 (.string ⟨ra.toArray⟩)).set 1 (.string ⟨rb.toArray⟩);have E4:=(BE2.far (p:=⟨w.heap.size+1+1,0,none⟩) (by show ge≠w.heap.size+1+1;omega) (.string ⟨ra.toArray⟩)).far (p:=⟨w.heap.size+1+1,1,none⟩) (by show ge≠w.heap.size+1+1;omega) (.string ⟨rb.toArray⟩);have O4:=(((((Ot.below (g:=ge) hb).nV (.string ⟨ra.toArray⟩) 0 w.heap.size (.inr (Nat.le_refl _))).nV (.string ⟨rb.toArray⟩) 1 w.heap.size (.inr (Nat.le_refl _))).nV (.int .i64 c2) 0 ge (.inl rfl)).nV (.string ⟨ra.toArray⟩) 0 (w.heap.size+1+1) (.inr (by omega))).nV (.string ⟨rb.toArray⟩) 1 (w.heap.size+1+1) (.inr (by omega));clear B0 B2 BE P0 BE1 B21 P02 BE2 B22 hb hb1 B1 hB hW;go_wp2;exact bodyPost_ret (dW rfl _ _ rfl B4) rfl ⟨rfl,E4,O4⟩
noncomputable def comb (l:List Rat):Option Rat:=l.foldl (fun o q=>tY o (some q)) (some 0)
theorem Bf (l:List Rat) (q:Rat):comb (l++[q])=tY (comb l) (some q):=by unfold comb;rw[List.foldl_append];rfl
theorem JZ:∀(l:List Rat) (o:Option Rat),NZ o->(∀q∈l,Rq.Fq q)->NZ (l.foldl (fun o q=>tY o (some q)) o)
 | [],o,ho,_=>ho
 | q :: l,o,ho,h=>JZ l _ (FW o (some q) ho (fun r hr=>by cases hr;exact h q (by simp))).1 fun r hr=>h r (List.mem_cons_of_mem _ hr)
theorem Ko {l:List Rat} (h:∀q∈l,Rq.Fq q):NZ (comb l):=JZ l (some 0) (fun q h=>by cases h;exact⟨uN,Rx⟩) h
theorem Fe (qs:List Rat) (A:Option Addr) (cap ge:Nat) (za zb:List UInt8) (w:World) (n₀:Nat) (lz:LQ (Wq 0) za zb) (hA:At 2 kD w n₀ A (qs.map kJ)) (hn:qs.length<=cap) (hl:qs.length<=20) (hq:∀q∈qs,Rq.Fq q) (hB:Bx w ge 50 #[.int .i64 0]) (hge:n₀<=ge) (NU:∀W,Below n₀ w W->Env W) :
 Calls Tryz.prog 159 #[.agg #[.string ⟨za.toArray⟩,.string ⟨zb.toArray⟩],.slice A qs.length cap,.func (.func 160) #[] #[.pointer (some ⟨ge,0,none⟩)]] w fun e w'=>e=.returned (VO (comb qs))/\Bx w' ge 50 #[.int .i64 (eO (comb qs))]/\Ot ge w w':=by
 have hgl:=hB.lt;have B0:=(Bx.mk w 77 #[.string ⟨za.toArray⟩,.string ⟨zb.toArray⟩]).new (.cells #[.string ⟨#[]⟩,.string ⟨#[]⟩] 77);have B1:=Bx.mk (w.alloc (.cells #[.string ⟨za.toArray⟩,.string ⟨zb.toArray⟩] 77)) 77 #[.string ⟨#[]⟩,.string ⟨#[]⟩];rw [aj]at B1;have hb:=bNew (aA w (.cells #[.string ⟨za.toArray⟩,.string ⟨zb.toArray⟩] 77)) (.cells #[.string ⟨#[]⟩,.string ⟨#[]⟩] 77);have BE:=hB.call hb
 have hz0:sn (comb [])=za/\sd (comb [])=zb/\eO (comb [])=0:=by
  have h1:=lz.out;rw [TL]at h1;exact ⟨h1.1,h1.2,rfl⟩
 have hfin:Kp (comb (qs.take qs.length)=comb qs):=⟨by rw[List.take_length]⟩
 go_enter Tryz.func159,Tryz.ntmps159
 go_wp2_with fail
 go_loopw [11] (fun s11 wr=>∃(k:Nat) (sa sb:List UInt8) (c:Int),s11=.int .i64 k/\k<=qs.length/\Kp (sn (comb (qs.take k))=sa/\sd (comb (qs.take k))=sb/\eO (comb (qs.take k))=c)/\Bx wr w.heap.size 77 #[.string ⟨sa.toArray⟩,.string ⟨sb.toArray⟩]/\Bx wr (w.heap.size+1) 77 #[.string ⟨#[]⟩,.string ⟨#[]⟩]/\Bx wr ge 50 #[.int .i64 c]/\Ot ge w wr) (fun s11 _=>qs.length-(intOf s11).toNat)
 case atStart=>exact⟨0,za,zb,0,rfl,Nat.zero_le _,⟨hz0⟩,B0,B1,BE,Ot.below hb⟩
 case round =>
  clear B0 B1 BE hb hB hz0;obtain ⟨k,sa,sb,c,rfl,hk,hs,B0,B1,BE,hO⟩:=hrel;by_cases hlt:k<qs.length
  · have t0:decide ((k:Int)<(qs.length:Int))=true:=by simp;omega
    have hkl:k<qs.length:=by omega
    have hgw:n₀<=w.heap.size:=by omega
    obtain⟨b,off,rfl,hbB,hcell⟩:=(hA.below (hO.to hge hgw)) (by rw[List.length_map];omega)
    obtain⟨qa,qb,lq⟩:=LQ.ex qs[k];have hck:(qs.map kJ)[k]? = some (kJ qs[k]):=by rw[List.getElem?_map,List.getElem?_eq_getElem hkl];rfl
    have c0:wr.cell? ⟨b,off+k*2,none⟩=some (.string ⟨qa.toArray⟩):=by rw[←lq.out.1];exact hcell k _ hck 0 _ rfl
    have c1:wr.cell? ⟨b,off+k*2+1,none⟩=some (.string ⟨qb.toArray⟩):=by rw[←lq.out.2];exact hcell k _ hck 1 _ rfl
    obtain⟨o,ho⟩:∃o,comb (qs.take k)=o:=⟨_,rfl⟩
    obtain⟨o2,ho2⟩:∃o2,comb (qs.take (k+1))=o2:=⟨_,rfl⟩
    have hstep:Kp (tY o (some qs[k])=o2):=⟨by rw[←ho,←ho2,List.take_succ_eq_append_getElem hkl,Bf]⟩
    have hFo:NZ o:=by rw[←ho];exact Ko fun q hq'=>hq q (List.mem_of_mem_take hq')
    have hFq:=hq qs[k] (List.getElem_mem hkl);rw [ho]at hs;obtain ⟨ra,rb,c2,hr⟩:∃ra rb c2,sn o2=ra/\sd o2=rb/\eO o2=c2:=⟨_,_,_,rfl,rfl,rfl⟩
    have hr':Kp (sn (comb (qs.take (k+1)))=ra/\sd (comb (qs.take (k+1)))=rb/\eO (comb (qs.take (k+1)))=c2):=⟨by rw[ho2];exact hr⟩
    have l0:=B0.lt;have l1:=B1.lt;have lE:=BE.lt;have hbX:=aA wr (.cells #[.string ⟨qa.toArray⟩,.string ⟨qb.toArray⟩] 77);have hC:=Oo o o2 qs[k] ge sa sb qa qb ra rb c c2 (wr.alloc (.cells #[.string ⟨qa.toArray⟩,.string ⟨qb.toArray⟩] 77)) hFo hFq hstep hs lq ⟨hr⟩ (BE.call hbX) (NU _ ((hO.to hge hgw).trans (hbX.mono (Nat.le_trans hgw hO.size))));have X0:=B0.call hbX;have X1:=B1.call hbX;have X8:=Bx.mk wr 77 #[.string ⟨qa.toArray⟩,.string ⟨qb.toArray⟩];have a0:=X0.cell 0 rfl;have a1:=X0.cell 1 rfl;have x0:=X8.cell 0 rfl;have x1:=X8.cell 1 rfl;replace hO:=hO.trans (Ot.below hbX);clear hcell hck ho ho2 hstep hFo hFq hs hr B0 B1 BE hq lq NU;go_wp2_with fail;refine hC.mono ?_;rintro _ w1 ⟨rfl,hBE,Zz⟩;clear hC a0 a1 x0 x1;have Y0:=Zz.bx X0 (by omega);have Y1:=Zz.bx X1 (by omega);have a0:=Y0.cell 0 rfl;have a1:=Y0.cell 1 rfl;have f0:=Y0.frozen 0;have f1:=Y0.frozen 1;have Z0:Bx ((w1.setCell ⟨w.heap.size,0,none⟩ (.string ⟨ra.toArray⟩)).setCell ⟨w.heap.size,1,none⟩ (.string ⟨rb.toArray⟩)) w.heap.size 77 #[.string ⟨ra.toArray⟩,.string ⟨rb.toArray⟩]:=by simpa using (Y0.set 0 (.string ⟨ra.toArray⟩)).set 1 (.string ⟨rb.toArray⟩)
    have Z1:=(Y1.far (p:=⟨w.heap.size,0,none⟩) (by show _≠w.heap.size;omega) (.string ⟨ra.toArray⟩)).far (p:=⟨w.heap.size,1,none⟩) (by show _≠w.heap.size;omega) (.string ⟨rb.toArray⟩);have ZE:=(hBE.far (p:=⟨w.heap.size,0,none⟩) (by show ge≠w.heap.size;omega) (.string ⟨ra.toArray⟩)).far (p:=⟨w.heap.size,1,none⟩) (by show ge≠w.heap.size;omega) (.string ⟨rb.toArray⟩);have ZO:=((hO.trans Zz).nV (.string ⟨ra.toArray⟩) 0 w.heap.size (.inr (Nat.le_refl _))).nV (.string ⟨rb.toArray⟩) 1 w.heap.size (.inr (Nat.le_refl _));clear X0 X1 X8 hO Zz hBE Y0 Y1 hbX;go_wp2;exact ⟨⟨k+1,ra,rb,c2,by go_num,by omega,hr',Z0,Z1,ZE,ZO⟩,by simp[intOf] <;> omega⟩
  · have hkN:k=qs.length:=by omega
    rw[hkN,hfin.out]at hs;have t0:decide ((k:Int)<(qs.length:Int))=false:=by simp;omega
    clear hkN;have ev:VO (comb qs)=.agg #[.string ⟨sa.toArray⟩,.string ⟨sb.toArray⟩]:=by unfold VO;rw[hs.out.1,hs.out.2.1]
    have ee:Kp (eO (comb qs)=c):=⟨hs.out.2.2⟩
    have ev:=Kp.mk ev;have a0:=B0.cell 0 rfl;have a1:=B0.cell 1 rfl;have r0:=B1.cell 0 rfl;have r1:=B1.cell 1 rfl;have f0:=B1.frozen 0;have f1:=B1.frozen 1;have lE:=BE.lt;have B4:=(B1.set 0 (.string ⟨sa.toArray⟩)).set 1 (.string ⟨sb.toArray⟩);have ZE:=(BE.far (p:=⟨w.heap.size+1,0,none⟩) (by show ge≠w.heap.size+1;omega) (.string ⟨sa.toArray⟩)).far (p:=⟨w.heap.size+1,1,none⟩) (by show ge≠w.heap.size+1;omega) (.string ⟨sb.toArray⟩);have ZO:=(hO.nV (.string ⟨sa.toArray⟩) 0 (w.heap.size+1) (.inr (by omega))).nV (.string ⟨sb.toArray⟩) 1 (w.heap.size+1) (.inr (by omega));clear hs hfin hA NU hq B0 B1 BE hO lz;go_wp2;exact bodyPost_ret (dW rfl _ _ rfl B4) rfl ⟨by rw[ev.out],by rw[ee.out];exact ZE,ZO⟩
theorem DL (qs:List Rat) (A:Option Addr) (cap:Nat) (r:Rat) (ra rb:List UInt8) (w:World) (hA:At 2 kD w w.heap.size A (qs.map kJ)) (hn:qs.length<=cap) (hl:qs.length<=20) (hq:∀q∈qs,Un q) (hc:Kp (comb qs=some r)) (lr:LQ (Ar r) ra rb) (hE:Env w) :
 aT 100 #[.slice A qs.length cap] w (.tuple #[.agg #[.string ⟨ra.toArray⟩,.string ⟨rb.toArray⟩],.int .i64 0]):=by
 have hb0:=aA w (.cells #[.string ⟨#[]⟩,.string ⟨#[]⟩] 77);have BR:=Bx.mk w 77 #[.string ⟨#[]⟩,.string ⟨#[]⟩];obtain ⟨za,zb,lz⟩:=LQ.ex (Wq 0);have hI:I64 0:=⟨by decide,by decide⟩
 have hcon:=XU (qs.map kJ) A cap (w.alloc (.cells #[.string ⟨#[]⟩,.string ⟨#[]⟩] 77)) ((hA.below hb0).more hb0.size) (by rw[List.length_map];exact hn) (by rw[List.length_map];omega) (fun p hp W hW=>by
  obtain⟨q,hqm,rfl⟩:=List.mem_map.1 hp
  exact Ya q _ _ W ⟨⟨rfl,rfl⟩⟩ (hq q hqm).1 ((hE.below hb0).below hW))
 rw[List.length_map]at hcon
 have hany:(qs.map kJ).any (fun p=> !DZ p)=false:=by
  rw[List.any_eq_false];intro p hp;obtain ⟨q,hqm,rfl⟩:=List.mem_map.1 hp;rw [Jp ⟨q,hq q hqm,rfl⟩];decide
 rw[hany]at hcon;have t0:decide ((qs.length:Int) > 20)=false:=by simp;omega
 obtain⟨oa,ob,lo⟩:=LQ.ex r;have hrf:Rq.Fq r:=Ko (fun q h=>(hq q h).1) r hc.out;have vO:VO (comb qs)=.agg #[.string ⟨oa.toArray⟩,.string ⟨ob.toArray⟩]:=by rw[hc.out,←lo.eq];rfl
 have eO':eO (comb qs)=0:=by rw[hc.out];rfl
 have NU:∀W,Below w.heap.size w W->Env W:=fun W hW=>hE.below hW
 clear hany
 go_enter Tryz.func100,Tryz.ntmps100
 go_wp2_with (go_at_call 158;refine hcon.mono ?_;rintro _ w1 ⟨rfl,hb1⟩;clear hcon)
 replace hb0:=ah hb0 hb1;replace BR:=BR.call hb1;have Ic:=bNew hb0 (.cells #[.int .i64 0] 50);have BE:=Bx.mk w1 50 #[.int .i64 0];replace BR:=BR.new (.cells #[.int .i64 0] 50);have lR:=BR.lt;have hw:=oP (w1.alloc (.cells #[.int .i64 0] 50)) hI lz (NU _ Ic);have H_:=hb0.size;have hRlt:w.heap.size<w1.heap.size:=by have:=hb1.size;rw[aj]at this;omega
 refine hw.mono ?_;rintro _ w2 ⟨rfl,hb2⟩;clear hw;replace Ic:=ah Ic hb2;replace BE:=BE.call hb2;replace BR:=BR.call hb2;have hF:=Fe qs A cap w1.heap.size za zb w2 w.heap.size lz (hA.below Ic) hn hl (fun q h=>(hq q h).1) BE H_ (fun W hW=>NU W (Ic.trans hW));rw [vO,eO']at hF;go_wp2_with fail;refine hF.mono ?_;rintro _ w3 ⟨rfl,BE3,hO⟩;clear hF;have BR3:=hO.bx BR (by omega);have hb3:=Ic.trans (hO.to H_ (Nat.le_trans H_ (by have:=BE.lt;omega)));have hb4:=bNew hb3 (.cells #[.string ⟨oa.toArray⟩,.string ⟨ob.toArray⟩] 77);have BE4:=BE3.new (.cells #[.string ⟨oa.toArray⟩,.string ⟨ob.toArray⟩] 77);have Yl:=BR3.new (.cells #[.string ⟨oa.toArray⟩,.string ⟨ob.toArray⟩] 77);have B6:=Bx.mk w3 77 #[.string ⟨oa.toArray⟩,.string ⟨ob.toArray⟩];have e0:=BE4.cell 0 rfl;have s0:=B6.cell 0 rfl;have s1:=B6.cell 1 rfl;have hL:=Vs (w3.alloc (.cells #[.string ⟨oa.toArray⟩,.string ⟨ob.toArray⟩] 77)) hrf lo lr (NU _ hb4);clear hE NU hc lr lo lz hrf hq hA vO eO' hO BE BE3 BR BR3 hb0 Ic hb1 hb2 hb3;go_wp2_with fail;refine hL.mono ?_;rintro _ w5 ⟨rfl,hb5⟩;clear hL;replace Yl:=Yl.call hb5;have d0:=Yl.cell 0 rfl;have d1:=Yl.cell 1 rfl;have f0:=Yl.frozen 0;have f1:=Yl.frozen 1;have B9:=(Yl.set 0 (.string ⟨ra.toArray⟩)).set 1 (.string ⟨rb.toArray⟩);have aX:=aK (aK (ah hb4 hb5) (p:=⟨w.heap.size,0,none⟩) (Nat.le_refl _) (.string ⟨ra.toArray⟩)) (p:=⟨w.heap.size,1,none⟩) (Nat.le_refl _) (.string ⟨rb.toArray⟩);clear Yl BE4 B6 e0 s0 s1 hb4 hb5;go_wp2;exact bodyPost_ret (bG rfl _ _ rfl rfl B9) rfl ⟨rfl,aX⟩
structure SE (w0 w:World):Prop where
 bl:Below w0.heap.size w0 w
 env:Env w
theorem SE.call {w0 w w':World} (h:SE w0 w) (hb:Below w.heap.size w w'):SE w0 w':=⟨ah h.bl hb,h.env.below hb⟩
theorem SE.at (w:World) {h0 w1:World} (hE:Env h0) (hb:Below h0.heap.size h0 w1):SE h0 w1:=⟨hb,hE.below hb⟩
theorem LQ.same {q:Rat} {a b c d:List UInt8} (h:LQ q a b) (k:LQ q c d):a=c/\b=d:=⟨h.out.1.symm.trans k.out.1,h.out.2.symm.trans k.out.2⟩
end Go.Proofs.YtohgjenaclfegaaGreatDoor
namespace Tb
def cD (x y:Int):Int:=if Tp.pick x 8=7 then 1+Tp.pick y 1000 else 1+Tp.pick y 12
def cN (x y:Int):Int:=Tp.pick (x.tdiv 8) (cD x y+1)
end Tb
namespace Go.Proofs.YtohgjenaclfegaaGreatDoor
open Go.RowKit Go.Shelf
section
variable {x y z:Rat} {xa xb ya yb za zb:List UInt8} {j k:Nat} (w:World) (lx:LQ x xa xb) (ly:LQ y ya yb) (lz:LQ z za zb) (hx:Rq.Qz j j x) (hy:Rq.Qz k k y) (hjk:j+k+1<=200)
include lx ly lz hx hy hjk
end
structure NH (W:World) (a:Nat) (v:Value):Prop where
 out:∃(A:Option Addr) (cap:Nat),v=.slice A (Dx.grp a).length cap/\At 1 aZ W W.heap.size A (Dx.grp a)/\(Dx.grp a).length<=cap/\cap<=maxLen
theorem NH.call {W W':World} {a:Nat} {v:Value} (h:NH W a v) (hb:Below W.heap.size W W'):NH W' a v:=by
 obtain⟨A,cap,h1,h2,h3,h4⟩:=h.out;exact ⟨A,cap,h1,(h2.below hb).more hb.size,h3,h4⟩
end Go.Proofs.YtohgjenaclfegaaGreatDoor
namespace Dx
end Dx
namespace Go.Proofs.YtohgjenaclfegaaGreatDoor
open Go.RowKit Go.Shelf
structure FrI (B:Nat) (v:Value):Prop where
 out:∀b off n c,v=.slice (some ⟨b,off,none⟩) n c->B<=b
theorem NH.far {W:World} {a B:Nat} {v:Value} (h:NH W a v) (hF:FrI B v) {p:Addr} (hp:p.block<B) (u:Value):NH (W.setCell p u) a v:=by
 obtain⟨A,cap,rfl,hA,h3,h4⟩:=h.out;refine ⟨A,cap,rfl,fun h0=>?_,h3,h4⟩;obtain ⟨b,off,rfl,hb,hc⟩:=hA h0;have hB:=hF.out b off _ _ rfl;exact ⟨b,off,rfl,Nat.lt_of_lt_of_le hb (KeepsOthers.setCell W _ u).size,fun i c hi j v hj=>(jV (Below.heap_setCell W p u b (by omega))).trans (hc i c hi j v hj)⟩
end Go.Proofs.YtohgjenaclfegaaGreatDoor
namespace Tb
end Tb
namespace Go.Proofs.YtohgjenaclfegaaGreatDoor
open Go.RowKit Go.Shelf
theorem U9:∃i z,Tryz.prog.info? 77=some i/\i.zero=some z/\i.size=2/\z.cells.size=2/\i.bytes=32:=by
 have h:(Tryz.prog.info? 77).map (fun i=>(i.size,i.bytes,i.zero.map (·.cells.size)))=some (2,32,some 2):=by kernel_rfl
 cases hi:Tryz.prog.info? 77 with
 | none=>rw[hi]at h;cases h
 | some i =>
  rw[hi]at h;simp only[Option.map_some,Option.some.injEq,Prod.mk.injEq]at h;obtain ⟨h1,h2,h3⟩:=h
  cases hz:i.zero with
  | none=>rw[hz]at h3;cases h3
  | some z=>rw[hz]at h3;exact⟨i,z,rfl,hz,h1,by simpa using h3,h2⟩
def vU (q:Rat):List Value:=kD (kJ q)
theorem OZ (q:Rat):(vU q).length=2:=rfl
theorem U8 {q:Rat} {a b:List UInt8} (h:LQ q a b):vU q=[.string ⟨a.toArray⟩,.string ⟨b.toArray⟩]:=by
 unfold vU kD kJ;rw[h.out.1,h.out.2]
theorem Wp {w:World} {B:Nat} {A:Option Addr} {l:List Rat} (h:At 2 vU w B A l):At 2 kD w B A (l.map kJ):=fun h0=>by
 rw[List.length_map]at h0;obtain ⟨b,off,rfl,hb,hc⟩:=h h0;refine ⟨b,off,rfl,hb,fun i c hi=>?_⟩;rw [List.getElem?_map]at hi;obtain ⟨q,hq,rfl⟩:=Option.map_eq_some_iff.1 hi;exact hc i q hq
theorem SE.set {w0 w:World} (h:SE w0 w) (hE:Env w0) {p:Addr} (hp:w0.heap.size<=p.block) (u:Value):SE w0 (w.setCell p u):=⟨aK h.bl hp u,hE.below (aK h.bl hp u)⟩
end Go.Proofs.YtohgjenaclfegaaGreatDoor

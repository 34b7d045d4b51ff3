import Derived.Test.YtohgjenaclfegaaGreatDoorQA07
import Derived.Test.YtohgjenaclfegaaGreatDoorCards
import Derived.Test.YtohgjenaclfegaaGreatDoorTie
import Derived.LaidMore
import Derived.Lay
import Derived.SevenTiedAt
import Derived.Stop.Joined
import Derived.Stop.LaidErr
import Derived.Lib.LaidTab
import Derived.Lib.SmallJoins
set_option linter.unusedVariables false
set_option linter.unusedSimpArgs false
set_option maxRecDepth 100000
set_option maxHeartbeats 8000000
namespace Go.Proofs.YtohgjenaclfegaaGreatDoor
set_option linter.constructorNameAsVariable false
open Go.Joins Go.ChangeShapes Go.WideShapes Go.ChangeAt Go.RowKit
theorem own:ownKnob Tryz.prog.godebug=none:=by kernel_rfl
theorem laidOut:laidOutB Tryz.prog=true:=by kernel_rfl
theorem iP {z:Int} (h:(Lit.int .i64 z).wf=true):uY z:=bounds_i64 h
theorem Ur {W:World} (h:laidMetH Tryz.prog Rows.fraudCallsRow.laid W):Env W:=by
 rw[MakeChecks.laidMetH_plain _ _ _ (by kernel_rfl)]at h;have h3:=h.tail.tail;have e1:(Rows.laid_internal_strconv_uint64pow10:DataW Unit)=Lib.tabData .u64 Lib.pow10Tab:=by kernel_rfl
 simp only[e1]at h3;exact Lib.tabIs_of_head (g:=1) (t:=375) (e:=284) (n:=20) (by kernel_rfl) (by kernel_rfl) (by kernel_rfl) (by kernel_rfl) (by kernel_rfl) (by kernel_rfl) h3
theorem SC {W:World} (h:laidMetH Tryz.prog Rows.fraudCallsRow.laid W):Rnd W:=by
 rw[MakeChecks.laidMetH_plain _ _ _ (by kernel_rfl)]at h;have h3:=h.tail.tail.tail.tail.tail.tail;have e1:(Rows.laid_dialtone_digest_round:DataW Unit)=Lib.tabData .u32 Sh.kc:=by kernel_rfl
 simp only[e1]at h3;have h4:=Lib.tabIs_of_head (g:=0) (t:=361) (e:=310) (n:=64) (by kernel_rfl) (by kernel_rfl) (by kernel_rfl) (by kernel_rfl) (by kernel_rfl) (by kernel_rfl) h3
 unfold Lib.TabIs World.var? at h4
 rw [show Tryz.prog.globalNamed "dialtone/digest.round" = some 0 by kernel_rfl] at h4;simp only [Option.bind_some] at h4
 cases hw:W.heap[0]? with
 | none=>rw[hw]at h4;cases h4
 | some o =>
  rw[hw]at h4
  cases o with
  | cells cs t fr =>
   refine⟨t,fr,?_⟩;rw [hw,show cs=Sh.uC Sh.kc from Option.some.inj h4]
  | _=>cases h4
theorem VN {zs:List Int} (h:zs.length=4):∃a b c d,zs=[a,b,c,d]:=by
 match zs,h with
 | [a,b,c,d],_=>exact⟨a,b,c,d,rfl⟩
theorem VL {zs:List Int} (h:zs.length=8):∃a b c d e f g i,zs=[a,b,c,d,e,f,g,i]:=by
 match zs,h with
 | [a,b,c,d,e,f,g,i],_=>exact⟨a,b,c,d,e,f,g,i,rfl⟩
section
variable {H:Type} {enc:TypeId × Value->H} {P:Program} {W:World} {sp:Nat->Bool} {held:Bool}
theorem Dt {α:Type} {t e:TypeId} (size:Nat) (f:α->List Value) (Q:α->Prop) (ht:P.underlying t=some (.slice e)) (hce:P.cellsOf e=size) (hpos:0<size) (hsz:∀c,(f c).length=size)
 (hel:∀n cs y,DataW.trod enc P W 0 sp held n e cs=some y->∃c,cs=f c/\Q c) {fuel:Nat} {v:Value} {y0:DataW H × List MemPlace} (hf:DataW.trod enc P W 0 sp held fuel t [v]=some y0) :
 ∃(A:Option Addr) (x:List α) (cap:Nat),v=.slice A x.length cap/\At size f W W.heap.size A x/\x.length<=cap/\cap<=maxLen/\∀c∈x,Q c:=by
 rcases Go.Deep.open_slice ht hf with ⟨hcs,_⟩|⟨a,len',cap',m,n,D,Pl,hcs,hb,hl,hm,hmm,hx,hel2⟩
 · obtain rfl:v=.slice none 0 0:=by simpa using hcs
   exact⟨none,[],0,rfl,At.nil,Nat.le_refl _,Nat.zero_le _,fun c h=>by cases h⟩
 · obtain rfl:v=.slice (some a) len' cap':=by simpa using hcs
   have hlm:len'<=m:=by rw[hmm];split <;> omega
   obtain⟨x,hxl,hxx⟩:=lX (Q:=fun i c=>W.cells? 0 (a.add (i*size)) size=some (f c)/\Q c) len' fun i hi=>by
    obtain⟨cs',h1,h2⟩:=hel2 i (by omega);obtain ⟨c,rfl,hq⟩:=hel _ _ _ h2;rw [hce]at h1;exact ⟨c,h1,hq⟩
   refine⟨some a,x,cap',by rw[hxl],fun h0=>?_,by omega,hm,fun c hc=>?_⟩
   · have hcell:∀i c,x[i]? = some c->∀j u,(f c)[j]? = some u->W.cell? ((a.add (i*size)).add j)=some u:=fun i c hi j u hj=>by
      obtain⟨_,_,hc⟩:=World.cells?_some (hxx i c hi).1;have hjl:j<size:=by rw[←hsz c];exact (List.getElem?_eq_some_iff.1 hj).1
      rw[hc j hjl];exact hj
     have h00:0<(f x[0]).length:=by rw[hsz];exact hpos
     have h1:=hcell 0 x[0] (List.getElem?_eq_getElem h0) 0 _ (List.getElem?_eq_getElem h00)
     have hs:a.spot=none:=by
      cases hsp:a.spot with
      | none=>rfl
      | some k =>
       unfold World.cell? at h1
       split at h1
       · simp[Addr.add,hsp]at h1
       · cases h1
     obtain⟨b,off,spt⟩:=a;simp only at hs;subst hs
     have ha:∀o n:Nat,(⟨b,o,none⟩:Addr).add n=⟨b,o+n,none⟩:=by
      intro o n
      unfold Addr.add
      split
      · next h=>subst h;rfl
      · rfl
     refine⟨b,off,rfl,?_,fun i c hi j u hj=>?_⟩
     · have h2:=World.block_lt_of_cell? _ _ h1
       rwa [ha,ha]at h2
     · have:=hcell i c hi j u hj
       rwa [ha,ha]at this
   · obtain⟨i,hi⟩:=List.mem_iff_getElem?.1 hc;exact (hxx i c hi).2
end
section
variable {H:Type} {enc:TypeId × Value->H} {W:World} {sp:Nat->Bool} {held:Bool}
theorem VR (n:Nat) (cs:List Value) (y:DataW H × List MemPlace) (h:DataW.trod enc Tryz.prog W 0 sp held n 3 cs=some y):∃z,cs=uV z/\uY z:=by
 obtain⟨z,rfl,_,hw⟩:=DataW.trod_int Tryz.underlying3 h;exact ⟨z,rfl,iP hw⟩
theorem JQ (n:Nat) (cs:List Value) (y:DataW H × List MemPlace) (h:DataW.trod enc Tryz.prog W 0 sp held n 26 cs=some y):∃q:NX,cs=Zl q/\NK q W:=by
 obtain⟨y0,y1,y2,y3,m,-,hl,h0,h1,h2,h3⟩:=trod_struct4 (P:=Tryz.prog) Tryz.underlying26 h;have ZV:cs.length=14:=hl
 match cs,ZV with
 | [c0,c1,c2,c3,c4,c5,c6,c7,c8,c9,c10,c11,c12,c13],_ =>
  obtain⟨za,ea,la,wa⟩:=open_arr (P:=Tryz.prog) (n:=4) (t:=22) (e:=3) Tryz.underlying22 Tryz.underlying3 (by kernel_rfl) (by kernel_rfl) (show DataW.trod enc Tryz.prog W 0 sp held m 22 [c0,c1,c2,c3]=some y0 from h0);obtain ⟨z4,e4,_,w4⟩:=DataW.trod_int Tryz.underlying3 (show DataW.trod enc Tryz.prog W 0 sp held m 3 [c4]=some y1 from h1);obtain ⟨A,x,cap,ev,hAt,hle,hcm,hx⟩:=Dt (P:=Tryz.prog) (t:=23) (e:=3) 1 uV uY Tryz.underlying23 (by kernel_rfl) (by decide) (fun _=>rfl) VR (show DataW.trod enc Tryz.prog W 0 sp held m 23 [c5]=some y2 from h2);obtain ⟨zk,ek,lk,wk⟩:=open_arr (P:=Tryz.prog) (n:=8) (t:=24) (e:=3) Tryz.underlying24 Tryz.underlying3 (by kernel_rfl) (by kernel_rfl) (show DataW.trod enc Tryz.prog W 0 sp held m 24 [c6,c7,c8,c9,c10,c11,c12,c13]=some y3 from h3);obtain ⟨a0,a1,a2,a3,rfl⟩:=VN la;obtain ⟨k0,k1,k2,k3,k4,k5,k6,k7,rfl⟩:=VL lk;simp only[List.map_cons,List.map_nil,List.cons.injEq,and_true]at ea e4 ek;obtain ⟨rfl,rfl,rfl,rfl⟩:=ea;obtain ⟨rfl,rfl,rfl,rfl,rfl,rfl,rfl,rfl⟩:=ek;subst e4;refine ⟨⟨⟨a0,a1,a2,a3,z4,k0,k1,k2,k3,k4,k5,k6,k7,x⟩,c5⟩,rfl,⟨⟨iP (wa _ (by simp)),iP (wa _ (by simp)),iP (wa _ (by simp)),iP (wa _ (by simp)),iP w4,fun y hy=>iP (wk y hy),hx⟩,A,cap,ev,hAt,hle,hcm⟩⟩
end
section
variable {H:Type} {enc:TypeId × Value->H} {W:World} {r:Reach} {b0:Nat} {v:Value} {d:DataW H} {ps:List MemPlace}
theorem OH {ts:List TypeId} {vs:List Value} {ds:List (DataW H)} (h9:(ts.all fun t=>Tryz.prog.readableRec t&&decide (t<Tryz.prog.types.size))=true) (hA:DataW.TrodAll enc Tryz.prog W 0 (fun _=>true) true ts vs ds ps)
 (hlt:∀x∈ps,x.block<W.heap.size) (W':World) (hb:Below W.heap.size W W'):DataW.TrodAll enc Tryz.prog W' 0 (fun b=>decide (b<W.heap.size)) true ts vs ds ps :=
 oC laidOut hb (fun t ht=>by simpa using List.all_eq_true.1 h9 t ht) hA hlt
end
end Go.Proofs.YtohgjenaclfegaaGreatDoor

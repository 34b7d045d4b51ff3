import Derived.RangeFuncBound
import Derived.Shelf.Abstract
import Derived.Test.YtohgjenaclfegaaGreatDoorShelf
import Derived.Test.YtohgjenaclfegaaGreatDoorQA02
import Derived.BigQuiet
set_option linter.unusedVariables false
set_option linter.unusedSimpArgs false
set_option maxRecDepth 100000
set_option maxHeartbeats 8000000
namespace Go.Proofs.YtohgjenaclfegaaGreatDoor
open Go.RowKit Go.Shelf
attribute [local go_sem] Oper.semAt_some
theorem Fa (a:Array Value) (p:Tmp) (v:Value):(#[p].zip #[v]).foldl (fun t x=>t.setIfInBounds x.1 x.2) a=a.setIfInBounds p v:=by simp
structure Qo (m:Nat) (pl:List UInt8) (g gs gn cap:Nat) (cells:Array Value) (fr:Nat × Nat) (w:World) (pre:List Nat) (s:Sh.S8) (X:World):Prop where
 le:pre.length<=m
 st:Sh.blocks (m-pre.length) (pl.drop (64*pre.length)) s=Sh.blocks m pl Sh.iv
 bh:Bx X w.heap.size 324 (Sh.uC s.l)
 bc:X.heap[g]? = some (.cells cells 5 fr)
 bs:Bx X gs 157 #[.slice (some ⟨g,0,none⟩) (64*m) cap]
 bn:Bx X gn 3 #[.int .i64 64]
 rd:Rnd X
 bl:Below w.heap.size w X
theorem Qo.call {m:Nat} {pl:List UInt8} {g gs gn cap:Nat} {cells:Array Value} {fr:Nat × Nat} {w:World} {pre:List Nat} {s:Sh.S8} {X Y:World} (h:Qo m pl g gs gn cap cells fr w pre s X) (hb:Below X.heap.size X Y):Qo m pl g gs gn cap cells fr w pre s Y :=
 ⟨h.le,h.st,h.bh.call hb,(hb.block g (Array.getElem?_eq_some_iff.1 h.bc).1).trans h.bc,h.bs.call hb,h.bn.call hb,h.rd.below hb,ah h.bl hb⟩
theorem Qo.put {m:Nat} {pl:List UInt8} {g gs gn cap:Nat} {cells:Array Value} {fr:Nat × Nat} {w:World} {pre:List Nat} {s:Sh.S8} {X:World} (h:Qo m pl g gs gn cap cells fr w pre s X) {l:Nat} {o o':Obj} (hl:w.heap.size<=l) (ho:X.heap[l]? = some o) (hc:o.isCells=false):Qo m pl g gs gn cap cells fr w pre s (X.putObj l o'):=by
 have ne:∀b cs t fr',X.heap[b]? = some (.cells cs t fr')->b≠l:=by
  rintro b cs t fr' hx rfl;rw [hx]at ho;cases ho;cases hc
 refine⟨h.le,h.st,dG h.bh ho hc,(World.putObj_heap_other (ne _ _ _ _ h.bc)).trans h.bc,dG h.bs ho hc,dG h.bn ho hc,?_,h.bl.trans (bF hl ho)⟩;obtain ⟨t,f,hx⟩:=h.rd;exact ⟨t,f,(World.putObj_heap_other (ne _ _ _ _ hx)).trans hx⟩
theorem MO (l:List UInt8) (w:World) (hl:l.length<=1000000) (hR:Rnd w) :
 bP 192 #[.string ⟨l.toArray⟩] w (.string ⟨(Sh.IE l).toArray⟩):=by
 have hls:(⟨l.toArray⟩:ByteArray).size=l.length:=rfl;have Yq:=Bx.mk w 324 (Sh.uC (List.replicate 8 0));obtain ⟨W0,hW0⟩:∃W0,W0=w.alloc (.cells (Sh.uC Sh.iv.l) 324):=⟨_,rfl⟩
 have BH:Bx W0 w.heap.size 324 (Sh.uC Sh.iv.l):=by rw[hW0];exact Bx.mk w _ _
 have hb0:Below w.heap.size w W0:=by rw[hW0];exact bY w _
 have hRw:Kp (0<w.heap.size):=⟨hR.lt⟩
 have hR0:Kp (Rnd W0):=⟨hR.below hb0⟩
 have MB:Kp ((Tryz.prog.info? 324).map (·.size)=some (Sh.uC Sh.iv.l).size):=⟨by rw[Sh.jY];exact rH⟩
 have Ag:=Kp.mk hW0;obtain ⟨v0,W1,hcv,hb1,hq0⟩:=H7 W0 l hl;have hz0:=hb0.size;have hwlt:w.heap.size<W0.heap.size:=BH.lt;have hzW:=hb1.size;have hbn:=bY W1 (.cells #[.int .u8 128] 5);have hq1:=hq0.call hbn;have hs1:=rO (g:=W1.heap.size) (u:=.int .u8 128) rfl (Bx.mk W1 5 #[.int .u8 128]);obtain ⟨bi,hbi,hbz,hbs,hbb⟩:=Ei;have hBH1:=(BH.call hb1).call hbn;have Ud:Below W0.heap.size W0 (W1.alloc (.cells #[.int .u8 128] 5)):=hb1.trans (hbn.mono hzW);have hzn:=Ud.size;have KT:=Kp.mk hq1;clear hR hW0 hq0 hq1 hb1 hbn;refine (callsIn_wide (n:=4)).1 ?_;refine callsIn_of_wp_marks Tryz.func192 rfl trivial ?_ rfl;simp only[Tryz.ntmps192,List.size_toArray,List.length_cons,List.length_nil,Nat.reduceAdd,Nat.reduceSub,Array.replicate_succ,Array.replicate_zero,List.push_toArray,List.append_toArray,List.nil_append,List.cons_append];refine wpIn_wide.2 ?_
 go_wp2_with (first
  | (refine wpList_store_row rfl 324 _ _ rfl w.heap.size (Sh.uC Sh.iv.l) rfl rfl 324 (Sh.uC (List.replicate 8 0)) Yq MB.out rfl (xO _) ?_;rw[World.setRow_alloc_new,←Ag.out])
  | (at_builtin;refine fH rfl (.tmp 9) (.tmp 10) 157 5 rfl bi (.int .u8 0) W0.heap.size l.length (cB l) (.int .u8 128) v0 (.slice (some ⟨W1.heap.size,0,none⟩) 1 1) bT hbi hbz hbs rfl rfl rfl KT.out hzn hs1 (by unfold maxLen;omega) (by rw[hbb];omega) ?_))
 intro v1 W2 hb2 hq2;rw [show cB l++[Value.int .u8 128]=cB (l++[128]++List.replicate 0 0) by rw[List.replicate_zero,List.append_nil,jh];rfl]at hq2;replace hb2:=Ud.trans (hb2.mono (Nat.le_refl _));have Oi:Bx W2 w.heap.size 324 (Sh.uC Sh.iv.l):=BH.below hb2 BH.lt;have hR2:Kp (Rnd W2):=⟨Rnd.below2 hR0.out hb2 hR0.out.lt⟩
 replace hb2:Below w.heap.size w W2:=hb0.trans (hb2.mono hz0);clear Ud hs1 KT hBH1 BH Yq MB Ag hcv;go_wp2_with fail
 go_loopw [4] (fun s4 wr=>∃k:Nat,k<=Sh.zeros l.length/\qK 5 W0.heap.size (l.length+1+k) (cB (l++[128]++List.replicate k 0)) s4 wr/\Bx wr w.heap.size 324 (Sh.uC Sh.iv.l)/\Rnd wr/\Below w.heap.size w wr) (fun s4 _=>l.length+65-lenV s4)
 case atStart=>exact⟨0,Nat.zero_le _,hq2,Oi,hR2.out,hb2⟩
 case round =>
  clear hq2 Oi hR2 hb2;obtain ⟨k,hk,hq,BH,hR,hb⟩:=hrel;obtain ⟨g,cap,rfl,hg,hnc,hcm,hlt,cells,fr,hcs,hget⟩:=hq.get;by_cases hkz:k<Sh.zeros l.length
  · have t0:(((l.length:Int)+1+(k:Int)) % 64 != 56)=true:=by
     have:Sh.zeros l.length=(119-l.length % 64) % 64:=rfl;rw [bne_iff_ne];omega
    have hz:Sh.zeros l.length<64:=by
     have:Sh.zeros l.length=(119-l.length % 64) % 64:=rfl;omega
    have hbn:=bY wr (.cells #[.int .u8 0] 5);obtain ⟨F,hF⟩:∃F,Kp (cB (l++[128]++List.replicate k 0)=F):=⟨_,⟨rfl⟩⟩
    rw[hF.out]at hq;have KT:=Kp.mk (hq.call hbn);have hs1:=rO (g:=wr.heap.size) (u:=.int .u8 0) rfl (Bx.mk wr 5 #[.int .u8 0]);have hzn:W0.heap.size<=(wr.alloc (.cells #[.int .u8 0] 5)).heap.size:=by have:=hbn.size;omega
    have IG:Kp (Below W0.heap.size wr (wr.alloc (.cells #[.int .u8 0] 5))):=⟨hbn.mono (by omega)⟩
    have hsn:=hbn.size;clear hq hbn
    go_wp2_with (at_builtin;refine fH rfl (.tmp 16) (.tmp 17) 157 5 rfl bi (.int .u8 0) W0.heap.size (l.length+1+k) F (.int .u8 0) (.slice (some ⟨g,0,none⟩) (l.length+1+k) cap) (.slice (some ⟨wr.heap.size,0,none⟩) 1 1) bT hbi hbz hbs rfl rfl rfl KT.out hzn hs1 (by unfold maxLen;omega) (by rw[hbb];omega) ?_)
    intro v5 W5 hb5 hq5;replace hb5:=IG.out.trans hb5;rw [←hF.out,show cB (l++[128]++List.replicate k 0)++[Value.int .u8 0]=cB (l++[128]++List.replicate (k+1) 0) by rw[List.replicate_succ',←List.append_assoc,jh (l++[128]++List.replicate k 0)];rfl,show l.length+1+k+1=l.length+1+(k+1) by omega]at hq5;have Qw:=BH.below hb5 (by omega);have U9:Rnd W5:=Rnd.below2 hR hb5 (by have:=hR0.out.lt;omega);have TV:Below w.heap.size w W5:=hb.trans (hb5.mono hz0);obtain ⟨g5,cap5,rfl,-⟩:=hq5.get;clear hb5 KT hs1 hzn IG hcs hget t0;go_wp2;exact ⟨⟨k+1,hkz,hq5,Qw,U9,TV⟩,by simp[lenV];omega⟩
  · obtain rfl:k=Sh.zeros l.length:=by omega
    have t0:(((l.length:Int)+1+(Sh.zeros l.length:Int)) % 64 != 56)=false:=by
     have:Sh.zeros l.length=(119-l.length % 64) % 64:=rfl;rw [bne_eq_false_iff_eq];omega
    have hz:Sh.zeros l.length<64:=by
     have:Sh.zeros l.length=(119-l.length % 64) % 64:=rfl;omega
    have Tv:Kp (Sh.pad l=l++[128]++List.replicate (Sh.zeros l.length) 0++Sh.lG l.length):=⟨rfl⟩
    have hpl:Kp ((l++[128]++List.replicate (Sh.zeros l.length) 0).length=l.length+1+Sh.zeros l.length):=⟨by rw[List.length_append,List.length_append,List.length_replicate];rfl⟩
    generalize l++[128]++List.replicate (Sh.zeros l.length) 0=P at *;generalize Sh.zeros l.length=zz at *
    have hq8:qK 5 W0.heap.size (l.length+1+zz+(8-8)) (cB (P++(Sh.lG l.length).take (8-8))) (.slice (some ⟨g,0,none⟩) (l.length+1+zz) cap) wr:=by
     rw[Nat.sub_self,List.take_zero,List.append_nil];exact hq
    clear hcs hget hq;go_wp2_with fail
    go_loopw [4,5] (fun s4 s5 wr=>∃j:Nat,j<=8/\s5=.int .i64 ((j:Int)-1)/\qK 5 W0.heap.size (l.length+1+zz+(8-j)) (cB (P++(Sh.lG l.length).take (8-j))) s4 wr/\Bx wr w.heap.size 324 (Sh.uC Sh.iv.l)/\Rnd wr/\Below w.heap.size w wr) (fun s4 s5 _=>(intOf s5+1).toNat)
    case atStart=>exact⟨8,Nat.le_refl _,rfl,hq8,BH,hR,hb⟩
    case round =>
     clear hq8 BH hR hb t0;obtain ⟨j,hj,rfl,hq,BH,hR,hb⟩:=hrel;obtain ⟨g,cap,rfl,hg,hnc,hcm,hlt,cells,fr,hcs,hget⟩:=hq.get;by_cases h0:0<j
     · obtain⟨t,rfl⟩:∃t,j=t+1:=⟨j-1,by omega⟩
       have hcast:((t+1:Nat):Int)-1=(t:Int):=by omega
       simp only[hcast];have hy:=Sh.zW l.length (t:=t) (by omega);obtain ⟨y,PG⟩:∃y,Kp (Sh.by8 (8*(l.length:Int) / 2 ^ (8*t))=y):=⟨_,⟨rfl⟩⟩
       rw[PG.out]at hy;have hyv:Kp (8*(l.length:Int) / 2 ^ (8*t) % 256=(y.toNat:Int)):=⟨by rw[←PG.out,Sh.kQ,IntKind.wrap_u8']⟩
       have hbn:=bY wr (.cells #[.int .u8 (8*(l.length:Int) / 2 ^ (8*t) % 256)] 5);obtain ⟨F,hF⟩:∃F,Kp (cB (P++(Sh.lG l.length).take (7-t))=F):=⟨_,⟨rfl⟩⟩
       rw[show 8-(t+1)=7-t by omega,hF.out]at hq;rw [show 8-(t+1)=7-t by omega];have KT:=Kp.mk (hq.call hbn);have hs1:=rO (g:=wr.heap.size) (u:=.int .u8 (8*(l.length:Int) / 2 ^ (8*t) % 256)) rfl (Bx.mk wr 5 #[.int .u8 (8*(l.length:Int) / 2 ^ (8*t) % 256)]);have hzn:W0.heap.size<=(wr.alloc (.cells #[.int .u8 (8*(l.length:Int) / 2 ^ (8*t) % 256)] 5)).heap.size:=by have:=hbn.size;omega
       have IG:Kp (Below W0.heap.size wr (wr.alloc (.cells #[.int .u8 (8*(l.length:Int) / 2 ^ (8*t) % 256)] 5))):=⟨hbn.mono (by omega)⟩
       have hnx:Kp (F++[.int .u8 (8*(l.length:Int) / 2 ^ (8*t) % 256)]=cB (P++(Sh.lG l.length).take (8-t))):=⟨by
        rw[←hF.out,show 8-t=7-t+1 by omega,List.take_add_one,hy,←List.append_assoc,jh (P++_),hyv.out];rfl⟩
       clear hq hbn hy hyv PG hcs hget
       go_wp2_with (at_builtin;refine fH rfl (.tmp 23) (.tmp 31) 157 5 rfl bi (.int .u8 0) W0.heap.size (l.length+1+zz+(7-t)) F (.int .u8 (8*(l.length:Int) / 2 ^ (8*t) % 256)) (.slice (some ⟨g,0,none⟩) (l.length+1+zz+(7-t)) cap) (.slice (some ⟨wr.heap.size,0,none⟩) 1 1) bT hbi hbz hbs rfl rfl rfl KT.out hzn hs1 (by unfold maxLen;omega) (by rw[hbb];omega) ?_)
       intro v5 W5 hb5 hq5;replace hb5:=IG.out.trans hb5;rw [hnx.out,show l.length+1+zz+(7-t)+1=l.length+1+zz+(8-t) by omega]at hq5;have Qw:=BH.below hb5 (by omega);have U9:Rnd W5:=Rnd.below2 hR hb5 (by have:=hR0.out.lt;omega);have TV:Below w.heap.size w W5:=hb.trans (hb5.mono hz0);obtain ⟨g5,cap5,rfl,-⟩:=hq5.get;clear hb5 KT hs1 hzn IG hnx;go_wp2;exact ⟨⟨t,by omega,rfl,hq5,Qw,U9,TV⟩,by simp[intOf]⟩
     · obtain rfl:j=0:=by omega
       have hcast:((0:Nat):Int)-1= -1:=rfl;simp only[hcast];have hlp:(Sh.pad l).length=l.length+1+zz+(8-0):=by rw[Tv.out,List.length_append,hpl.out];rfl
       have hm:=Sh.zK l;have hml:=Sh.JG l;have hsh:Kp (Sh.IE l=Sh.out (Sh.blocks ((Sh.pad l).length / 64) (Sh.pad l) Sh.iv)):=⟨rfl⟩
       rw[List.take_of_length_le (show (Sh.lG l.length).length<=8-0 from Nat.le_refl _),←Tv.out]at hget;rw [←hlp]at hnc;rw [←hlp];clear hq Tv hpl hlp;generalize Sh.pad l=pl at *;generalize pl.length / 64=m at *;rw [hm]at hnc ⊢;go_wp2_with fail;refine ((callsIn_wide (n:=4)).1 (Np 4 _ _ _ _)).mono ?_;rintro _ _ ⟨rfl,rfl⟩;have hbW:=bNew (bY wr (.cells #[.slice (some ⟨g,0,none⟩) (64*m) cap] 157)) (.cells #[.int .i64 64] 3);have Q1:=(Bx.mk wr 157 #[.slice (some ⟨g,0,none⟩) (64*m) cap]).new (.cells #[.int .i64 64] 3);have Q2:=Bx.mk (wr.alloc (.cells #[.slice (some ⟨g,0,none⟩) (64*m) cap] 157)) 3 #[.int .i64 64];rw [World.size_alloc]at Q2;replace BH:=BH.call hbW;replace hR:=hR.below hbW;replace hb:=ah hb hbW;replace hcs:=(hbW.block g hlt).trans hcs;have hg2:w.heap.size<wr.heap.size:=by omega
       have hgw:w.heap.size<g:=by omega
       have hR00:=hR0.out.lt;have hrw:0<w.heap.size:=hRw.out;clear hbW;generalize (wr.alloc (.cells #[.slice (some ⟨g,0,none⟩) (64*m) cap] 157)).alloc (.cells #[.int .i64 64] 3)=W3 at *;generalize wr.heap.size=g2 at *;have hseq:=Ii 3 (by decide) m g cap g2 (g2+1) hnc (by omega);have hw3:=hb.size;have hI0:Qo m pl g g2 (g2+1) cap cells fr w [] Sh.iv W3:=⟨Nat.zero_le _,rfl,BH,hcs,Q1,Q2,hR,hb⟩
       go_wp2_with fail;refine (wpIn_wide (n:=4)).1 ?_
       refine vg (by decide) (gf:=275) (lb:=#[.pointer (some ⟨g2,0,none⟩),.pointer (some ⟨g2+1,0,none⟩)]) rfl (enters_of Tryz.func275 (by kernel_rfl) rfl) hseq (fun X hX=>⟨Q1.call hX,Q2.call hX⟩) (fun _=>rfl)
        (fun pre X=>∃s,Qo m pl g g2 (g2+1) cap cells fr w pre s X) (fun _ _ _=>False) (fun pre X Y ⟨s,h⟩ hb=>⟨s,h.call hb⟩) (fun pre X l o o' ⟨s,h⟩ hl ho hc=>⟨s,h.put (by omega) ho hc⟩) (fun _ _ _ _ h _=>h) (fun _ _ _ _ _ _ h _ _ _=>h) (fun pre X ⟨s,h⟩=>⟨h.bs,h.bn⟩) (fun _ _ _=>trivial) ⟨_,hI0⟩ 6 (fun i=>.slice (some ⟨g,64*i,none⟩) 64 64) ?assign ?body ?done ?stop
       case assign =>
        intro lp x W K hK;simp only[YU,Fa]at hK ⊢
        gi_wp2
        simp only[List.setIfInBounds_toArray,List.set_cons_succ,List.set_cons_zero]at hK;exact hK
       case body =>
        rintro lp pre x W ⟨s,hI⟩ ⟨rfl,hlt9⟩;simp only[YU,Fa,List.setIfInBounds_toArray,List.set_cons_succ,List.set_cons_zero];have hble:64*pre.length+64<=pl.length:=by omega
        have hblk:((pl.drop (64*pre.length)).take 64).length=64:=by rw[List.length_take,List.length_drop];omega
        have hAt:At 1 Ob W W.heap.size (some ⟨g,64*pre.length,none⟩) ((pl.drop (64*pre.length)).take 64):=fun _ =>
         ⟨g,64*pre.length,rfl,(Array.getElem?_eq_some_iff.1 hI.bc).1,fun i c hi j u hj=>by
          match j,hj with
          | 0,hj =>
           simp only[Ob,List.getElem?_cons_zero,Option.some.injEq]at hj;subst hj;refine cells_one hI.bc (hget _ _ ?_);rw [List.getElem?_take]at hi
           split at hi
           · rw[List.getElem?_drop]at hi;rw [cB,List.getElem?_map,show 64*pre.length+i*1+0=64*pre.length+i by omega,hi];rfl
           · cases hi⟩
        have hC:=add_any s w.heap.size ((pl.drop (64*pre.length)).take 64) (some ⟨g,64*pre.length,none⟩) 64 W hI.bh hAt (Nat.le_refl _) hblk hI.rd
        have hst2:Kp (Sh.blocks (m-(pre++[pre.length]).length) (pl.drop (64*(pre++[pre.length]).length)) (Sh.comp s ((pl.drop (64*pre.length)).take 64))=Sh.blocks m pl Sh.iv):=⟨by
         rw[←hI.st,List.length_append,List.length_singleton,show m-pre.length=m-(pre.length+1)+1 by omega]
         show _=Sh.blocks (m-(pre.length+1)) ((pl.drop (64*pre.length)).drop 64) _
         rw[List.drop_drop,show 64*(pre.length+1)=64*pre.length+64 by omega]⟩
        have hle2:(pre++[pre.length]).length<=m:=by simp;omega
        clear hseq hAt hblk hget;generalize (pl.drop (64*pre.length)).take 64=blk at *
        gi_wp2_with fail
        refine⟨trivial,((callsIn_wide.2 hC).inRound _).mono ?_⟩;rintro _ W5 ⟨⟨v9,rfl⟩,hB5,IQ⟩;have hbc:=hI.bc;have hbs:=hI.bs;have hbn:=hI.bn;have hrd:=hI.rd;have hbl:=hI.bl;have Xj:=hI.bh;have hk1:=IQ.block _ (Array.getElem?_eq_some_iff.1 hbc).1 (by omega);have hk2:=IQ.block _ hbs.lt (by omega);have hk3:=IQ.block _ hbn.lt (by omega)
        have IL:Qo m pl g g2 (g2+1) cap cells fr w (pre++[pre.length]) (Sh.comp s blk) W5:=⟨hle2,hst2.out,hB5,hk1.trans hbc,hk2.trans hbs,hk3.trans hbn,by
         obtain⟨t,f,hx⟩:=hrd
         exact⟨t,f,(IQ.block _ (Array.getElem?_eq_some_iff.1 hx).1 (by omega)).trans hx⟩,hbl.trans ⟨IQ.os,IQ.tape,IQ.output,IQ.size,fun k hk=>IQ.block k (by have:=hbl.size;omega) (by omega)⟩⟩
        have hF:ou W3.heap.size W W5:=⟨IQ.size,fun b o _ ho hc=>(IQ.block b (Array.getElem?_eq_some_iff.1 ho).1 (by
         rintro rfl;rw [show W.heap[w.heap.size]? = _ from Xj]at ho
         cases ho;cases hc)).trans ho⟩
        clear hC hI hbc hbs hbn hrd hbl Xj hk1 hk2 hk3 hB5 IQ
        gi_wp2_with fail
        exact⟨hF,_,IL⟩
       case done =>
        rintro D xs W hD hS ⟨s,hI⟩ hk
        have hfin:Kp (Sh.IE l=Sh.out s):=⟨by
         rw[hsh.out,←hI.st,hS,Nat.sub_self];rfl⟩
        have hC:=fun W=>D5 s W
        have MB:Kp ((Tryz.prog.info? 324).map (·.size)=some (Sh.uC s.l).size):=⟨by rw[Sh.jY];exact rH⟩
        have Xj:=hI.bh;have hbl:=hI.bl;clear hseq hI0 hI hsh hS hget BH hcs Q1 Q2 hR hb
        go_wp2_with (refine wpList_load_row rfl 324 _ rfl w.heap.size rfl 324 (Sh.uC s.l) (0,0) _ Xj oz rfl MB.out ?_)
        refine (hC W).mono ?_;rintro _ W5 ⟨rfl,hb5⟩;replace hk:=(hb5.block D (Array.getElem?_eq_some_iff.1 hk).1).trans hk;replace hbl:=ah hbl hb5;clear hC hb5 Xj;have Hg:=(Marks.nil w.heap.size w.heap.size W5).push (by omega) (Nat.le_refl _) hk;go_wp2;refine Hg.leave ?_;intro W' hb' hB';exact ⟨_,results_tmp rfl _ _ _,by rw[hfin.out];rfl,hbl.trans hb'⟩
       case stop =>
        rintro D c pre W hD h hk;exact h.elim
theorem join_nil:∀xs:List (List UInt8),Lib.join xs []=xs.flatten
 | []=>rfl
 | [a]=>by simp[Lib.join,List.intercalate]
 | a :: b :: xs=>by
  have ih:=join_nil (b :: xs);simp only[Lib.join,List.intercalate,List.intersperse_cons_cons,List.flatten_cons,List.nil_append]at ih ⊢;rw [ih]
def h_ (l:List UInt8):List Value:=[.string ⟨l.toArray⟩]
theorem KE (xs:List (List UInt8)) (bk c:Nat) (w:World) (hc:∀(j:Nat) x,xs[j]? = some x->w.cell? ⟨bk,j,none⟩=some (.string ⟨x.toArray⟩)) (hbk:bk<w.heap.size) (hN:xs.length<=100) (hcap:xs.length<=c) (hlen:xs.flatten.length<=1000000) :
 bP 193 #[.slice (some ⟨bk,0,none⟩) xs.length c,.string ⟨#[]⟩] w (.string ⟨xs.flatten.toArray⟩):=by
 have h:=Tryz.strings_Join bk 0 c (xs.map fun x=>⟨x.toArray⟩) ⟨#[]⟩ w (fun j x hj=>by
  rw[List.getElem?_map]at hj
  cases hx:xs[j]? with
  | none=>rw[hx]at hj;cases hj
  | some y =>
   rw[hx]at hj;simp only[Option.map_some,Option.some.injEq]at hj;rw [←hj,Nat.zero_add]
   exact hc j y hx) hbk (by rw[List.length_map];omega) (by rw[List.length_map];exact hcap)
 have e:((xs.map fun x=>(⟨x.toArray⟩:ByteArray)).map (·.data.toList))=xs:=by
  rw[List.map_map];exact List.map_id' xs
 have e2:(⟨#[]⟩:ByteArray).data.toList=[]:=rfl;rw [e,e2,join_nil,List.length_map]at h;exact h (by omega)
theorem rY {d:Sh.Dl} {i:Nat} {h:Sh.Hn} {hs:List Sh.Hn} (hd:vW d) (hh:ql h) (hi:i<=100) (hk:∀x∈hs,ql x):(Sh.cont d i h.c h.l (bf hs i)).length<=100000:=by
 rw[Qa,List.length_append];have h1:=mP (nums d i h) (yu hd hh hi);rw [show (nums d i h).length=8 from rfl]at h1
 have h2:(bf hs i).length<=1000:=by
  cases i with
  | zero=>simp[bf]
  | succ k =>
   rw[bf]
   cases hx:hs[k]? with
   | none=>simp
   | some g=>exact (hk g (List.mem_of_getElem? hx)).s
 omega
theorem C9 (key:List UInt8) (d:Sh.Dl) (hs:List Sh.Hn) (i:Nat) (h:Sh.Hn) (A:Option Addr) (cap:Nat) (w:World) (hA:At 3 dw w w.heap.size A hs) (hn:hs.length<=cap) (hl:hs.length<=100) (hi:hs[i]? = some h) (hdl:vW d) (hk:∀x∈hs,ql x) (hkey:key.length<=100000) :
 bP 174 #[.string ⟨key.toArray⟩,.agg (dD d (.slice A hs.length cap)),.int .i64 i] w (.bool (h.s==Sh.sg key (Sh.cont d i h.c h.l (bf hs i)))):=by
 have hlt:i<hs.length:=(List.getElem?_eq_some_iff.1 hi).1;obtain ⟨p,off,rfl,hp,hcells⟩:=hA (by omega);have hcs:∀w',Below w.heap.size w w'->w'.cell? ⟨p,off+i*3+2,none⟩=some (.string ⟨h.s.toArray⟩):=fun w' hw=>(hw.cell (p:=⟨p,off+i*3+2,none⟩) hp).trans (hcells i h hi 2 _ rfl)
 have hcl:=rY (i:=i) (hs:=hs) hdl (hk h (List.mem_of_getElem? hi)) (by omega) hk;have BA:=Bx.mk w 32 (dD d (.slice (some ⟨p,off,none⟩) hs.length cap));have hb:=bY w (.cells (dD d (.slice (some ⟨p,off,none⟩) hs.length cap)) 32)
 unfold dD at BA hb ⊢
 obtain⟨W0,hW0⟩:∃W0,W0=w.alloc (.cells #[.int .i64 d.r,.int .i64 d.d,.int .i64 d.t,.int .i64 d.n,.slice (some ⟨p,off,none⟩) hs.length cap] 32):=⟨_,rfl⟩
 rw[←hW0]at BA hb;have Ag:=Kp.mk hW0;clear hW0 hcells
 go_enter Tryz.func174,Tryz.ntmps174
 go_wp2_with fail;rw [←Ag.out];clear Ag;refine RS.au (RS.dX (W0.heap.size) 4 #[] #[]) [] [RS.ak (.pointer (some ⟨w.heap.size,4,none⟩)),RS.ak (.slice (some ⟨p,off,none⟩) hs.length cap),RS.ak (.int .i64 ((i:Int))),RS.ak (.pointer (some ⟨p,off+i*3,none⟩)),RS.ak (.pointer (some ⟨p,off+i*3+2,none⟩)),RS.ak (.string ⟨h.s.toArray⟩),RS.ak (.string ⟨key.toArray⟩),RS.ak (.agg #[.int .i64 (d.r),.int .i64 (d.d),.int .i64 (d.t),.int .i64 (d.n),.slice (some ⟨p,off,none⟩) hs.length cap]),RS.ak (.int .i64 ((i:Int))),RS.ak (.string ⟨(Sh.cont d i h.c h.l (bf hs i)).toArray⟩),RS.ak (.string ⟨(Sh.sg key (Sh.cont d i h.c h.l (bf hs i))).toArray⟩),RS.ak (.bool (h.s==Sh.sg key (Sh.cont d i h.c h.l (bf hs i)))),RS.ak (.bool (h.s==Sh.sg key (Sh.cont d i h.c h.l (bf hs i))))] 13 19 (by kernel_rfl) rfl rfl (by kernel_rfl) (by kernel_rfl) ?_ ?_ ?_
 · simp only[RS.aY]
   and_intros <;> first|exact RS.aI _|trivial
 · simp only[RS.aT,List.take,List.length];refine ⟨?_,?_,?_,?_,?_,?_,?_,?_,?_,?_,?_,?_,?_,trivial⟩;all_goals (intro vs w2 hb2 hd;simp only[RS.aN,Act.put,List.nil_append,List.cons_append,List.setIfInBounds_toArray,List.set_cons_succ,List.set_cons_zero,Nat.reduceAdd])
   · clear hd;go_wp2;exact aO
   · have e0:vs 0=_:=hd 0 rfl;have q0:=(BA.call hb2.bl).cell 4 (v:=.slice (some ⟨p,off,none⟩) hs.length cap) rfl;clear hd;rw [e0];go_wp2;exact aO
   · clear hd;go_wp2;exact aO
   · have e0:vs 1=_:=hd 1 rfl;have e1:vs 2=_:=hd 2 rfl;clear hd;rw [e0,e1];go_wp2;exact aO
   · have e0:vs 3=_:=hd 3 rfl;clear hd;rw [e0];go_wp2;exact aO
   · have e0:vs 4=_:=hd 4 rfl;have q0:=hcs w2 (ah hb hb2.bl);clear hd;rw [e0];go_wp2;exact aO
   · clear hd;go_wp2;exact aO
   · have q0:=(BA.call hb2.bl).cell 0 (v:=.int .i64 (d.r)) rfl;have q1:=(BA.call hb2.bl).cell 1 (v:=.int .i64 (d.d)) rfl;have q2:=(BA.call hb2.bl).cell 2 (v:=.int .i64 (d.t)) rfl;have q3:=(BA.call hb2.bl).cell 3 (v:=.int .i64 (d.n)) rfl;have q4:=(BA.call hb2.bl).cell 4 (v:=.slice (some ⟨p,off,none⟩) hs.length cap) rfl;clear hd;go_wp2;exact aO
   · clear hd;go_wp2;exact aO
   · have e0:vs 7=_:=hd 7 rfl;have e1:vs 8=_:=hd 8 rfl;have hC:=oO d hs i h (some ⟨p,off,none⟩) cap w2 (hA.aU (ah hb hb2.bl)) hn hl hi hdl hk;clear hd;rw [e0,e1];go_wp2_with fail;refine hC.mono ?_;rintro _ w9 ⟨rfl,aX⟩;clear hC;have hK9:=hb2.call (Nat.le_refl _) aX;go_wp2;first|exact⟨hK9,rfl⟩|exact hK9|rfl
   · have e0:vs 6=_:=hd 6 rfl;have e1:vs 9=_:=hd 9 rfl;have hC:=wz key (Sh.cont d i h.c h.l (bf hs i)) w2 hkey hcl;clear hd;rw [e0,e1];go_wp2_with fail;refine hC.mono ?_;rintro _ w9 ⟨rfl,aX⟩;clear hC;have hK9:=hb2.call (Nat.le_refl _) aX;go_wp2;first|exact⟨hK9,rfl⟩|exact hK9|rfl
   · have e0:vs 5=_:=hd 5 rfl;have e1:vs 10=_:=hd 10 rfl;clear hd;rw [e0,e1];go_wp2;exact aO
   · have e0:vs 11=_:=hd 11 rfl;clear hd;rw [e0];go_wp2;exact aO
 · intro vs wa hba hR2;simp only[RS.bV,RS.ak]at hR2;obtain ⟨e0,e1,e2,e3,e4,e5,e6,e7,e8,e9,e10,e11,e12,-⟩:=hR2;simp only[List.drop,List.take,List.map,RS.aN,Act.put,List.setIfInBounds_toArray,List.set_cons_succ,List.set_cons_zero,Nat.reduceAdd];rw [e0,e1,e2,e3,e4,e5,e6,e7,e8,e9,e10,e11,e12];clear e0 e1 e2 e3 e4 e5 e6 e7 e8 e9 e10 e11 e12;have hb2:=ah hb hba.bl;clear hba;go_wp2;go_ret;exact ⟨rfl,hb2⟩
def EF (ks:List (List UInt8)) (d:Sh.Dl) (hs:List Sh.Hn) (i:Nat) (h:Sh.Hn):Bool:=(ks.getD h.c.toNat [] != [])&&(h.s==Sh.sg (ks.getD h.c.toNat []) (Sh.cont d i h.c h.l (bf hs i)))
theorem CZ (ks:List (List UInt8)) (K:Option Addr) (kc:Nat) (d:Sh.Dl) (hs:List Sh.Hn) (i:Nat) (h:Sh.Hn) (A:Option Addr) (cap:Nat) (w:World) (hK:At 1 h_ w w.heap.size K ks) (hkn:ks.length<=kc) (hkl:ks.length<=100) (hks:∀k∈ks,k.length<=1000) (hc:h.c<ks.length) (hA:At 3 dw w w.heap.size A hs) (hn:hs.length<=cap) (hl:hs.length<=100) (hi:hs[i]? = some h) (hdl:vW d) (hk:∀x∈hs,ql x) :
 bP 121 #[.slice K ks.length kc,.agg (dD d (.slice A hs.length cap)),.int .i64 i] w (.bool (EF ks d hs i h)):=by
 have hlt:i<hs.length:=(List.getElem?_eq_some_iff.1 hi).1;have hb:=bY w (.cells (dD d (.slice A hs.length cap)) 32);have BA:=Bx.mk w 32 (dD d (.slice A hs.length cap));obtain ⟨c,hcn⟩:=Int.eq_ofNat_of_zero_le (hk h (List.mem_of_getElem? hi)).c.1;have hck:c<ks.length:=by omega
 obtain⟨pk,ok,rfl,hpk,hkc⟩:=hK (by omega);obtain ⟨key,hkey⟩:∃key,ks[c]? = some key:=⟨_,List.getElem?_eq_getElem hck⟩
 have WL:=hks key (List.mem_of_getElem? hkey);have hR:=fun w0 (hb0:Below w.heap.size w w0)=>C9 key d hs i h A cap w0 (hA.aU hb0) hn hl hi hdl hk (by omega)
 have hsh:Kp (EF ks d hs i h=((key != [])&&(h.s==Sh.sg key (Sh.cont d i h.c h.l (bf hs i))))):=⟨by unfold EF;rw[hcn,Int.toNat_natCast,List.getD_eq_getElem?_getD,hkey];rfl⟩
 obtain⟨p,off,rfl,hp,hcells⟩:=hA (by omega);have b0:=BA.cell 0 (v:=.int .i64 d.r) rfl;have b1:=BA.cell 1 (v:=.int .i64 d.d) rfl;have b2:=BA.cell 2 (v:=.int .i64 d.t) rfl;have b3:=BA.cell 3 (v:=.int .i64 d.n) rfl;have b4:=BA.cell 4 (v:=.slice (some ⟨p,off,none⟩) hs.length cap) rfl
 have h00:w.cell? ⟨p,off+i*3,none⟩=some (.int .i64 h.c):=by
  have h9:=hcells i h hi 0 _ rfl
  rwa [Nat.add_zero]at h9
 have VQ:w.cell? ⟨pk,ok+c,none⟩=some (.string ⟨key.toArray⟩):=by
  have h9:=hkc c key hkey 0 _ rfl
  rwa [Nat.mul_one,Nat.add_zero]at h9
 have h0:=(hb.cell (p:=⟨p,off+i*3,none⟩) hp).trans h00;have k0:=(hb.cell (p:=⟨pk,ok+c,none⟩) hpk).trans VQ;have hR1:=hR _ hb;rw [hsh.out];rw [hcn]at h0
 unfold dD at b0 b1 b2 b3 b4 h0 k0 hb hR1 ⊢
 clear hA hK hcells hkc hR BA hsh hk hks hc hi h00 VQ;generalize (h.s==Sh.sg key (Sh.cont d i h.c h.l (bf hs i)))=eq at *;by_cases hke:key=[]
 · subst hke
   go_enter Tryz.func121,Tryz.ntmps121
   go_wp2;go_ret;exact ⟨rfl,hb⟩
 · have hkb:(key != [])=true:=bne_iff_ne.2 hke;have hkb2:(key==[])=false:=beq_eq_false_iff_ne.2 hke;have hkd:decide (key=[])=false:=decide_eq_false hke;rw [hkb,Bool.true_and];clear hke
   go_enter Tryz.func121,Tryz.ntmps121
   go_wp2_with fail;refine hR1.mono ?_;rintro _ w1 ⟨rfl,hb1⟩;replace hb:=ah hb hb1;clear hR1 b0 b1 b2 b3 b4 h0 k0;go_wp2;go_ret;exact ⟨rfl,hb⟩
theorem F9 (ks:List (List UInt8)) (K:Option Addr) (kc:Nat) (d:Sh.Dl) (hs:List Sh.Hn) (i:Nat) (h:Sh.Hn) (A:Option Addr) (cap:Nat) (w:World) (hK:At 1 h_ w w.heap.size K ks) (hkn:ks.length<=kc) (hkl:ks.length<=100) (hks:∀k∈ks,k.length<=1000) (hc:h.c<ks.length) (hA:At 3 dw w w.heap.size A hs) (hn:hs.length<=cap) (hl:hs.length<=100) (hi:hs[i]? = some h) (hil:hs.length=i+1) (hdl:vW d) (hk:∀x∈hs,ql x) :
 bP 74 #[.slice K ks.length kc,.agg (dD d (.slice A hs.length cap))] w (.int .i64 (if EF ks d hs i h then h.l else min h.l 1)):=by
 have hb:=bY w (.cells (dD d (.slice A hs.length cap)) 32);have BA:=Bx.mk w 32 (dD d (.slice A hs.length cap));have hS:=CZ ks K kc d hs i h A cap _ (hK.aU hb) hkn hkl hks hc (hA.aU hb) hn hl hi hdl hk;obtain ⟨p,off,rfl,hp,hcells⟩:=hA (by omega);have h1:∀w',Below w.heap.size w w'->w'.cell? ⟨p,off+i*3+1,none⟩=some (.int .i64 h.l):=fun w' hw=>(hw.cell (p:=⟨p,off+i*3+1,none⟩) hp).trans (hcells i h hi 1 _ rfl)
 have b4:=BA.cell 4 (v:=.slice (some ⟨p,off,none⟩) hs.length cap) rfl;have b0:=BA.cell 0 (v:=.int .i64 d.r) rfl;have b1:=BA.cell 1 (v:=.int .i64 d.d) rfl;have b2:=BA.cell 2 (v:=.int .i64 d.t) rfl;have b3:=BA.cell 3 (v:=.int .i64 d.n) rfl;have hcast:((i+1:Nat):Int)-1=(i:Int):=by omega
 have hlw:((hs.length:Nat):Int)-1=(i:Int):=by omega
 have hilt:i<hs.length:=by omega
 have hilK:=Kp.mk hil;generalize EF ks d hs i h=sb at *
 unfold dD at hb BA hS b0 b1 b2 b3 b4 ⊢
 clear hA hK hcells hks hk hi hdl hil;generalize hs.length=n at *
 go_enter Tryz.func74,Tryz.ntmps74
 go_wp2_with fail;refine hS.mono ?_;rintro _ w1 ⟨rfl,hb1⟩;have c4:=(BA.call hb1).cell 4 (v:=.slice (some ⟨p,off,none⟩) n cap) rfl;replace hb:=ah hb hb1;have hL:=h1 _ hb;clear hS b0 b1 b2 b3 b4 BA hb1 h1
 cases sb with
 | true =>
  go_wp2;go_ret;exact ⟨rfl,hb⟩
 | false =>
  go_wp2;go_ret;exact ⟨gJ (by simp),hb⟩
def key1 (c:Nat):List UInt8:=List.replicate 32 (UInt8.ofNat c)
def keysA:List (List UInt8):=(List.range 8).map key1
theorem J_:(madeCells #[.int .u8 0] 32).toList=(Sh.bC (List.replicate 32 0)).toList:=by kernel_rfl
theorem KD {y:UInt8} {k:Nat} (hk:k<32):(Sh.bC (List.replicate k y++List.replicate (32-k) 0)).setIfInBounds k (.int .u8 y.toNat)=Sh.bC (List.replicate (k+1) y++List.replicate (32-(k+1)) 0):=by
 rw[Sh.NG,List.set_append_right _ _ (by rw[List.length_replicate];exact Nat.le_refl _),List.length_replicate,Nat.sub_self,show 32-k=31-k+1 by omega,List.replicate_succ,List.set_cons_zero,List.replicate_succ',List.append_assoc,show 31-k=32-(k+1) by omega];rfl
theorem GK (c:Nat) (w:World) (hc:c<256):bP 25 #[.int .i64 c] w (.string ⟨(key1 c).toArray⟩):=by
 obtain⟨bi,hbi,hbz,hbs,hbb⟩:=Ei
 go_enter Tryz.func25,Tryz.ntmps25
 go_wp2_with (at_make;refine wpList_make_full _ rfl (.const (.int .i64 32)) (.const (.int .i64 32)) 157 rfl w.heap.size 5 bi (.int .u8 0) 1 bT hbi hbz hbs .i64 .i64 32 32 32 rfl rfl rfl rfl (by rw[hbb];decide) (by decide) (Nat.le_refl _) ?_)
 intro w1 hown hgr;have hb1:Below w.heap.size w w1:=(Below.refl w.heap.size w).grown hgr (Nat.le_refl _) (fun k hk=>by cases hk)
 obtain⟨B0,hs1⟩:Bx w1 w.heap.size 5 (Sh.bC (List.replicate 0 (UInt8.ofNat c)++List.replicate (32-0) 0))/\w.heap.size<w1.heap.size:=by
  rcases hown.2 with ⟨h,-⟩|⟨g,cap,cur,hv,-,hg,-,-,hcs,htk⟩
  · cases h
  · simp only[Value.slice.injEq,Option.some.injEq,Addr.mk.injEq,and_true,true_and]at hv;obtain ⟨rfl,rfl⟩:=hv;have hB:Bx w1 w.heap.size 5 cur:=hg
    have hc:cur=Sh.bC (List.replicate 0 (UInt8.ofNat c)++List.replicate (32-0) 0):=by
     apply Array.ext'
     rw[List.take_of_length_le (by rw[Array.length_toList,hcs];exact Nat.le_refl _)]at htk;exact htk.trans J_
    rw[hc]at hB;exact ⟨hB,hB.lt⟩
 have hyv:(c:Int)=((UInt8.ofNat c).toNat:Int):=by rw[UInt8.toNat_ofNat',Nat.mod_eq_of_lt (by omega)]
 have hk1:Kp (key1 c=List.replicate 32 (UInt8.ofNat c)):=⟨rfl⟩
 generalize UInt8.ofNat c=y at *;clear hown hgr;go_wp2_with fail
 go_loopw [4] (fun s4 wr=>∃k:Nat,k<=32/\s4=.int .i64 k/\Bx wr w.heap.size 5 (Sh.bC (List.replicate k y++List.replicate (32-k) 0))/\Below w.heap.size w wr) (fun s4 _=>32-(intOf s4).toNat)
 case atStart=>exact⟨0,by omega,rfl,B0,hb1⟩
 case round =>
  clear B0 hb1;obtain ⟨k,hk,rfl,B,hb⟩:=hrel;by_cases hlt:k<32
  · have q0:=B.cell k (v:=.int .u8 0) (Sh.uN (x:=0) (by rw[List.getElem?_append_right (by rw[List.length_replicate];exact Nat.le_refl _),List.length_replicate,Nat.sub_self,List.getElem?_replicate,if_pos (by omega)]));have f0:=B.frozen k;have B2:=B.set k (.int .u8 y.toNat);rw [KD hlt]at B2;have hb2:=aQ hb (p:=⟨w.heap.size,k,none⟩) (Nat.le_refl _) (.int .u8 y.toNat);clear B;have PG:=Kp.mk hyv;clear hyv;go_wp2;rw [PG.out];exact ⟨⟨k+1,by omega,by go_num,B2,hb2⟩,by simp[intOf];omega⟩
  · have G7:k=32:=by omega
    have hcv:=pW wr w.heap.size 32 (List.replicate 32 y) (fun j x hx=>B.cell j (Sh.uN (by
     rw[G7,List.getElem?_append_left (by have:=(List.getElem?_eq_some_iff.1 hx).1;exact this),hx])))
    rw[List.length_replicate]at hcv;clear B G7 hyv;go_wp2;go_ret;exact ⟨by rw[hk1.out];rfl,hb⟩
theorem QD:∃i,Tryz.prog.info? 9=some i/\i.zero=some (.string ⟨#[]⟩)/\i.size=1/\i.bytes=16:=by
 have h:(Tryz.prog.info? 9).map (fun i=>(i.zero,i.size,i.bytes))=some (some (.string ⟨#[]⟩),1,16):=by kernel_rfl
 exact info_parts h
theorem jZ:Tryz.prog.underlying 34=some (.slice 9):=by kernel_rfl
theorem zN {w:World} {g:Nat} {s:List UInt8} (h:Bx w g 9 #[.string ⟨s.toArray⟩]):Src Tryz.prog 1 34 (.slice (some ⟨g,0,none⟩) 1 1) 1 (h_ s) w :=
 dI.src (P:=Tryz.prog) (size:=1) (B:=0) (cap:=1) (e:=9) (t:=34) (fun u hu=>by simp only[h_,List.mem_cons,List.not_mem_nil,or_false]at hu;subst hu;rfl) jZ ⟨g,_,rfl,Nat.zero_le _,Nat.le_refl _,h,rfl,rfl⟩
theorem xE (w:World):Calls Tryz.prog 7 #[] w fun e w'=>(∃v,e=.returned v/\aF 9 1 w.heap.size 8 (keysA.flatMap h_) v w')/\Below w.heap.size w w':=by
 obtain⟨bi,hbi,hbz,hbs,hbb⟩:=QD;have hr0:aF 9 1 w.heap.size 0 ((keysA.take 0).flatMap h_) (.slice none 0 0) w:=.inl ⟨rfl,rfl,rfl⟩;have hb0:=aP w
 go_enter Tryz.func7,Tryz.ntmps7
 go_wp2_with fail
 go_loopw [1,2] (fun s1 s2 wr=>∃k:Nat,k<=8/\s2=.int .i64 k/\aF 9 1 w.heap.size k ((keysA.take k).flatMap h_) s1 wr/\Below w.heap.size w wr) (fun s1 s2 _=>8-(intOf s2).toNat)
 case atStart=>exact⟨0,by omega,rfl,hr0,hb0⟩
 case round =>
  clear hr0 hb0;obtain ⟨k,hk,rfl,hrow,hb⟩:=hrel;obtain ⟨v1,hv1⟩:∃v,v=u1:=⟨_,rfl⟩
  rw[←hv1]at hrow ⊢;clear hv1;by_cases hlt:k<8
  · have hgk:keysA[k]? = some (key1 k):=by simp[keysA,hlt]
    have hC:=GK k wr (by omega);have hnx:Kp ((keysA.take k).flatMap h_++h_ (key1 k)=(keysA.take (k+1)).flatMap h_):=⟨by rw[List.take_add_one,hgk,List.flatMap_append];simp⟩
    generalize key1 k=s at *;go_wp2_with fail;refine hC.mono ?_;rintro _ w5 ⟨rfl,hb5⟩;have hbn:=bY w5 (.cells #[.string ⟨s.toArray⟩] 9);have hq:=Kp.mk (aW _ _ _ _ _ _ _ _ (aW _ _ _ _ _ _ _ _ hrow hb5) hbn);have hs1:=zN (Bx.mk w5 9 #[.string ⟨s.toArray⟩]);have hbw:=ah (ah hb hb5) hbn;have hzn:=hbw.size;have qp:=Kp.mk hbw;clear hC hb5 hbn hbw hrow hb hgk
    go_wp2_with (at_builtin;refine aH rfl (.tmp 7) (.tmp 10) 34 9 rfl bi (.string ⟨#[]⟩) 1 w.heap.size k 1 ((keysA.take k).flatMap h_) (h_ s) v1 (.slice (some ⟨w5.heap.size,0,none⟩) 1 1) jZ hbi hbz hbs rfl rfl rfl hq.out hzn hs1 (by decide) (by unfold maxLen;omega) (by rw[hbb];omega) ?_)
    intro v7 w7 hb7 bH;rw [hnx.out]at bH;replace hb7:=qp.out.trans hb7;clear hq hs1 hzn qp hnx;go_wp2;exact ⟨⟨k+1,by omega,by go_num,bH,hb7⟩,by simp[intOf];omega⟩
  · have hk8:k=8:=by omega
    rw[List.take_of_length_le (by rw[hk8];exact Nat.le_refl _),hk8]at hrow;clear hk8;go_wp2;go_ret;exact ⟨⟨_,rfl,hrow⟩,hb⟩
def f_ (ks:List (List UInt8)) (set:Nat):List (List UInt8):=ks.zipIdx.map fun x=>if set / 2 ^ x.2 % 2=1 then x.1 else []
theorem yx (ks:List (List UInt8)) (set:Nat):(f_ ks set).length=ks.length:=by simp[f_]
theorem yA {ks:List (List UInt8)} {set k:Nat} {s:List UInt8} (h:ks[k]? = some s):(f_ ks set)[k]? = some (if set / 2 ^ k % 2=1 then s else []):=by
 simp[f_,h]
theorem GI (ks:List (List UInt8)) (K:Option Addr) (kc set:Nat) (w:World) (hK:At 1 h_ w w.heap.size K ks) (hkn:ks.length<=kc) (hkl:ks.length<=60) (hset:set<=1000000) :
 Calls Tryz.prog 6 #[.slice K ks.length kc,.int .i64 set] w fun e w'=>(∃v,e=.returned v/\aF 9 1 w.heap.size ks.length ((f_ ks set).flatMap h_) v w')/\Below w.heap.size w w':=by
 obtain⟨bi,hbi,hbz,hbs,hbb⟩:=QD;have hr0:aF 9 1 w.heap.size 0 (((f_ ks set).take 0).flatMap h_) (.slice none 0 0) w:=.inl ⟨rfl,rfl,rfl⟩;have hb0:=aP w;have hkw:=yx ks set
 go_enter Tryz.func6,Tryz.ntmps6
 go_wp2_with fail
 go_loopw [5,6] (fun s5 s6 wr=>∃k:Nat,k<=ks.length/\s6=.int .i64 k/\aF 9 1 w.heap.size k (((f_ ks set).take k).flatMap h_) s5 wr/\Below w.heap.size w wr) (fun s5 s6 _=>ks.length-(intOf s6).toNat)
 case atStart=>exact⟨0,by omega,rfl,hr0,hb0⟩
 case round =>
  clear hr0 hb0;obtain ⟨k,hk,rfl,hrow,hb⟩:=hrel;obtain ⟨v5,hv5⟩:∃v,v=u5:=⟨_,rfl⟩
  rw[←hv5]at hrow ⊢;clear hv5;by_cases hlt:k<ks.length
  · obtain⟨pk,ok,rfl,hpk,hkc⟩:=hK (by omega);obtain ⟨s,hs⟩:∃s,ks[k]? = some s:=⟨_,List.getElem?_eq_getElem hlt⟩
    have c0:wr.cell? ⟨pk,ok+k,none⟩=some (.string ⟨s.toArray⟩):=by
     have h9:=(hb.cell (p:=⟨pk,ok+k*1+0,none⟩) hpk).trans (hkc k s hs 0 _ rfl)
     rwa [Nat.mul_one,Nat.add_zero]at h9
    have hgk:=yA (set:=set) hs;obtain ⟨x,hx⟩:∃x,Kp ((if set / 2 ^ k % 2=1 then s else [])=x):=⟨_,⟨rfl⟩⟩
    rw[hx.out]at hgk;have hnx:Kp (((f_ ks set).take k).flatMap h_++h_ x=((f_ ks set).take (k+1)).flatMap h_):=⟨by rw[List.take_add_one,hgk,List.flatMap_append];simp⟩
    have hbn:=bY wr (.cells #[.string ⟨x.toArray⟩] 9);have hq:=Kp.mk (aW _ _ _ _ _ _ _ _ hrow hbn);have hs1:=zN (Bx.mk wr 9 #[.string ⟨x.toArray⟩]);have hbw:=ah hb hbn;have hzn:=hbw.size;have qp:=Kp.mk hbw;have hk63:(k:Int)<=64:=by omega
    clear hbn hbw hrow hgk hkc hs hkw;generalize ((f_ ks set).take k).flatMap h_=F at *;by_cases hbit:set / 2 ^ k % 2=1
    · have hxs:x=s:=by rw[←hx.out,if_pos hbit]
      subst hxs
      have t0:(((set:Int) / 2 ^ k).tmod 2==1)=true:=by
       rw[beq_iff_eq,Int.tmod_eq_emod_of_nonneg (Int.ediv_nonneg (by omega) (Int.pow_nonneg (by decide)))];have:(((set / 2 ^ k % 2:Nat):Nat):Int)=1:=by rw[hbit];rfl
       rw[←this];push_cast;rfl
      clear hx hbit
      go_wp2_with (at_builtin;refine aH rfl (.tmp 18) (.tmp 23) 34 9 rfl bi (.string ⟨#[]⟩) 1 w.heap.size k 1 F (h_ x) v5 (.slice (some ⟨wr.heap.size,0,none⟩) 1 1) jZ hbi hbz hbs rfl rfl rfl hq.out hzn hs1 (by decide) (by unfold maxLen;omega) (by rw[hbb];omega) ?_)
      intro v7 w7 hb7 bH;rw [hnx.out]at bH;replace hb7:=qp.out.trans hb7;clear hq hs1 hzn qp hnx c0 t0;go_wp2;exact ⟨⟨k+1,by omega,by go_num,bH,hb7⟩,by simp[intOf];omega⟩
    · have hxs:x=[]:=by rw[←hx.out,if_neg hbit]
      subst hxs;have hs0:Src Tryz.prog 1 34 (.slice (some ⟨wr.heap.size,0,none⟩) 1 1) 1 (h_ []) (wr.alloc (.cells #[.string ⟨#[]⟩] 9)):=hs1;have hq0:Kp (aF 9 1 w.heap.size k F v5 (wr.alloc (.cells #[.string ⟨#[]⟩] 9))):=⟨hq.out⟩
      have t0:(((set:Int) / 2 ^ k).tmod 2==1)=false:=by
       rw[beq_eq_false_iff_ne,Int.tmod_eq_emod_of_nonneg (Int.ediv_nonneg (by omega) (Int.pow_nonneg (by decide)))];intro h;apply hbit
       have:(((set / 2 ^ k % 2:Nat):Nat):Int)=1:=by rw[←h];push_cast;rfl
       omega
      clear hx hbit c0 hq hs1
      go_wp2_with (at_builtin;refine aH rfl (.tmp 25) (.tmp 26) 34 9 rfl bi (.string ⟨#[]⟩) 1 w.heap.size k 1 F (h_ []) v5 (.slice (some ⟨wr.heap.size,0,none⟩) 1 1) jZ hbi hbz hbs rfl rfl rfl hq0.out hzn hs0 (by decide) (by unfold maxLen;omega) (by rw[hbb];omega) ?_)
      intro v7 w7 hb7 bH;rw [hnx.out]at bH;replace hb7:=qp.out.trans hb7;clear hq0 hs0 hzn qp hnx t0;go_wp2;exact ⟨⟨k+1,by omega,by go_num,bH,hb7⟩,by simp[intOf];omega⟩
  · have hk8:k=ks.length:=by omega
    rw[List.take_of_length_le (by omega),hk8]at hrow;clear hk8;go_wp2;go_ret;exact ⟨⟨_,rfl,hrow⟩,hb⟩
structure iK (d:Sh.Dl) (hs:List Sh.Hn):Prop where
 kr:0<=d.r/\d.r<=99999999
 kd:0<=d.d/\d.d<=99999999
 kt:0<=d.t/\d.t<=10000000
 kn:0<=d.n/\d.n<=1000000
 len:1<=hs.length/\hs.length<=8
 hand:∀(i:Nat) (h:Sh.Hn),hs[i]? = some h->(0<=h.c/\h.c<=7)/\(0<=h.l/\h.l<=3)/\h.s.length=32
 next:∀(i:Nat) (g h:Sh.Hn),hs[i]? = some g->hs[i+1]? = some h->h.c≠g.c/\h.l<=g.l
theorem iK.dl {d:Sh.Dl} {hs:List Sh.Hn} (h:iK d hs):vW d:=⟨h.kr,h.kd,⟨h.kt.1,by have:=h.kt.2;omega⟩,⟨h.kn.1,by have:=h.kn.2;omega⟩⟩
theorem iK.hn {d:Sh.Dl} {hs:List Sh.Hn} (h:iK d hs):∀x∈hs,ql x:=fun x hx=>by
 obtain⟨i,hi⟩:=List.getElem?_of_mem hx;obtain ⟨h1,h2,h3⟩:=h.hand i x hi;exact ⟨⟨h1.1,by omega⟩,⟨h2.1,by omega⟩,by omega⟩
theorem iZ (a b c:Int) (w:World) (h:b<=a/\a<=c):bP 120 #[.int .i64 a,.int .i64 b,.int .i64 c] w (.bool true):=by
 obtain⟨h1,h2⟩:=h;have hb:=aP w;have t1:decide (b<=a)=true:=decide_eq_true h1;have t2:decide (a<=c)=true:=decide_eq_true h2
 go_enter Tryz.func120,Tryz.ntmps120
 go_wp2;go_ret;exact ⟨by simp_all,hb⟩
theorem sZ (d:Sh.Dl) (hs:List Sh.Hn) (A:Option Addr) (cap:Nat) (w:World) (hA:At 3 dw w w.heap.size A hs) (hn:hs.length<=cap) (hf:iK d hs) :
 bP 72 #[.agg (dD d (.slice A hs.length cap))] w (.bool true):=by
 obtain⟨hr,hd,ht,hnn,hlen,pz,hnext⟩:=hf;have hb:=bY w (.cells (dD d (.slice A hs.length cap)) 32);have BA:=Bx.mk w 32 (dD d (.slice A hs.length cap));obtain ⟨p,off,rfl,hp,hcells⟩:=hA (by omega);have hcell:∀w',Below w.heap.size w w'->∀(i:Nat) (h:Sh.Hn),hs[i]? = some h->∀(j:Nat) (u:Value),(dw h)[j]? = some u->w'.cell? ⟨p,off+i*3+j,none⟩=some u:=fun w' hw i h hi j u hu=>(hw.cell (p:=⟨p,off+i*3+j,none⟩) hp).trans (hcells i h hi j u hu)
 have DJ:Kp (hs.length<=8):=⟨hlen.2⟩
 have La:(hs.length:Int)<=8:=by have:=hlen.2;omega
 have Lc:(1:Int)<=hs.length:=by have:=hlen.1;omega
 unfold dD at hb BA ⊢
 obtain⟨xr,xd,xt,xn⟩:=d;dsimp only at hr hd ht hnn hb BA ⊢;clear hcells;obtain ⟨n,hnl⟩:∃n,Kp (hs.length=n):=⟨_,⟨rfl⟩⟩
 rw[hnl.out]at hn DJ La Lc hb BA ⊢;clear hlen;have hbn:=bY (w.alloc (.cells #[.int .i64 xr,.int .i64 xd,.int .i64 xt,.int .i64 xn,.slice (some ⟨p,off,none⟩) n cap] 32)) (.cells #[.int .i64 xr,.int .i64 xd,.int .i64 xt,.int .i64 xn] 29);have BD:=Bx.mk (w.alloc (.cells #[.int .i64 xr,.int .i64 xd,.int .i64 xt,.int .i64 xn,.slice (some ⟨p,off,none⟩) n cap] 32)) 29 #[.int .i64 xr,.int .i64 xd,.int .i64 xt,.int .i64 xn];replace BA:=BA.call hbn;replace hb:=ah hb hbn;rw [World.size_alloc]at BD;clear hbn;have b0:=BA.cell 0 (v:=.int .i64 xr) rfl
 go_enter Tryz.func72,Tryz.ntmps72
 go_wp2_with fail;refine (iZ _ _ _ _ hr).mono ?_;rintro _ w1 ⟨rfl,hb1⟩;replace BA:=BA.call hb1;replace BD:=BD.call hb1;replace hb:=ah hb hb1;clear hb1;have b1:=BD.cell 1 (v:=.int .i64 xd) rfl;go_wp2_with fail;refine (iZ _ _ _ _ hd).mono ?_;rintro _ w2 ⟨rfl,hb1⟩;replace BA:=BA.call hb1;replace BD:=BD.call hb1;replace hb:=ah hb hb1;clear hb1 b1;have b1:=BD.cell 2 (v:=.int .i64 xt) rfl;go_wp2_with fail;refine (iZ _ _ _ _ ht).mono ?_;rintro _ w3 ⟨rfl,hb1⟩;replace BA:=BA.call hb1;replace BD:=BD.call hb1;replace hb:=ah hb hb1;clear hb1 b1;have b1:=BD.cell 3 (v:=.int .i64 xn) rfl;go_wp2_with fail;refine (iZ _ _ _ _ hnn).mono ?_;rintro _ w4 ⟨rfl,hb1⟩;replace BA:=BA.call hb1;replace hb:=ah hb hb1;clear hb1 b1 BD b0;have b1:=BA.cell 4 (v:=.slice (some ⟨p,off,none⟩) n cap) rfl;go_wp2_with fail;refine (iZ _ _ _ _ ⟨Lc,La⟩).mono ?_;rintro _ w5 ⟨rfl,hb1⟩;replace BA:=BA.call hb1;replace hb:=ah hb hb1;clear hb1 b1;go_wp2_with fail
 go_loopw [4] (fun s4 wr=>∃k:Nat,k<=n/\s4=.int .i64 k/\Bx wr w.heap.size 32 #[.int .i64 xr,.int .i64 xd,.int .i64 xt,.int .i64 xn,.slice (some ⟨p,off,none⟩) n cap]/\Below w.heap.size w wr) (fun s4 _=>n-(intOf s4).toNat)
 case atStart=>exact⟨0,by omega,rfl,BA,hb⟩
 case round =>
  clear BA hb;obtain ⟨k,hk,rfl,BA,hb⟩:=hrel;have b4:=BA.cell 4 (v:=.slice (some ⟨p,off,none⟩) n cap) rfl;by_cases hlt:k<n
  · obtain⟨h,hgo⟩:∃h,hs[k]? = some h:=⟨_,List.getElem?_eq_getElem (by rw[hnl.out];exact hlt)⟩
    have hgh:=pz k _ hgo;have hc:=hcell wr hb k _ hgo;have hpv:∀j g,k=j+1->hs[j]? = some g->h.c≠g.c/\h.l<=g.l:=fun j g e hj=>by subst e;exact hnext j g _ hj hgo
    obtain⟨II,hl3,hsl⟩:=hgh;obtain ⟨c,l,sl⟩:=h;dsimp only[dw]at hc II hl3 hsl hpv;have c0:wr.cell? ⟨p,off+k*3,none⟩=some (.int .i64 c):=hc 0 _ rfl;have c1:=hc 1 _ rfl;have c2:=hc 2 _ rfl;have BH:=Bx.mk wr 70 #[.int .i64 c,.int .i64 l,.string ⟨sl.toArray⟩];have hbn:=bY wr (.cells #[.int .i64 c,.int .i64 l,.string ⟨sl.toArray⟩] 70);replace BA:=BA.call hbn;replace hb:=ah hb hbn;clear hc hbn hgo;obtain ⟨W1,hW1⟩:∃W1,Kp (wr.alloc (.cells #[.int .i64 c,.int .i64 l,.string ⟨sl.toArray⟩] 70)=W1):=⟨_,⟨rfl⟩⟩
    rw[hW1.out]at BA hb BH;go_upto_region 8 with fail;rw [hW1.out];clear hW1 c0 c1 c2 b4;have k1:=fun dd os=>iZ c 0 7 (Sort.grow (redrawn W1 dd) os) II
    have k2:=fun dd os=>iZ l 0 3 (Sort.grow (redrawn W1 dd) os) hl3
    have b0:=fun dd os=>(BH.again dd os).cell 0 (v:=.int .i64 c) rfl
    have b1:=fun dd os=>(BH.again dd os).cell 1 (v:=.int .i64 l) rfl
    have b2:=fun dd os=>(BH.again dd os).cell 2 (v:=.string ⟨sl.toArray⟩) rfl
    have b4:=fun dd os=>(BA.again dd os).cell 4 (v:=.slice (some ⟨p,off,none⟩) n cap) rfl
    have hb8:=Kp.mk hb;have P5:=Kp.mk BA;clear BA hb BH;have hkc:(k:Int)<=8:=by have:=DJ.out;omega
    by_cases hk0:0<k
    · obtain⟨j,hj⟩:∃j,Kp (k=j+1):=⟨k-1,⟨by omega⟩⟩
      obtain⟨g,hjg⟩:∃g,hs[j]? = some g:=⟨_,List.getElem?_eq_getElem (by rw[hnl.out];have:=hj.out;omega)⟩
      obtain⟨hne,hle⟩:=hpv j g hj.out hjg;have p0:∀dd os,(Sort.grow (redrawn W1 dd) os).cell? ⟨p,off+j*3,none⟩=some (.int .i64 g.c):=fun dd os=>hcell _ (fM hb8.out dd os) j g hjg 0 _ rfl
      have p1:=fun dd os=>hcell _ (fM hb8.out dd os) j g hjg 1 _ rfl
      have hcast:(k:Int)-1=(j:Int):=by have:=hj.out;omega
      have hjn:(j:Int)<n:=by omega
      have t1:(c==g.c)=false:=beq_eq_false_iff_ne.2 hne;have t2:decide (g.l<l)=false:=decide_eq_false (by omega);generalize g.c=gc at *;generalize g.l=gl at *;clear hjg hpv hne pz hnext hcell hle;refine wp_region_quiet_below (by kernel_rfl) (by kernel_rfl) ?_
      repeat (go_big_quiet_step (first|(go_at_call 120;with_reducible exact Calls.regrown_of (k1 _ _))|(go_at_call 120;with_reducible exact Calls.regrown_of (k2 _ _))))
      refine wpQuiet_nil ?_;rintro _ ⟨q,rfl⟩;have hb:=fM hb8.out q.d q.os;have BA:=P5.out.again q.d q.os;clear k1 k2 b0 b1 b2 b4 p0 p1 hb8 P5 hcast t1 t2;go_wp2;exact ⟨⟨k+1,by omega,by go_num,BA,hb⟩,by simp[intOf];omega⟩
    · have t0:decide ((0:Int)<(k:Int))=false:=decide_eq_false (by omega);clear hpv pz hnext hcell;refine wp_region_quiet_below (by kernel_rfl) (by kernel_rfl) ?_
      repeat (go_big_quiet_step (first|(go_at_call 120;with_reducible exact Calls.regrown_of (k1 _ _))|(go_at_call 120;with_reducible exact Calls.regrown_of (k2 _ _))))
      refine wpQuiet_nil ?_;rintro _ ⟨q,rfl⟩;have hb:=fM hb8.out q.d q.os;have BA:=P5.out.again q.d q.os;clear k1 k2 b0 b1 b2 b4 hb8 P5;go_wp2;exact ⟨⟨k+1,by omega,by go_num,BA,hb⟩,by simp[intOf];omega⟩
  · have hkn:k=n:=by omega
    clear pz hnext hcell;go_wp2;go_ret;exact ⟨rfl,hb⟩
def qm (B:Nat) (d:Sh.Dl) (m:Nat) (fl:List Value) (w:World) (c:Array Value):Prop:=∃v,c=dD d v/\y9 70 3 B m fl undef v w
theorem qm.size {B:Nat} {d:Sh.Dl} {m:Nat} {fl:List Value} {w:World} {c:Array Value} (h:qm B d m fl w c):c.size=5:=by
 obtain⟨v,rfl,-⟩:=h;rfl
structure KW (B pos:Nat) (news:List Value) (d:Sh.Dl) (m:Nat) (fl:List Value) (w w':World):Prop where
 kh:KH B 70 pos news w w'
 kb:∀g c,Bx w g 5 c->Bx w' g 5 c
 kr:∀g c,B<=g->c.size=5->Bx w g 32 c->∃c',c'.size=5/\Bx w' g 32 c'/\(c'=c∨qm B d m fl w' c')
section
variable {B pos:Nat} {news:List Value} {d:Sh.Dl} {m:Nat} {fl:List Value} {W w w':World}
theorem KW.rf (B pos:Nat) (news:List Value) (d:Sh.Dl) (m:Nat) (fl:List Value) (w:World):KW B pos news d m fl w w:=⟨KH.rf _ _ _ _ _,fun _ _ h=>h,fun g c _ h1 h2=>⟨c,h1,h2,.inl rfl⟩⟩
theorem qm.mono (hS:RS.b_ (KH B 70 pos news) (y9 70 3 B m fl)) {c:Array Value} (h:qm B d m fl w c) (k:KH B 70 pos news w w'):qm B d m fl w' c:=by
 obtain⟨v,e,h1⟩:=h;exact ⟨v,e,hS _ _ _ _ h1 k⟩
theorem Ef (B pos:Nat) (news:List Value) (d:Sh.Dl) (m:Nat) (fl:List Value) (hS:RS.b_ (KH B 70 pos news) (y9 70 3 B m fl)):RS.Cls (KW B pos news d m fl) :=
 ⟨KW.rf B pos news d m fl,fun h1 h2=>⟨(Nk _ _ _ _).trans h1.kh h2.kh,fun g c h=>h2.kb g c (h1.kb g c h),fun g c hg hs h=>by
  obtain⟨c1,s1,b1,o1⟩:=h1.kr g c hg hs h;obtain ⟨c2,s2,b2,o2⟩:=h2.kr g c1 hg s1 b1;refine ⟨c2,s2,b2,?_⟩
  rcases o2 with rfl|o2
  · rcases o1 with rfl|o1
    · exact .inl rfl
    · exact .inr (o1.mono hS h2.kh)
  · exact .inr o2⟩,
  fun w n=>⟨(Nk _ _ _ _).drawn w n,fun _ _ h=>h,fun g c _ h1 h2=>⟨c,h1,h2,.inl rfl⟩⟩⟩
theorem KW.of (hB:B<=w.heap.size) (h:Below w.heap.size w w'):KW B pos news d m fl w w':=⟨KH.of hB h,fun g c hb=>hb.call h,fun g c _ h1 h2=>⟨c,h1,h2.call h,.inl rfl⟩⟩
theorem KW.bl (h:KW B pos news d m fl w w'):Below B w w':=h.kh.1
theorem KW.size (h:KW B pos news d m fl w w'):w.heap.size<=w'.heap.size:=h.kh.2.1
theorem KW.call (h:KW B pos news d m fl W w) (hB:B<=W.heap.size) (hb:Below w.heap.size w w'):KW B pos news d m fl w w':=KW.of (Nat.le_trans hB h.size) hb
theorem KW.he (h:FQ B 70 pos news w w'):KW B pos news d m fl w w':=⟨h.1,fun g c hb=>h.2.bx (by decide) hb,fun g c _ h1 h2=>⟨c,h1,h.2.bx (by decide) h2,.inl rfl⟩⟩
theorem rJ {R:RS.Rl} (h:RS.b_ (KH B 70 pos news) R):RS.b_ (KW B pos news d m fl) R:=fun x v w w' hr hK=>h x v w w' hr hK.kh
def Yi (B:Nat):RS.Rl:=fun _ v w=>∃g c,v=.pointer (some ⟨g,0,none⟩)/\B<=g/\c.size=5/\Bx w g 32 c
theorem zy:RS.b_ (KW B pos news d m fl) (Yi B):=fun x v w w' ⟨g,c,h1,h2,h3,h4⟩ hK=>by
 obtain⟨c',s,b,-⟩:=hK.kr g c h2 h3 h4;exact ⟨g,c',h1,h2,s,b⟩
def Yd (B:Nat) (d:Sh.Dl) (m:Nat) (fl:List Value):RS.Rl:=fun x _ w=>∃g c,x=.pointer (some ⟨g,0,none⟩)/\B<=g/\Bx w g 32 c/\qm B d m fl w c
theorem zx (hS:RS.b_ (KH B 70 pos news) (y9 70 3 B m fl)):RS.b_ (KW B pos news d m fl) (Yd B d m fl):=fun x v w w' ⟨g,c,h1,h2,h3,h4⟩ hK=>by
 obtain⟨c',s,b,o⟩:=hK.kr g c h2 h4.size h3
 rcases o with rfl|o
 · exact⟨g,c',h1,h2,b,h4.mono hS hK.kh⟩
 · exact⟨g,c',h1,h2,b,o⟩
def SlB (B:Nat) (n:Nat) (c:Array Value):RS.Rl:=fun _ v w=>∃g,v=.slice (some ⟨g,0,none⟩) n n/\B<=g/\Bx w g 5 c
theorem Jc {n:Nat} {c:Array Value}:RS.b_ (KW B pos news d m fl) (SlB B n c):=fun x v w w' ⟨g,h1,h2,h3⟩ hK=>⟨g,h1,h2,hK.kb g c h3⟩
def jl (w:World) (g:Nat) (d:Sh.Dl) (v:Value):World:=((((w.setCell ⟨g,0,none⟩ (.int .i64 d.r)).setCell ⟨g,1,none⟩ (.int .i64 d.d)).setCell ⟨g,2,none⟩ (.int .i64 d.t)).setCell ⟨g,3,none⟩ (.int .i64 d.n)).setCell ⟨g,4,none⟩ v
theorem oL {w:World} {g:Nat} {c:Array Value} {t:TypeId} (hB:Bx w g t c) (hc:c.size=5) (v:Value):Bx (jl w g d v) g t (dD d v):=by
 obtain⟨x0,x1,x2,x3,x4,rfl⟩:∃x0 x1 x2 x3 x4,c=#[x0,x1,x2,x3,x4]:=by
  rcases c with ⟨l⟩
  match l,hc with
  | [x0,x1,x2,x3,x4],_=>exact⟨x0,x1,x2,x3,x4,rfl⟩
 exact ((((hB.set 0 _).set 1 _).set 2 _).set 3 _).set 4 _
theorem iU {w:World} {g:Nat} (hg:B<=g) (v:Value):Below B w (jl w g d v):=(((((Below.refl B w).setCell (p:=⟨g,0,none⟩) hg _).setCell (p:=⟨g,1,none⟩) hg _).setCell (p:=⟨g,2,none⟩) hg _).setCell (p:=⟨g,3,none⟩) hg _).setCell (p:=⟨g,4,none⟩) hg v
theorem lD {w:World} {g:Nat} (v:Value) {g':Nat} {t:TypeId} {c':Array Value} (hne:g'≠g) (h:Bx w g' t c'):Bx (jl w g d v) g' t c':=((((h.far (p:=⟨g,0,none⟩) hne _).far (p:=⟨g,1,none⟩) hne _).far (p:=⟨g,2,none⟩) hne _).far (p:=⟨g,3,none⟩) hne _).far (p:=⟨g,4,none⟩) hne v
theorem KW.put (hS:RS.b_ (KH B 70 pos news) (y9 70 3 B m fl)) {g:Nat} {c:Array Value} (hg:B<=g) (hB:Bx w g 32 c) (hc:c.size=5) (v:Value) (hR:y9 70 3 B m fl undef v w) (x:Value) (hx:x=.pointer (some ⟨g,0,none⟩)) (y:Value) :
 KW B pos news d m fl w (jl w g d v)/\Yd B d m fl x y (jl w g d v):=by
 have hbl:Below B w (jl w g d v):=iU hg v;have hN:=oL (d:=d) hB hc v
 have hne:∀g' t c',t≠32->Bx w g' t c'->g'≠g:=fun g' t c' ht h e=>by
  subst e;have:=h.symm.trans hB;simp only[Option.some.injEq,Obj.cells.injEq]at this;exact ht this.2.1
 have hkh:KH B 70 pos news w (jl w g d v):=⟨hbl,hbl.size,fun g' c' _ h=>⟨c',lD v (hne g' _ c' (by decide) h) h,rfl,fun i u _ hu=>.inl hu⟩⟩
 have hG:qm B d m fl (jl w g d v) (dD d v):=⟨v,rfl,hS _ _ _ _ hR hkh⟩
 refine⟨⟨hkh,fun g' c' h=>lD v (hne g' _ c' (by decide) h) h,fun g' c' hg' hs h=>?_⟩,g,_,hx,hg,hN,hG⟩;by_cases e:g'=g
 · subst e;exact ⟨_,rfl,hN,.inr hG⟩
 · exact⟨c',hs,lD v e h,.inl rfl⟩
end
end Go.Proofs.YtohgjenaclfegaaGreatDoor

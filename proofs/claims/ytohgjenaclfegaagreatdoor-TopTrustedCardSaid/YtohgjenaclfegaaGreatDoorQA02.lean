import Derived.Test.YtohgjenaclfegaaGreatDoorQA01
import Derived.Sort.LoopGhostIn
import Derived.Shelf.Abstract
import Derived.PlainAid
set_option linter.unusedVariables false
set_option linter.unusedSimpArgs false
set_option maxRecDepth 100000
set_option maxHeartbeats 8000000
namespace Go.Proofs.YtohgjenaclfegaaGreatDoor
open Go.RowKit
theorem iY {w:World} {g:Nat} {u:Value} (h1:u.oneCell'=true) (h:Bx w g 5 #[u]):Src Tryz.prog 1 157 (.slice (some ⟨g,0,none⟩) 1 1) 1 [u] w:=rO h1 h
theorem aF.slc {e:TypeId} {B n:Nat} {flat:List Value} {v:Value} {w:World} (h:aF e 1 B n flat v w):∃A cap,v=.slice A n cap:=by
 rcases h with ⟨rfl,h0,-⟩|⟨cap,⟨g,cells,rfl,-⟩,-⟩
 · exact⟨none,0,by rw[h0]⟩
 · exact⟨_,_,rfl⟩
theorem yI (l:List UInt8) (w:World) (hl:l.length<=1000000) :
 Calls Tryz.prog 272 #[.string ⟨l.toArray⟩] w fun e w'=>(∃v,e=.returned v/\aF 5 1 w.heap.size (Sh.pad l).length (cB (Sh.pad l)) v w')/\Below w.heap.size w w':=by
 have hls:(⟨l.toArray⟩:ByteArray).size=l.length:=rfl;obtain ⟨bi,hbi,hbz,hbs,hbb⟩:=Ei;have hr0:aF 5 1 w.heap.size 0 (cB (l.take 0)) (.slice none 0 0) w:=.inl ⟨rfl,rfl,rfl⟩;have hb0:=aP w
 go_enter Tryz.func272,Tryz.ntmps272
 go_wp2_with fail
 go_loopw [3,4] (fun s3 s4 wr=>∃k:Nat,k<=l.length/\s4=.int .i64 k/\aF 5 1 w.heap.size k (cB (l.take k)) s3 wr/\Below w.heap.size w wr) (fun s3 s4 _=>l.length-(intOf s4).toNat)
 case atStart=>exact⟨0,Nat.zero_le _,rfl,hr0,hb0⟩
 case round =>
  clear hr0 hb0;obtain ⟨k,hk,rfl,hrow,hb⟩:=hrel;by_cases hlt:k<l.length
  · have hgx:(⟨l.toArray⟩:ByteArray)[k]'hlt=l[k]:=rfl
    have hnx:Kp (cB (l.take k)++[.int .u8 l[k].toNat]=cB (l.take (k+1))):=⟨by
     rw[List.take_succ_eq_append_getElem hlt,jh];rfl⟩
    obtain⟨F,hF⟩:∃F,Kp (cB (l.take k)=F):=⟨_,⟨rfl⟩⟩
    rw[hF.out]at hrow hnx;have hbn:=bY wr (.cells #[.int .u8 l[k].toNat] 5);have hq:=Kp.mk (aW _ _ _ _ _ _ _ _ hrow hbn);have hs1:=iY (g:=wr.heap.size) (u:=.int .u8 l[k].toNat) rfl (Bx.mk wr 5 #[.int .u8 l[k].toNat]);have hbw:=ah hb hbn;have hzn:=hbw.size;obtain ⟨v3,hv3⟩:∃v,v=u3:=⟨_,rfl⟩
    rw[←hv3]at hq ⊢;have qp:=Kp.mk hbw;clear hrow hbn hv3 hbw
    go_wp2_with (at_builtin;refine aH rfl (.tmp 12) (.tmp 16) 157 5 rfl bi (.int .u8 0) 1 w.heap.size k 1 F [.int .u8 l[k].toNat] v3 (.slice (some ⟨wr.heap.size,0,none⟩) 1 1) bT hbi hbz hbs rfl rfl rfl hq.out hzn hs1 (by decide) (by unfold maxLen;omega) (by rw[hbb];omega) ?_)
    intro v7 w7 hb7 bH;rw [hnx.out]at bH;replace hb7:=qp.out.trans hb7;clear hq hs1 qp hnx hF hzn;go_wp2;exact ⟨⟨k+1,by omega,by go_num,bH,hb7⟩,by simp[intOf];omega⟩
  · have hk2:k=l.length:=by omega
    rw[List.take_of_length_le (by omega)]at hrow;obtain ⟨F,hF⟩:∃F,Kp (cB l=F):=⟨_,⟨rfl⟩⟩
    rw[hF.out]at hrow;have hbn:=bY wr (.cells #[.int .u8 128] 5);have hq:=Kp.mk (aW _ _ _ _ _ _ _ _ hrow hbn);have hs1:=iY (g:=wr.heap.size) (u:=.int .u8 128) rfl (Bx.mk wr 5 #[.int .u8 128]);have hbw:=ah hb hbn;have hzn:=hbw.size;obtain ⟨v3,hv3⟩:∃v,v=u3:=⟨_,rfl⟩
    rw[←hv3]at hq ⊢;have qp:=Kp.mk hbw;have hkl:=Kp.mk hk2;clear hrow hbn hv3 hbw hk2
    go_wp2_with (at_builtin;refine aH rfl (.tmp 18) (.tmp 19) 157 5 rfl bi (.int .u8 0) 1 w.heap.size k 1 F [.int .u8 128] v3 (.slice (some ⟨wr.heap.size,0,none⟩) 1 1) bT hbi hbz hbs rfl rfl rfl hq.out hzn hs1 (by decide) (by unfold maxLen;omega) (by rw[hbb];omega) ?_)
    intro v7 w7 hb7 bH;replace hb7:=qp.out.trans hb7;rw [←hF.out,show cB l++[Value.int .u8 128]=cB (l++[128]++List.replicate 0 0) by rw[List.replicate_zero,List.append_nil,jh];rfl]at bH;have ES:aF 5 1 w.heap.size (l.length+1+0) (cB (l++[128]++List.replicate 0 0)) v7 w7:=by rw[←hkl.out];exact bH
    clear hq hs1 qp hF hzn bH hb;go_wp2_with fail
    go_loopw [3] (fun s3 wr=>∃j:Nat,j<=Sh.zeros l.length/\aF 5 1 w.heap.size (l.length+1+j) (cB (l++[128]++List.replicate j 0)) s3 wr/\Below w.heap.size w wr) (fun s3 _=>l.length+65-lenV s3)
    case atStart=>exact⟨0,Nat.zero_le _,ES,hb7⟩
    case round =>
     clear ES hb7;obtain ⟨j,hj,hrow,hb⟩:=hrel;obtain ⟨A3,c3,rfl⟩:=hrow.slc
     have hz:Sh.zeros l.length<64:=by
      have:Sh.zeros l.length=(119-l.length % 64) % 64:=rfl;omega
     by_cases hkz:j<Sh.zeros l.length
     · have t0:(((l.length:Int)+1+(j:Int)) % 64 != 56)=true:=by
        have:Sh.zeros l.length=(119-l.length % 64) % 64:=rfl;rw [bne_iff_ne];omega
       obtain⟨F,hF⟩:∃F,Kp (cB (l++[128]++List.replicate j 0)=F):=⟨_,⟨rfl⟩⟩
       rw[hF.out]at hrow;have hbn:=bY wr (.cells #[.int .u8 0] 5);have hq:=Kp.mk (aW _ _ _ _ _ _ _ _ hrow hbn);have hs1:=iY (g:=wr.heap.size) (u:=.int .u8 0) rfl (Bx.mk wr 5 #[.int .u8 0]);have hbw:=ah hb hbn;have hzn:=hbw.size;have qp:=Kp.mk hbw;clear hrow hbn hbw
       go_wp2_with (at_builtin;refine aH rfl (.tmp 25) (.tmp 26) 157 5 rfl bi (.int .u8 0) 1 w.heap.size (l.length+1+j) 1 F [.int .u8 0] (.slice A3 (l.length+1+j) c3) (.slice (some ⟨wr.heap.size,0,none⟩) 1 1) bT hbi hbz hbs rfl rfl rfl hq.out hzn hs1 (by decide) (by unfold maxLen;omega) (by rw[hbb];omega) ?_)
       intro v7 w7 hb7 bH;replace hb7:=qp.out.trans hb7;rw [←hF.out,show cB (l++[128]++List.replicate j 0)++[Value.int .u8 0]=cB (l++[128]++List.replicate (j+1) 0) by rw[List.replicate_succ',←List.append_assoc,jh (l++[128]++List.replicate j 0)];rfl,show l.length+1+j+1=l.length+1+(j+1) by omega]at bH;obtain ⟨A5,c5,rfl⟩:=bH.slc;clear hq hs1 qp hF hzn t0;go_wp2;exact ⟨⟨j+1,hkz,bH,hb7⟩,by simp[lenV];omega⟩
     · obtain rfl:j=Sh.zeros l.length:=by omega
       have t0:(((l.length:Int)+1+(Sh.zeros l.length:Int)) % 64 != 56)=false:=by
        have:Sh.zeros l.length=(119-l.length % 64) % 64:=rfl;rw [bne_eq_false_iff_eq];omega
       have Tv:Kp (Sh.pad l=l++[128]++List.replicate (Sh.zeros l.length) 0++Sh.lG l.length):=⟨rfl⟩
       have hpl:Kp ((l++[128]++List.replicate (Sh.zeros l.length) 0).length=l.length+1+Sh.zeros l.length):=⟨by rw[List.length_append,List.length_append,List.length_replicate];rfl⟩
       generalize l++[128]++List.replicate (Sh.zeros l.length) 0=P at *;generalize Sh.zeros l.length=zz at *
       have hq8:aF 5 1 w.heap.size (l.length+1+zz+(8-8)) (cB (P++(Sh.lG l.length).take (8-8))) (.slice A3 (l.length+1+zz) c3) wr:=by
        rw[Nat.sub_self,List.take_zero,List.append_nil];exact hrow
       clear hrow;go_wp2_with fail
       go_loopw [3,5] (fun s3 s5 wr=>∃j:Nat,j<=8/\s5=.int .i64 ((j:Int)-1)/\aF 5 1 w.heap.size (l.length+1+zz+(8-j)) (cB (P++(Sh.lG l.length).take (8-j))) s3 wr/\Below w.heap.size w wr) (fun s3 s5 _=>(intOf s5+1).toNat)
       case atStart=>exact⟨8,Nat.le_refl _,rfl,hq8,hb⟩
       case round =>
        clear hq8 hb t0;obtain ⟨j,hj,rfl,hrow,hb⟩:=hrel;obtain ⟨A3,c3,rfl⟩:=hrow.slc;by_cases h0:0<j
        · obtain⟨t,rfl⟩:∃t,j=t+1:=⟨j-1,by omega⟩
          have hcast:((t+1:Nat):Int)-1=(t:Int):=by omega
          simp only[hcast];have hy:=Sh.zW l.length (t:=t) (by omega);obtain ⟨y,PG⟩:∃y,Kp (Sh.by8 (8*(l.length:Int) / 2 ^ (8*t))=y):=⟨_,⟨rfl⟩⟩
          rw[PG.out]at hy;have hyv:Kp (8*(l.length:Int) / 2 ^ (8*t) % 256=(y.toNat:Int)):=⟨by rw[←PG.out,Sh.kQ,IntKind.wrap_u8']⟩
          obtain⟨F,hF⟩:∃F,Kp (cB (P++(Sh.lG l.length).take (7-t))=F):=⟨_,⟨rfl⟩⟩
          rw[show 8-(t+1)=7-t by omega,hF.out]at hrow;rw [show 8-(t+1)=7-t by omega];have hbn:=bY wr (.cells #[.int .u8 (8*(l.length:Int) / 2 ^ (8*t) % 256)] 5);have hq:=Kp.mk (aW _ _ _ _ _ _ _ _ hrow hbn);have hs1:=iY (g:=wr.heap.size) (u:=.int .u8 (8*(l.length:Int) / 2 ^ (8*t) % 256)) rfl (Bx.mk wr 5 #[.int .u8 (8*(l.length:Int) / 2 ^ (8*t) % 256)]);have hbw:=ah hb hbn;have hzn:=hbw.size;have qp:=Kp.mk hbw
          have hnx:Kp (F++[.int .u8 (8*(l.length:Int) / 2 ^ (8*t) % 256)]=cB (P++(Sh.lG l.length).take (8-t))):=⟨by
           rw[←hF.out,show 8-t=7-t+1 by omega,List.take_add_one,hy,←List.append_assoc,jh (P++_),hyv.out];rfl⟩
          clear hrow hbn hbw hy hyv PG hF
          go_wp2_with (at_builtin;refine aH rfl (.tmp 32) (.tmp 40) 157 5 rfl bi (.int .u8 0) 1 w.heap.size (l.length+1+zz+(7-t)) 1 F [.int .u8 (8*(l.length:Int) / 2 ^ (8*t) % 256)] (.slice A3 (l.length+1+zz+(7-t)) c3) (.slice (some ⟨wr.heap.size,0,none⟩) 1 1) bT hbi hbz hbs rfl rfl rfl hq.out hzn hs1 (by decide) (by unfold maxLen;omega) (by rw[hbb];omega) ?_)
          intro v7 w7 hb7 bH;replace hb7:=qp.out.trans hb7;rw [hnx.out,show l.length+1+zz+(7-t)+1=l.length+1+zz+(8-t) by omega]at bH;clear hq hs1 qp hzn hnx;go_wp2;exact ⟨⟨t,by omega,rfl,bH,hb7⟩,by simp[intOf]⟩
        · obtain rfl:j=0:=by omega
          have hcast:((0:Nat):Int)-1= -1:=rfl;simp only[hcast];have hlp:(Sh.pad l).length=l.length+1+zz+(8-0):=by rw[Tv.out,List.length_append,hpl.out];rfl
          rw[List.take_of_length_le (show (Sh.lG l.length).length<=8-0 from Nat.le_refl _),←Tv.out,←hlp]at hrow;rw [←hlp];clear Tv hpl hlp;go_wp2;go_ret;exact ⟨⟨_,rfl,hrow⟩,hb⟩
theorem JM {s:Sh.S8} {i:Nat} {x:Int} (hx:s.l[i]? = some x):(Sh.out s).take (4*(i+1))=(Sh.out s).take (4*i)++Sh.wb x:=by
 match i,hx with
 | 0,hx=>cases hx;rfl
 | 1,hx=>cases hx;rfl
 | 2,hx=>cases hx;rfl
 | 3,hx=>cases hx;rfl
 | 4,hx=>cases hx;rfl
 | 5,hx=>cases hx;rfl
 | 6,hx=>cases hx;rfl
 | 7,hx=>cases hx;rfl
 | n+8,hx=>cases hx
theorem XT (x:Int):cB (Sh.wb x)=[.int .u8 (x / 16777216 % 256),.int .u8 (x / 65536 % 256),.int .u8 (x / 256 % 256),.int .u8 (x % 256)]:=by
 simp only[cB,Sh.wb,List.map_cons,List.map_nil,Sh.kQ,IntKind.wrap_u8']
theorem MG {w:World} {g:Nat} {a b c d:Int} (h:Bx w g 5 #[.int .u8 a,.int .u8 b,.int .u8 c,.int .u8 d]):Src Tryz.prog 1 157 (.slice (some ⟨g,0,none⟩) 4 4) 4 [.int .u8 a,.int .u8 b,.int .u8 c,.int .u8 d] w :=
 dI.src (P:=Tryz.prog) (size:=1) (B:=0) (cap:=4) (e:=5) (t:=157) (fun u hu=>by simp only[List.mem_cons,List.not_mem_nil,or_false]at hu;rcases hu with rfl|rfl|rfl|rfl <;> rfl) bT ⟨g,_,rfl,Nat.zero_le _,Nat.le_refl _,h,rfl,rfl⟩
theorem xq (l:List UInt8) (w:World) (hl:l.length<=1000000) :
 bP 232 #[.string ⟨l.toArray⟩] w (.string ⟨(Sh.IE l).toArray⟩):=by
 have hb0:=bY w (.cells (Sh.uC Sh.iv.l) 310);have BH:=Bx.mk w 310 (Sh.uC Sh.iv.l);have hX:=yI l (w.alloc (.cells (Sh.uC Sh.iv.l) 310)) hl;have hr0:aF 310 1 w.heap.size 8 (Sh.iv.l.flatMap lu) (.slice (some ⟨w.heap.size,0,none⟩) 8 8) (w.alloc (.cells (Sh.uC Sh.iv.l) 310)):=.inr ⟨8,⟨w.heap.size,_,rfl,Nat.le_refl _,Nat.le_refl _,BH,rfl,rfl⟩,by unfold maxLen;omega⟩
 go_enter Tryz.func232,Tryz.ntmps232
 go_wp2_with fail;refine hX.mono ?_;rintro _ w1 ⟨⟨v1,rfl,hp⟩,hb1⟩;have hsz0:=hb0.size;have hm:=Sh.zK l;have hml:=Sh.JG l;have hsh:Kp (Sh.IE l=Sh.out (Sh.blocks ((Sh.pad l).length / 64) (Sh.pad l) Sh.iv)):=⟨rfl⟩
 have hpf:(Sh.pad l).flatMap Ob=cB (Sh.pad l):=by
  generalize Sh.pad l=q
  induction q with
  | nil=>rfl
  | cons a q ih=>rw[List.flatMap_cons,ih];rfl
 rw[←hpf]at hp;obtain ⟨Ap,cp,rfl,hpA,hpc,hpm⟩:=aF.at (f:=Ob) (fun _=>rfl) hp;replace hr0:=aW _ _ _ _ _ _ _ _ hr0 hb1;replace hb0:=ah hb0 hb1;clear hX BH hb1 hp hpf;have hpl0:0<(Sh.pad l).length:=by simp[Sh.pad];omega
 generalize Sh.pad l=pl at *;obtain ⟨p,off,rfl,hp1,Wn⟩:=hpA hpl0;obtain ⟨bi,hbi,hbz,hbs,hbb⟩:=Ei;generalize pl.length / 64=m at *;have V6:Kp (Sh.blocks (m-0) (pl.drop (64*0)) Sh.iv=Sh.blocks m pl Sh.iv):=⟨rfl⟩
 have DR:=aP w1;rw [hm]at hpc ⊢;go_wp2_with fail
 go_loopw [3,5] (fun s3 s5 wr=>∃(k:Nat) (s:Sh.S8),k<=m/\s5=.int .i64 (64*(k:Int))/\Kp (Sh.blocks (m-k) (pl.drop (64*k)) s=Sh.blocks m pl Sh.iv)/\aF 310 1 w.heap.size 8 (s.l.flatMap lu) s3 wr/\Below w1.heap.size w1 wr) (fun s3 s5 _=>64*m-(intOf s5).toNat)
 case atStart=>exact⟨0,Sh.iv,Nat.zero_le _,rfl,V6,hr0,DR⟩
 case round =>
  clear V6 hr0 DR;obtain ⟨k,s,hk,rfl,hst,hrow,hb⟩:=hrel;obtain ⟨Ah,ch,rfl,hHA,hch,hcm⟩:=aF.at (f:=lu) (p:=s.l) (fun _=>rfl) hrow;by_cases hlt:k<m
  · have hblk:((pl.drop (64*k)).take 64).length=64:=by rw[List.length_take,List.length_drop];omega
    have hAt:At 1 Ob wr wr.heap.size (some ⟨p,off+64*k,none⟩) ((pl.drop (64*k)).take 64):=fun _ =>
     ⟨p,off+64*k,rfl,Nat.lt_of_lt_of_le hp1 hb.size,fun i c hi j u hj=>by
      match j,hj with
      | 0,hj =>
       rw[List.getElem?_take]at hi
       split at hi
       · rw[List.getElem?_drop]at hi;have:=(hb.cell (p:=⟨p,off+(64*k+i)*1+0,none⟩) hp1).trans (Wn (64*k+i) c hi 0 u hj);rw [show off+64*k+i*1+0=off+(64*k+i)*1+0 by omega];exact this
       · cases hi⟩
    have hC:=Ip s ((pl.drop (64*k)).take 64) Ah (some ⟨p,off+64*k,none⟩) ch (cp-64*k) wr hHA hAt hch (by omega) hblk
    have hst2:Kp (Sh.blocks (m-(k+1)) (pl.drop (64*(k+1))) (Sh.comp s ((pl.drop (64*k)).take 64))=Sh.blocks m pl Sh.iv):=⟨by
     rw[←hst.out,show m-k=m-(k+1)+1 by omega]
     show _=Sh.blocks (m-(k+1)) ((pl.drop (64*k)).drop 64) _
     rw[List.drop_drop,show 64*(k+1)=64*k+64 by omega]⟩
    have hlc:64*k<cp:=by omega
    have hls:8=s.l.length:=rfl;have hzw:w.heap.size<=wr.heap.size:=by have:=hb.size;have:=hb0.size;omega
    rw[show s.l.length=8 from rfl];clear hAt hblk hHA hrow hst hls;generalize (pl.drop (64*k)).take 64=blk at *;go_wp2_with fail;refine hC.mono ?_;rintro _ w5 ⟨⟨v5,rfl,jB⟩,hb5⟩;replace jB:=aF.mono jB hzw;replace hb:=ah hb hb5;clear hC hb5;go_wp2;exact ⟨⟨k+1,_,by omega,by go_num,hst2,jB,hb⟩,by simp[intOf];omega⟩
  · have hkm:k=m:=by omega
    have hfin:Kp (Sh.IE l=Sh.out s):=⟨by rw[hsh.out,←hst.out,hkm,Nat.sub_self];rfl⟩
    obtain⟨gv,cv,YJ,hgv,hgl,hnv,hcv,ru⟩:=hrow.gets rfl (by decide);have hbw:=ah hb0 hb
    obtain⟨rfl,hce⟩:Ah=some ⟨gv,0,none⟩/\ch=cv:=by
     simp only[Value.slice.injEq]at YJ;exact ⟨YJ.1,YJ.2.2⟩
    subst hce;have ho0:aF 5 1 wr.heap.size (4*0) (cB ((Sh.out s).take (4*0))) (.slice none 0 0) wr:=.inl ⟨rfl,rfl,rfl⟩;have hbr:=aP wr;have hzr:=hbw.size;rw [show s.l.length=8 from rfl];clear hst hrow hb hHA YJ hb0 hkm Wn;generalize wr=w9 at *;go_wp2_with fail
    go_loopw [6,7] (fun s6 s7 wr=>∃i:Nat,i<=8/\s7=.int .i64 i/\aF 5 1 w9.heap.size (4*i) (cB ((Sh.out s).take (4*i))) s6 wr/\Below w9.heap.size w9 wr) (fun s6 s7 _=>8-(intOf s7).toNat)
    case atStart=>exact⟨0,by omega,rfl,ho0,hbr⟩
    case round =>
     clear ho0 hbr;obtain ⟨i,uX,rfl,hrow,hb⟩:=hrel;by_cases Lj:i<8
     · obtain⟨x,hx⟩:∃x,s.l[i]? = some x:=⟨_,List.getElem?_eq_getElem (show i<s.l.length from Lj)⟩
       have hnx:Kp (cB ((Sh.out s).take (4*i))++[.int .u8 (x / 16777216 % 256),.int .u8 (x / 65536 % 256),.int .u8 (x / 256 % 256),.int .u8 (x % 256)]=cB ((Sh.out s).take (4*(i+1)))):=⟨by rw[JM hx,jh,XT]⟩
       obtain⟨F,hF⟩:∃F,Kp (cB ((Sh.out s).take (4*i))=F):=⟨_,⟨rfl⟩⟩
       rw[hF.out]at hrow hnx;have V3:∀w',Below wr.heap.size wr w'->w'.cell? ⟨gv,i,none⟩=some (.int .u32 x):=fun w' hw=>ru w' (ah hb hw) i x hx
       obtain⟨v6,hv6⟩:∃v,v=u6:=⟨_,rfl⟩
       rw[←hv6]at hrow ⊢;clear hv6 hx hF;go_wp2_with fail;refine RS.au (RS.dX (wr.heap.size) 4 #[] #[]) [] [RS.ak (v6),RS.ak (.slice (some ⟨gv,0,none⟩) 8 ch),RS.ak (.int .i64 i),RS.ak (.pointer (some ⟨gv,i,none⟩)),RS.ak (.int .u32 x),RS.ak (.int .u32 (x / 16777216)),RS.ak (.int .u8 (x / 16777216 % 256)),RS.ak (.slice (some ⟨gv,0,none⟩) 8 ch),RS.ak (.int .i64 i),RS.ak (.pointer (some ⟨gv,i,none⟩)),RS.ak (.int .u32 x),RS.ak (.int .u32 (x / 65536)),RS.ak (.int .u8 (x / 65536 % 256)),RS.ak (.slice (some ⟨gv,0,none⟩) 8 ch),RS.ak (.int .i64 i),RS.ak (.pointer (some ⟨gv,i,none⟩)),RS.ak (.int .u32 x),RS.ak (.int .u32 (x / 256)),RS.ak (.int .u8 (x / 256 % 256)),RS.ak (.slice (some ⟨gv,0,none⟩) 8 ch),RS.ak (.int .i64 i),RS.ak (.pointer (some ⟨gv,i,none⟩)),RS.ak (.int .u32 x),RS.ak (.int .u8 (x % 256)),RS.Bz (wr.heap.size) 5 4 #[.int .u8 (x / 16777216 % 256),.int .u8 (x / 65536 % 256),.int .u8 (x / 256 % 256),.int .u8 (x % 256)]] 25 56 (by kernel_rfl) rfl rfl (by kernel_rfl) (by kernel_rfl) ?_ ?_ ?_
       · simp only[RS.aY]
         and_intros <;> first|exact RS.aI _|exact RS.d_ (by first|(left;decide)|(right;decide)|(right;simp))|trivial
       · simp only[RS.aT,List.take,List.length];refine ⟨?_,?_,?_,?_,?_,?_,?_,?_,?_,?_,?_,?_,?_,?_,?_,?_,?_,?_,?_,?_,?_,?_,?_,?_,?_,trivial⟩;all_goals (intro vs w2 hb2 hd;simp only[RS.aN,Act.put,List.nil_append,List.cons_append,List.setIfInBounds_toArray,List.set_cons_succ,List.set_cons_zero,Nat.reduceAdd])
         · clear hd;go_wp2;exact aO
         · clear hd;go_wp2;exact aO
         · clear hd;go_wp2;exact aO
         · have e0:vs 1=_:=hd 1 rfl;have e1:vs 2=_:=hd 2 rfl;clear hd;rw [e0,e1];go_wp2;exact aO
         · have e0:vs 3=_:=hd 3 rfl;have q0:=V3 w2 hb2.bl;clear hd;rw [e0];go_wp2;exact aO
         · have e0:vs 4=_:=hd 4 rfl;clear hd;rw [e0];go_wp2;exact aO
         · have e0:vs 5=_:=hd 5 rfl;clear hd;rw [e0];go_wp2;exact aO
         · clear hd;go_wp2;exact aO
         · clear hd;go_wp2;exact aO
         · have e0:vs 7=_:=hd 7 rfl;have e1:vs 8=_:=hd 8 rfl;clear hd;rw [e0,e1];go_wp2;exact aO
         · have e0:vs 9=_:=hd 9 rfl;have q0:=V3 w2 hb2.bl;clear hd;rw [e0];go_wp2;exact aO
         · have e0:vs 10=_:=hd 10 rfl;clear hd;rw [e0];go_wp2;exact aO
         · have e0:vs 11=_:=hd 11 rfl;clear hd;rw [e0];go_wp2;exact aO
         · clear hd;go_wp2;exact aO
         · clear hd;go_wp2;exact aO
         · have e0:vs 13=_:=hd 13 rfl;have e1:vs 14=_:=hd 14 rfl;clear hd;rw [e0,e1];go_wp2;exact aO
         · have e0:vs 15=_:=hd 15 rfl;have q0:=V3 w2 hb2.bl;clear hd;rw [e0];go_wp2;exact aO
         · have e0:vs 16=_:=hd 16 rfl;clear hd;rw [e0];go_wp2;exact aO
         · have e0:vs 17=_:=hd 17 rfl;clear hd;rw [e0];go_wp2;exact aO
         · clear hd;go_wp2;exact aO
         · clear hd;go_wp2;exact aO
         · have e0:vs 19=_:=hd 19 rfl;have e1:vs 20=_:=hd 20 rfl;clear hd;rw [e0,e1];go_wp2;exact aO
         · have e0:vs 21=_:=hd 21 rfl;have q0:=V3 w2 hb2.bl;clear hd;rw [e0];go_wp2;exact aO
         · have e0:vs 22=_:=hd 22 rfl;clear hd;rw [e0];go_wp2;exact aO
         · have e0:vs 6=_:=hd 6 rfl;have e1:vs 12=_:=hd 12 rfl;have e2:vs 18=_:=hd 18 rfl;have e3:vs 23=_:=hd 23 rfl;have hK:=hb2.slice (Nat.le_refl _) 5 4 #[.int .u8 (x / 16777216 % 256),.int .u8 (x / 65536 % 256),.int .u8 (x / 256 % 256),.int .u8 (x % 256)] undef;clear hd hb2;rw [e0,e1,e2,e3];go_wp2;first|exact hK|exact hK.2|exact⟨hK.1,hK.2⟩
       · intro vs wa hba hR2;simp only[RS.bV,RS.ak]at hR2;obtain ⟨e0,e1,e2,e3,e4,e5,e6,e7,e8,e9,e10,e11,e12,e13,e14,e15,e16,e17,e18,e19,e20,e21,e22,e23,e24,-⟩:=hR2;obtain ⟨gL24,Rt,WX,Yw⟩:=e24;simp only[List.drop,List.take,List.map,RS.aN,Act.put,List.setIfInBounds_toArray,List.set_cons_succ,List.set_cons_zero,Nat.reduceAdd];rw [e0,e1,e2,e3,e4,e5,e6,e7,e8,e9,e10,e11,e12,e13,e14,e15,e16,e17,e18,e19,e20,e21,e22,e23,Rt];clear e0 e1 e2 e3 e4 e5 e6 e7 e8 e9 e10 e11 e12 e13 e14 e15 e16 e17 e18 e19 e20 e21 e22 e23 Rt;have hb5:=ah hb hba.bl;refine aH rfl (.tmp 28) (.tmp 52) 157 5 rfl bi (.int .u8 0) 1 w9.heap.size (4*i) 4 F [.int .u8 (x / 16777216 % 256),.int .u8 (x / 65536 % 256),.int .u8 (x / 256 % 256),.int .u8 (x % 256)] v6 (.slice (some ⟨gL24,0,none⟩) 4 4) bT hbi hbz hbs rfl rfl rfl (aW _ _ _ _ _ _ _ _ hrow hba.bl) hb5.size (MG Yw) (by decide) (by unfold maxLen;omega) (by rw[hbb];omega) ?_;intro v7 w7 hb7 bH;rw [hnx.out,show 4*i+4=4*(i+1) by omega]at bH;replace hb7:=hb5.trans hb7;clear hba hb5 Yw WX hrow hnx V3;go_wp2;exact ⟨⟨i+1,by omega,by go_num,bH,hb7⟩,by simp[intOf];omega⟩
     · have G9:i=8:=by omega
       rw[G9,List.take_of_length_le (show (Sh.out s).length<=4*8 from Nat.le_refl _)]at hrow
       have hpf:cB (Sh.out s)=(Sh.out s).flatMap Ob:=by
        generalize Sh.out s=q
        induction q with
        | nil=>rfl
        | cons a q ih=>rw[List.flatMap_cons,←ih];rfl
       rcases hrow with ⟨-,h,-⟩|⟨cap,⟨g,cells,rfl,hg,hnc,hbx,hcs,hfl⟩,vJ⟩
       · omega
       · have hcv9:=pW wr g cap (Sh.out s) (fun j y hy=>hbx.cell j (by
          have h9:(cB (Sh.out s))[j]? = some (.int .u8 y.toNat):=by rw[cB,List.getElem?_map,hy];rfl
          rw[←hfl,List.getElem?_take]at h9
          split at h9
          · simpa using h9
          · cases h9))
         rw[Sh.mV]at hcv9;have aX:=ah hbw hb;clear hbx hfl ru G9 hpf;go_wp2;go_ret;exact ⟨by rw[hfin.out];rfl,aX⟩
theorem Gi (s:List UInt8) (w:World) (hl:s.length<=100000) :
 bP 172 #[.string ⟨s.toArray⟩] w (.string ⟨(Sh.leaf s).toArray⟩):=by
 have hC:=xq (0 :: s) w (by simp;omega);have hn:¬ 9223372036854775807<s.length+1:=by omega
 go_enter Tryz.func172,Tryz.ntmps172
 go_wp2_with fail;refine hC.mono ?_;rintro _ w1 ⟨rfl,hb⟩;clear hC;go_wp2;go_ret;exact ⟨rfl,hb⟩
theorem Gh (a b:List UInt8) (w:World) (ha:a.length<=100000) (hbl:b.length<=100000) :
 bP 171 #[.string ⟨a.toArray⟩,.string ⟨b.toArray⟩] w (.string ⟨(Sh.node a b).toArray⟩):=by
 have hC:=xq (1 :: (a++b)) w (by simp;omega);have hn:¬ 9223372036854775807<a.length+1:=by omega
 have hn2:¬ 9223372036854775807<a.length+1+b.length:=by omega
 have hn3:¬ 9223372036854775807<a.length+b.length+1:=by omega
 go_enter Tryz.func171,Tryz.ntmps171
 go_wp2_with fail;refine hC.mono ?_;rintro _ w1 ⟨rfl,hb⟩;clear hC;go_wp2;go_ret;exact ⟨rfl,hb⟩
theorem wz (k c:List UInt8) (w:World) (hk:k.length<=100000) (hc:c.length<=100000) :
 bP 118 #[.string ⟨k.toArray⟩,.string ⟨c.toArray⟩] w (.string ⟨(Sh.sg k c).toArray⟩):=by
 have hC:=Gi c w hc
 go_enter Tryz.func118,Tryz.ntmps118
 go_wp2_with fail;refine hC.mono ?_;rintro _ w1 ⟨rfl,hb⟩;have hD:=Gh k (Sh.leaf c) w1 hk (by rw[show (Sh.leaf c).length=32 from Sh.xU _];omega);clear hC;go_wp2_with fail;refine hD.mono ?_;rintro _ w2 ⟨rfl,hb2⟩;replace hb:=ah hb hb2;clear hD hb2;go_wp2;go_ret;exact ⟨rfl,hb⟩
theorem Ol (n:Nat) (w:World) (hn:n<=99999999):Calls Tryz.prog 233 #[.int .i64 n] w fun e w'=>e=.returned (.int .u64 ((2*n:Nat):Int))/\w=w':=by
 have t0:decide ((n:Int)<0)=false:=decide_eq_false (by omega)
 go_enter Tryz.func233,Tryz.ntmps233
 go_wp2;go_ret;exact ⟨gJ (by omega),rfl⟩
theorem FD {z:Nat} (h:z<256):((UInt8.ofNat z).toNat:Int)=z:=by
 rw[UInt8.toNat_ofNat',Nat.mod_eq_of_lt (by omega)]
theorem MW {w:World} {B:Nat} {l:List UInt8} {v:Value} (h:aF 5 1 B l.length (cB l) v w) (h0:0<l.length):∃g cap,v=.slice (some ⟨g,0,none⟩) l.length cap/\(convert 157 9 (.slice (some ⟨g,0,none⟩) l.length cap)).run Tryz.prog w=.ok (.string ⟨l.toArray⟩) w:=by
 rcases h with ⟨-,h,-⟩|⟨cap,⟨g,cells,rfl,hg,hnc,hbx,hcs,hfl⟩,vJ⟩
 · omega
 · exact⟨g,cap,rfl,pW w g cap l (fun j y hy=>hbx.cell j (by
    have h9:(cB l)[j]? = some (.int .u8 y.toNat):=by rw[cB,List.getElem?_map,hy];rfl
    rw[←hfl,List.getElem?_take]at h9
    split at h9
    · simpa using h9
    · cases h9))⟩
theorem Gf (n:Nat) (w:World) (hn:n<=99999999):bP 173 #[.int .i64 n] w (.tuple #[.string ⟨(Sh.dV n).toArray⟩,.int .i64 0]):=by
 have t0:decide ((n:Int)< -4611686018427387903)=false:=decide_eq_false (by omega);have t1:decide ((n:Int) > 4611686018427387903)=false:=decide_eq_false (by omega);have hz:=Ol n w hn;have hr0:aF 5 1 w.heap.size 0 (cB []) (.slice none 0 0) w:=.inl ⟨rfl,rfl,rfl⟩;have hb0:=aP w;have hp0:Kp ([]++Sh.vb (2*n)=Sh.dV n):=⟨by rw[List.nil_append,Sh.dV,Int.toNat_natCast]⟩
 obtain⟨bi,hbi,hbz,hbs,hbb⟩:=Ei
 go_enter Tryz.func173,Tryz.ntmps173
 go_wp2_with fail;refine hz.mono ?_;rintro _ w1 ⟨rfl,rfl⟩;clear hz t0 t1;obtain ⟨z0,hz0⟩:∃z,Kp (2*n=z/\z<=199999998):=⟨_,⟨rfl,by omega⟩⟩
 rw[hz0.out.1]at hp0 ⊢;have ER:=hz0.out.2;clear hz0;go_wp2_with fail
 go_loopw [4,5] (fun s4 s5 wr=>∃(z:Nat) (pre:List UInt8),s4=.int .u64 z/\z<=199999998/\pre.length+z<=400000000/\Kp (pre++Sh.vb z=Sh.dV n)/\aF 5 1 w.heap.size pre.length (cB pre) s5 wr/\Below w.heap.size w wr) (fun s4 s5 _=>(intOf s4).toNat)
 case atStart=>exact⟨z0,[],rfl,ER,by simp;omega,hp0,hr0,hb0⟩
 case round =>
  clear hp0 hr0 hb0 ER;obtain ⟨z,pre,rfl,ER,hpz,hp,hrow,hb⟩:=hrel;obtain ⟨v5,hv5⟩:∃v,v=u5:=⟨_,rfl⟩
  rw[←hv5]at hrow ⊢;by_cases hlt:z<128
  · have t0:decide ((z:Int) ≥ 128)=false:=decide_eq_false (by omega);rw [Sh.zl hlt]at hp;have hzb:(z:Int) % 256=(z:Int):=by omega
    have hbn:=bY wr (.cells #[.int .u8 z] 5);have hq:=Kp.mk (aW _ _ _ _ _ _ _ _ hrow hbn);have hs1:=iY (g:=wr.heap.size) (u:=.int .u8 z) rfl (Bx.mk wr 5 #[.int .u8 z]);have hbw:=ah hb hbn;have hzn:=hbw.size;have qp:=Kp.mk hbw
    have hnx:Kp (cB pre++[.int .u8 z]=cB (pre++[UInt8.ofNat z])):=⟨by
     rw[jh,show cB [UInt8.ofNat z]=[.int .u8 ((UInt8.ofNat z).toNat:Int)] from rfl,FD (by omega)]⟩
    obtain⟨F,hF⟩:∃F,Kp (cB pre=F):=⟨_,⟨rfl⟩⟩
    rw[hF.out]at hq hnx;clear hv5 hrow hbn hbw
    go_wp2_with (at_builtin;refine aH rfl (.tmp 25) (.tmp 28) 157 5 rfl bi (.int .u8 0) 1 w.heap.size pre.length 1 F [.int .u8 z] v5 (.slice (some ⟨wr.heap.size,0,none⟩) 1 1) bT hbi hbz hbs rfl rfl rfl hq.out hzn hs1 (by decide) (by unfold maxLen;omega) (by rw[hbb];omega) ?_)
    intro v7 w7 hb7 bH;rw [hnx.out,show pre.length+1=(pre++[UInt8.ofNat z]).length by simp]at bH;replace hb7:=qp.out.trans hb7;obtain ⟨g7,c7,rfl,hcv⟩:=MW bH (by simp);rw [List.length_append,List.length_singleton,hp.out]at hcv;clear hq hs1 qp hzn hnx hF bH hzb t0;go_wp2
    go_ret2
    exact⟨rfl,hb7⟩
  · have t0:decide ((z:Int) ≥ 128)=true:=decide_eq_true (by omega);rw [Sh.I4 hlt]at hp;have hbn:=bY wr (.cells #[.int .u8 ((z:Int) % 128+128)] 5);have hq:=Kp.mk (aW _ _ _ _ _ _ _ _ hrow hbn);have hs1:=iY (g:=wr.heap.size) (u:=.int .u8 ((z:Int) % 128+128)) rfl (Bx.mk wr 5 #[.int .u8 ((z:Int) % 128+128)]);have hbw:=ah hb hbn;have hzn:=hbw.size;have qp:=Kp.mk hbw
    have hnx:Kp (cB pre++[.int .u8 ((z:Int) % 128+128)]=cB (pre++[UInt8.ofNat (z % 128+128)])):=⟨by
     rw[jh,show cB [UInt8.ofNat (z % 128+128)]=[.int .u8 ((UInt8.ofNat (z % 128+128)).toNat:Int)] from rfl,FD (by omega)]
     rfl⟩
    have hp2:Kp ((pre++[UInt8.ofNat (z % 128+128)])++Sh.vb (z / 128)=Sh.dV n):=⟨by rw[List.append_assoc];exact hp.out⟩
    obtain⟨F,hF⟩:∃F,Kp (cB pre=F):=⟨_,⟨rfl⟩⟩
    rw[hF.out]at hq hnx;clear hv5 hrow hbn hbw hp
    go_wp2_with (at_builtin;refine aH rfl (.tmp 16) (.tmp 21) 157 5 rfl bi (.int .u8 0) 1 w.heap.size pre.length 1 F [.int .u8 ((z:Int) % 128+128)] v5 (.slice (some ⟨wr.heap.size,0,none⟩) 1 1) bT hbi hbz hbs rfl rfl rfl hq.out hzn hs1 (by decide) (by unfold maxLen;omega) (by rw[hbb];omega) ?_)
    intro v7 w7 hb7 bH;rw [hnx.out,show pre.length+1=(pre++[UInt8.ofNat (z % 128+128)]).length by simp]at bH;replace hb7:=qp.out.trans hb7;clear hq hs1 qp hzn hnx hF t0;go_wp2;exact ⟨⟨z / 128,_,by simp,by omega,by simp;omega,hp2,bH,hb7⟩,by simp[intOf];omega⟩
theorem ou.setCells {B g:Nat} {t:TypeId} {cs:Array Value} {w:World} (h:Bx w g t cs):∀(vs:List Value) (o:Nat),ou B w (w.setCells g o vs):=by
 have key:∀(vs:List Value) (o:Nat) (w':World),w.heap.size<=w'.heap.size->(∀b,b≠g->w'.heap[b]? = w.heap[b]?)->w.heap.size<=(w'.setCells g o vs).heap.size/\∀b,b≠g->(w'.setCells g o vs).heap[b]? = w.heap[b]? := by
  intro vs
  induction vs with
  | nil=>intro o w' h1 h2;exact⟨h1,h2⟩
  | cons v vs ih =>
   intro o w' h1 h2;refine ih (o+1) _ (by rw[World.size_setCell];exact h1) fun b hb=>?_
   exact (Below.heap_setCell w' ⟨g,o,none⟩ v b hb).trans (h2 b hb)
 intro vs o;obtain ⟨h1,h2⟩:=key vs o w (Nat.le_refl _) fun _ _=>rfl
 refine⟨h1,fun b o' _ ho hc=>(h2 b ?_).trans ho⟩;rintro rfl;rw [show w.heap[b]? = _ from h]at ho;cases ho;cases hc
theorem Ep {P:Program} (w:World) (t ty e:TypeId) (i:TypeInfo) (z:Value) (size B n m:Nat) (flat news:List Value) (v x:Value) (ht:P.underlying t=some (.slice e)) (hi:P.info? e=some i) (hz:i.zero=some z)
 (hsize:i.size=size) (hzs:z.cells.size=size) (hv:aF e size B n flat v w) (hs:Src P size t x m news w) (hm:0<m) (h63:n+m<=maxLen) (hb:(n+m)*i.bytes<=140737488355328)
 {v':Value} {w':World} (hr:(Builtin.append_ #[t,t] ty #[v,x]).run P w=.ok v' w'):ou 0 w w':=by
 subst hsize;have hnl:=hs.newsLen;have bd:∀o:Obj,ou 0 w (w.drew.alloc o):=fun o=>ou.below (((Below.refl w.heap.size w).drew).alloc (Nat.le_refl _) o)
 rcases hv with ⟨rfl,rfl,rfl⟩|⟨cap,⟨g,cells,rfl,hg,hnc,hbx,hcs,hfl⟩,hcm⟩
 · have hold:(Builtin.firstCells i.size 0 (.slice none 0 0)).run P w.drew=.ok ([]:List Value).toArray w.drew:=by simp[Builtin.firstCells,loadCells,loadCellsFrom]
   have hrun:=run_append_grow_src (P:=P) w t t ty e i z ht hi hz none 0 0 [] hold x m news hs (by omega) (by simp only[maxLen]at h63;omega) (growslice_fits (by omega) hb);rw [hrun]at hr
   injection hr with h1 h2
   rw[←h2];exact bd _
 · by_cases hroom:n+m<=cap
   · have hle:n*i.size+news.length<=cells.size:=by rw[hnl,hcs,←Nat.add_mul];exact Nat.mul_le_mul_right _ hroom
     have hrun:=run_append_room_src (P:=P) w t t ty e i ht hi g 0 n cap x m news hs hroom (fun j hj=>by
      rw[hbx.cell (0+n*i.size+j) (v:=cells[0+n*i.size+j]'(by omega)) (by simp)];rfl) (fun j _=>hbx.frozen _)
     rw[hrun]at hr
     injection hr with h1 h2
     rw[←h2];exact ou.setCells hbx _ _
   · have jP:flat.length=n*i.size:=by
      rw[←hfl,List.length_take,Array.length_toList,hcs];exact Nat.min_eq_left (Nat.mul_le_mul_right _ hnc)
     have hold:(Builtin.firstCells i.size n (.slice (some ⟨g,0,none⟩) n cap)).run P w.drew=.ok flat.toArray w.drew :=
      run_firstCells_some w.drew i.size n ⟨g,0,none⟩ n cap flat jP fun j u hu=>by
       have hj:cells[j]? = some u:=by
        rw[←hfl,List.getElem?_take]at hu
        split at hu
        · simpa using hu
        · cases hu
       rw[Addr.add_lit,Nat.zero_add];exact (show Bx w.drew g e cells from hbx).cell j hj
     have hrun:=run_append_grow_src (P:=P) w t t ty e i z ht hi hz (some ⟨g,0,none⟩) n cap flat hold x m news hs (by omega) (by simp only[maxLen]at h63;omega) (growslice_fits (by omega) hb);rw [hrun]at hr
     injection hr with h1 h2
     rw[←h2];exact bd _
theorem iJ {P:Program} {w:World} {ops:Array Oper} {rest:List Oper} {o:Oper} {a:Act} {Q:Exit->Act->World->Prop} (hgd:o.guard=none) (s y:Operand) (t e:TypeId) (ho:o.op=.call { callee:=.builtin .append,args:=#[s,y],argTypes:=#[t,t] })
 (i:TypeInfo) (z:Value) (size B n m:Nat) (flat news:List Value) (v x:Value) (ht:P.underlying t=some (.slice e)) (hi:P.info? e=some i) (hz:i.zero=some z)
 (hsize:i.size=size) (hzs:z.cells.size=size) (hes:a.eval s=v) (DN:a.eval y=x) (hv:aF e size B n flat v w) (hB:B<=w.heap.size) (hs:Src P size t x m news w) (hm:0<m) (h63:n+m<=maxLen) (hb:(n+m)*i.bytes<=140737488355328)
 (h:∀v' w',Below B w w'->ou 0 w w'->aF e size B (n+m) (flat++news) v' w'->wpList P ops Q rest (a.put o.dst v') w'):wpList P ops Q (o :: rest) a w:=by
 obtain⟨v',w',hr,h1,h2⟩:=qV (P:=P) w t o.type e i z size B n m flat news v x ht hi hz hsize hzs hv hB hs hm h63 hb;have h3:=Ep (P:=P) w t o.type e i z size B n m flat news v x ht hi hz hsize hzs hv hs hm h63 hb hr;refine wpList_plain hgd fun _ hK=>?_
 unfold Oper.wp execOp
 simp only[ho,resolve,invoke,builtin,Sem.run_bind,Sem.run_pure,Result.andThen_ok,List.map_toArray,List.map_cons,List.map_nil,hes,DN,hr];exact hK _ _ (h v' w' h1 h3 h2)
theorem UL (z:Nat) (h:z<18446744073709551616):bits .and .u64 (z:Int) 127=((z % 128:Nat):Int):=by
 rw[u64_and z 127 (by omega) (by omega) (by decide) (by decide)];have:=Nat.and_two_pow_sub_one_eq_mod z 7;simp only[Int.toNat_natCast];rw [show Int.toNat 127=2 ^ 7-1 from rfl,this]
theorem VD (g:Nat) (h:g<128):bits .or .u8 (g:Int) 128=((g+128:Nat):Int):=by
 rw[u8_or g 128 (by omega) (by omega) (by decide) (by decide)];simp only[Int.toNat_natCast]
 congr 1
 rw[show Int.toNat 128=2 ^ 7*1 from rfl,Nat.or_comm,←Nat.two_pow_add_eq_or_of_lt (by omega)];omega
theorem Hq (n:Nat) (z:Int) (w:World):CallsIn Fence.wide n Tryz.prog 189 #[.int .u64 z] w fun e w'=>e=.returned (.func (.func 235) #[] #[.pointer (some ⟨w.heap.size,0,none⟩)])/\w'=w.alloc (.cells #[.int .u64 z] 284):=by
 refine callsIn_of_wp Tryz.func189 rfl trivial ?_ rfl;simp only[Tryz.ntmps189,List.size_toArray,List.length_cons,List.length_nil,Nat.reduceAdd,Nat.reduceSub,Array.replicate_succ,Array.replicate_zero,List.push_toArray,List.append_toArray,List.nil_append,List.cons_append]
 gi_wp2
 go_ret;exact ⟨rfl,rfl⟩
attribute [local go_sem] Oper.semAt_some
def Ea (z0:Nat) (xs:List Nat):Nat:=match xs.getLast? with
 | none=>z0
 | some y=>y / 128
theorem xu (z0 y:Nat) (xs:List Nat):Ea z0 (xs++[y])=y / 128:=by simp[Ea]
def grE (z:Nat):Array Value:=#[.int .u8 ((z:Int) % 128),.bool (decide (z<128))]
theorem DV (n:Nat) (hn1:2<=n) (z0 v:Nat) (hz0:z0<18446744073709551616) :
 UQ n Tryz.prog 235 #[.pointer (some ⟨v,0,none⟩)] grE (fun xs z=>z=Ea z0 xs/\z<18446744073709551616/\∀y∈xs,128<=y) (fun xs=>∃pre y,xs=pre++[y]/\y<128/\∀y∈pre,128<=y) (fun _=>True) v
  (fun X=>Bx X v 284 #[.int .u64 z0]) (fun _=>True):=by
 intro lp J Jx W hW hvW hZ hJ hJx L8 hG hJv hY hj0;refine callsIn_of_wp Tryz.func235 rfl trivial ?_ rfl;simp only[Tryz.ntmps235,List.size_toArray,List.length_cons,List.length_nil,Nat.reduceAdd,Nat.reduceSub,Array.replicate_succ,Array.replicate_zero,List.push_toArray,List.append_toArray,List.nil_append,List.cons_append]
 gi_wp2_with fail
 gi_loopg [3] z0 (fun k s3 wr=>∃xs:List Nat,Ea z0 xs=k/\k<18446744073709551616/\(∀y∈xs,128<=y)/\J xs wr/\Bx wr v 284 #[.int .u64 k])
 case atStart=>exact⟨[],rfl,hz0,(fun y hy=>by cases hy),hj0,hZ⟩
 case round =>
  clear hj0 hZ;obtain ⟨xs,hc,Xa,hall,hj,hB⟩:=hrel;obtain ⟨fn,tmps,assign,body,hy,hR⟩:=hY xs gk wr hj ⟨hc.symm,Xa,hall⟩;have c0:=hB.cell 0 (v:=.int .u64 gk) rfl;have ha:=UL gk Xa;have hm:((gk % 128:Nat):Int) % 256=((gk % 128:Nat):Int):=by omega
  by_cases hlt:gk<128
  · have t0:decide ((gk:Int)<128)=true:=decide_eq_true (by omega);simp only[grE,decide_eq_true hlt]at hy
    gi_wp2_with fail
    refine⟨fun _=>by omega,hR.mono ?_⟩;rintro e W3 (⟨rfl,hJ3,hk3,hv3⟩|⟨rfl,hJx3⟩)
    · clear hR hy hY
      gi_wp2_with fail
      exact bodyPost_ret (results_none rfl _ _ _) rfl ⟨⟨_,rfl⟩,.inl ⟨_,⟨xs,gk,rfl,hlt,hall⟩,hJ3⟩⟩
    · clear hR hy hY
      gi_wp2_with fail
      exact bodyPost_ret (results_none rfl _ _ _) rfl ⟨⟨_,rfl⟩,.inr ⟨_,hJx3⟩⟩
  · have t0:decide ((gk:Int)<128)=false:=decide_eq_false (by omega);simp only[grE,decide_eq_false hlt]at hy
    gi_wp2_with fail
    refine⟨fun _=>by omega,hR.mono ?_⟩;rintro e W3 (⟨rfl,hJ3,hk3,hv3⟩|⟨rfl,hJx3⟩)
    · have hB3:Bx W3 v 284 #[.int .u64 gk]:=hv3.trans hB;have d0:=hB3.cell 0 (v:=.int .u64 gk) rfl;have f0:=hB3.frozen 0;have hJ4:=hJv _ _ (.int .u64 ((gk:Int) / 128)) hJ3;have hB4:Bx _ v 284 #[.int .u64 ((gk / 128:Nat):Int)]:=(show (gk:Int) / 128=((gk / 128:Nat):Int) by omega) ▸ hB3.set 0 (.int .u64 ((gk:Int) / 128));have hc4:Kp (Ea z0 (xs++[gk])=gk / 128):=⟨xu _ _ _⟩
      have Xp:∀y∈xs++[gk],128<=y:=fun y hy=>by
       rcases List.mem_append.1 hy with h|h
       · exact hall y h
       · rw[List.mem_singleton.1 h];omega
      clear hR hy hY c0 hv3 hB hB3 hj
      gi_wp2_with fail
      gi_roundg (gk / 128)
      case measure=>omega
      case rel=>exact⟨xs++[gk],hc4.out,by omega,Xp,hJ4,hB4⟩
    · clear hR hy hY
      gi_wp2_with fail
      exact bodyPost_ret (results_none rfl _ _ _) rfl ⟨⟨_,rfl⟩,.inr ⟨_,hJx3⟩⟩
open Go.RowKit Go.Shelf
attribute [local go_sem] Oper.semAt_some
def jU (xs:List Nat):List UInt8:=xs.map fun y=>if y<128 then UInt8.ofNat y else UInt8.ofNat (y % 128+128)
theorem Y0 (z:Nat) (h:z<18446744073709551616):bits .xor .u64 (z:Int) 0=z:=by
 rw[u64_xor z 0 (by omega) (by omega) (by decide) (by decide)];simp
theorem vk {α:Type} {n:Nat} {P:Program} {g:Operand} {ps:Array Tmp} {assign body:Code} {Q:Exit->Act->World->Prop} {a:Act} {w:World} {Kw:World->Prop} (h1:1<=n) {gf:Nat} {lb:Array Value} (hg:a.eval g=.func (.func gf) #[] lb)
 (eg:∀args w,(callFunc gf args).run P w=.ok (.enter gf args) w) {encs:α->Array Value} {R:List α->α->Prop} {S G:List α->Prop} {v:Nat} {Z:World->Prop} (hseq:UQ (n-1) P gf lb encs R S G v Z Kw) (hv:v<w.heap.size) (hZ:∀X,Below w.heap.size w X->Z X) (hb0:∀X,Below w.heap.size w X->Kw X) (hps:∀x,(encs x).size=ps.size)
 (I:List α->World->Prop) (Ix:Code->List α->World->Prop) (hI:uU I) (yE:BI w.heap.size I) (hIx:∀c,uU (Ix c)) (kD:∀c,BI w.heap.size (Ix c)) (rV:∀s X,I s X->Kw X) (hG:∀s X,I s X->G s) (hIv:∀s X u,I s X->I s (X.setCell ⟨v,0,none⟩ u)) (hz:I [] w) (tb tc:Tmp) (val Y3:α->Value)
 (hassign:∀(l:Nat) (x:α) (W:World) (K:Act->World->Prop),K { tmps:=(((ps.zip (encs x)).foldl (fun t (p,v)=>t.setIfInBounds p v) a.tmps).setIfInBounds tb (val x)).setIfInBounds tc (Y3 x),defers:=[] } W ->
  assign.wpIn (Fence.wide.inRound l) (n-1-1) P (Exit.then K (fun _ _ _=>False)) { tmps:=(ps.zip (encs x)).foldl (fun t (p,v)=>t.setIfInBounds p v) a.tmps,defers:=[] } W)
 (hbody:∀(l:Nat) (pre:List α) (x:α) (W:World),I pre W->R pre x->body.wpIn (Fence.wide.inRound l) (n-1-1) P (Nw w.heap.size v I Ix (pre++[x]) W) { tmps:=(((ps.zip (encs x)).foldl (fun t (p,v)=>t.setIfInBounds p v) a.tmps).setIfInBounds tb (val x)).setIfInBounds tc (Y3 x),defers:=[] } W)
 (hdone:∀(D:Nat) (xs:List α) (W:World),w.heap.size<=D->S xs->I xs W->W.heap[D]? = some (.deferred (some []))->Q .normal { a with defers:={ target:=.collected D,args:=#[] } :: a.defers } W)
 (hstop:∀(D:Nat) (c:Code) (pre:List α) (W:World),w.heap.size<=D->Ix c pre W->W.heap[D]? = some (.deferred (some []))->c.wpIn Fence.wide n P Q { a with defers:={ target:=.collected D,args:=#[] } :: a.defers } W) :
 (Code.rangeFunc g ps assign body).wpIn Fence.wide n P Q a w :=
 vw h1 hg eg hseq hv hZ hb0 hps I Ix hI yE hIx kD rV hG hIv hz
  (fun x a' X=>a'={ tmps:=(((ps.zip (encs x)).foldl (fun t (p,v)=>t.setIfInBounds p v) a.tmps).setIfInBounds tb (val x)).setIfInBounds tc (Y3 x),defers:=[] })
  (fun x a' X l o o' h _ _=>h)
  (fun l x W K hK=>hassign l x W K (hK _ _ (Below.refl _ _) rfl))
  (fun l pre x a' W hi h hR=>by subst h;exact hbody l pre x W hi hR)
  hdone hstop
theorem iy (a:Array Value) (p q:Tmp) (v u:Value):(#[p,q].zip #[v,u]).foldl (fun t x=>t.setIfInBounds x.1 x.2) a=(a.setIfInBounds p v).setIfInBounds q u:=by simp
theorem aF.put {e:TypeId} {size B n:Nat} {flat:List Value} {v:Value} {X:World} (h:aF e size B n flat v X) {l:Nat} {o o':Obj} (ho:X.heap[l]? = some o) (hc:o.isCells=false):aF e size B n flat v (X.putObj l o'):=by
 rcases h with h|⟨cap,⟨g,cells,h1,h2,h3,h4,h5⟩,hm⟩
 · exact .inl h
 · exact .inr ⟨cap,⟨g,cells,h1,h2,h3,dG h4 ho hc,h5⟩,hm⟩
theorem aF.far {e:TypeId} {size B n:Nat} {flat:List Value} {v:Value} {X:World} (h:aF e size B n flat v X) {p:Addr} (hp:p.block<B) (u:Value):aF e size B n flat v (X.setCell p u):=by
 rcases h with h|⟨cap,⟨g,cells,h1,h2,h3,h4,h5⟩,hm⟩
 · exact .inl h
 · exact .inr ⟨cap,⟨g,cells,h1,h2,h3,h4.far (by omega) u,h5⟩,hm⟩
structure IV (z0:Nat) (w:World) (pre:List Nat) (v:Value) (X:World):Prop where
 bo:Bx X w.heap.size 157 #[v]
 row:aF 5 1 (w.heap.size+2) pre.length (cB (jU pre)) v X
 bl:Below w.heap.size w X
 lt:w.heap.size+1<X.heap.size
 go:(∀y∈pre,128<=y)->jU pre++Sh.vb (Ea z0 pre)=Sh.vb z0
 fin:∀p y,pre=p++[y]->y<128->jU pre=Sh.vb z0
variable {z0:Nat} {w:World} {pre:List Nat} {v:Value} {X Y:World}
theorem IV.call (h:IV z0 w pre v X) (hb:Below X.heap.size X Y):IV z0 w pre v Y:=⟨h.bo.call hb,aW _ _ _ _ _ _ _ _ h.row hb,ah h.bl hb,Nat.lt_of_lt_of_le h.lt hb.size,h.go,h.fin⟩
theorem IV.put (h:IV z0 w pre v X) {l:Nat} {o o':Obj} (hl:w.heap.size<=l) (ho:X.heap[l]? = some o) (hc:o.isCells=false):IV z0 w pre v (X.putObj l o'):=⟨dG h.bo ho hc,h.row.put ho hc,h.bl.trans (bF hl ho),by simp;exact h.lt,h.go,h.fin⟩
theorem IV.var (h:IV z0 w pre v X) (u:Value):IV z0 w pre v (X.setCell ⟨w.heap.size+1,0,none⟩ u):=⟨h.bo.far (by show w.heap.size≠w.heap.size+1;omega) u,h.row.far (by show w.heap.size+1< _;omega) u,aQ h.bl (by show w.heap.size<=w.heap.size+1;omega) u,by rw[World.size_setCell];exact h.lt,h.go,h.fin⟩
theorem JC (n:Nat) (w:World) (hn:n<=99999999):bP 139 #[.int .i64 n] w (.tuple #[.string ⟨(Sh.dV n).toArray⟩,.int .i64 0]):=by
 have t0:decide ((n:Int)< -4611686018427387903)=false:=decide_eq_false (by omega);have t1:decide ((n:Int) > 4611686018427387903)=false:=decide_eq_false (by omega);refine (callsIn_wide (n:=4)).1 ?_;refine callsIn_of_wp_marks Tryz.func139 rfl trivial ?_ rfl;simp only[Tryz.ntmps139,List.size_toArray,List.length_cons,List.length_nil,Nat.reduceAdd,Nat.reduceSub,Array.replicate_succ,Array.replicate_zero,List.push_toArray,List.append_toArray,List.nil_append,List.cons_append];refine wpIn_wide.2 ?_
 have hx0:bits .xor .u64 ((n:Int)*2) ((n:Int) / 9223372036854775808)=((2*n:Nat):Int):=by
  rw[show (n:Int) / 9223372036854775808=0 by omega,show (n:Int)*2=((2*n:Nat):Int) by omega,Y0 _ (by omega)]
 go_wp2_with fail;obtain ⟨z0,hz0⟩:∃z,Kp (2*n=z/\z<=199999998/\Sh.dV n=Sh.vb z):=⟨_,⟨rfl,by omega,by rw[Sh.dV,Int.toNat_natCast]⟩⟩
 rw[show 2*(n:Int)=(z0:Int) by have:=hz0.out.1;omega];clear hx0 t0 t1;refine ((callsIn_wide (n:=4)).1 (Hq 4 _ _)).mono ?_;rintro _ _ ⟨rfl,rfl⟩;have hbW:=bNew (bY w (.cells #[.slice none 0 0] 157)) (.cells #[.int .u64 (z0:Int)] 284);have Q1:=(Bx.mk w 157 #[.slice none 0 0]).new (.cells #[.int .u64 (z0:Int)] 284);have Q2:=Bx.mk (w.alloc (.cells #[.slice none 0 0] 157)) 284 #[.int .u64 (z0:Int)];rw [World.size_alloc]at Q2;rw [World.size_alloc];generalize (w.alloc (.cells #[.slice none 0 0] 157)).alloc (.cells #[.int .u64 (z0:Int)] 284)=W3 at *;have hseq:=DV 3 (by decide) z0 (w.heap.size+1) (by have:=hz0.out.2.1;omega);have hI0:IV z0 w [] (.slice none 0 0) W3:=⟨Q1,.inl ⟨rfl,rfl,rfl⟩,hbW,Q2.lt,fun _=>rfl,fun p y h=>by simp at h⟩
 have hw3:=hbW.size;have hv3:=Q2.lt;obtain ⟨bi,hbi,hbz,hbs,hbb⟩:=Ei;go_wp2_with fail;refine (wpIn_wide (n:=4)).1 ?_
 refine vk (by decide) (gf:=235) (lb:=#[.pointer (some ⟨w.heap.size+1,0,none⟩)]) rfl (enters_of Tryz.func235 (by kernel_rfl) rfl) hseq hv3 (fun X hX=>Q2.call hX) (fun X hX=>trivial) (fun _=>rfl)
  (fun pre X=>∃v,IV z0 w pre v X) (fun _ _ _=>False) (fun pre X Y ⟨s,h⟩ hb=>⟨s,h.call hb⟩) (fun pre X l o o' ⟨s,h⟩ hl ho hc=>⟨s,h.put (by omega) ho hc⟩) (fun _ _ _ _ h _=>h) (fun _ _ _ _ _ _ h _ _ _=>h) (fun _ _ _=>trivial) (fun _ _ _=>trivial) (fun pre X u ⟨s,h⟩=>⟨s,h.var u⟩) ⟨_,hI0⟩ 5 6 (fun z=>.int .u8 ((z:Int) % 128)) (fun z=>.bool (decide (z<128))) ?assign ?body ?done ?stop
 case assign =>
  intro lp x W K hK;simp only[grE,iy]at hK ⊢
  gi_wp2
  simp only[List.setIfInBounds_toArray,List.set_cons_succ,List.set_cons_zero]at hK;exact hK
 case body =>
  rintro lp pre x W ⟨v,hI⟩ ⟨hx,hx64,hall⟩;obtain ⟨A0,c0,rfl⟩:=hI.row.slc;obtain ⟨v,hvv⟩:∃v,v=Value.slice A0 pre.length c0:=⟨_,rfl⟩
  rw[←hvv]at hI;clear hvv;simp only[grE,iy,List.setIfInBounds_toArray,List.set_cons_succ,List.set_cons_zero];have hgo:=hI.go hall;rw [←hx]at hgo
  have hplen:pre.length<=4:=by
   have h1:=congrArg List.length hgo;have h2:=Sh.CJ 3 z0 (by have:=hz0.out.2.1;omega);rw [List.length_append,show (jU pre).length=pre.length from List.length_map _]at h1;omega
  obtain⟨yb,hyb⟩:∃yb:Int,Kp (yb=if x<128 then (x:Int) % 128 else (x:Int) % 128+128):=⟨_,⟨rfl⟩⟩
  have hor:bits .or .u8 ((x:Int) % 128) 128=(x:Int) % 128+128:=by
   have h:=VD (x % 128) (by omega);rw [show (((x % 128:Nat):Nat):Int)=(x:Int) % 128 by omega]at h;rw [h];omega
  have hsn:Kp (cB (jU pre)++[.int .u8 yb]=cB (jU (pre++[x]))):=⟨by
   rw[jU,jU,List.map_append,jh,hyb.out];by_cases h:x<128
   · simp only[h,if_true,List.map_cons,List.map_nil];rw [show cB [UInt8.ofNat x]=[.int .u8 ((UInt8.ofNat x).toNat:Int)] from rfl,FD (by omega),show (x:Int) % 128=x by omega]
   · simp only[h,if_false,List.map_cons,List.map_nil];rw [show cB [UInt8.ofNat (x % 128+128)]=[.int .u8 ((UInt8.ofNat (x % 128+128)).toNat:Int)] from rfl,FD (by omega)]
     rfl⟩
  have TM:(∀y∈pre++[x],128<=y)->jU (pre++[x])++Sh.vb (Ea z0 (pre++[x]))=Sh.vb z0:=fun ha=>by
   have h128:¬x<128:=by have:=ha x (by simp);omega
   rw[xu,←hgo,Sh.I4 h128,jU,jU,List.map_append,List.map_cons,List.map_nil,if_neg h128,List.append_assoc];rfl
  have LH:∀p y,pre++[x]=p++[y]->y<128->jU (pre++[x])=Sh.vb z0:=fun p y he hy=>by
   obtain⟨-,h2⟩:=List.append_inj' he rfl;obtain rfl:x=y:=by simpa using h2
   rw[←hgo,Sh.zl hy,jU,jU,List.map_append,List.map_cons,List.map_nil,if_pos hy]
  have hbn:=bY W (.cells #[.int .u8 yb] 5);have hI2:=hI.call hbn;have hs1:=iY (g:=W.heap.size) (u:=.int .u8 yb) rfl (Bx.mk W 5 #[.int .u8 yb]);have c4:=hI2.bo.cell 0 (v:=v) rfl;have IG:w.heap.size+2<=(W.alloc (.cells #[.int .u8 yb] 5)).heap.size:=by have:=hI2.lt;omega
  have hvk:(W.alloc (.cells #[.int .u8 yb] 5)).heap[w.heap.size+1]? = W.heap[w.heap.size+1]? := hbn.block _ hI.lt;have hF0:=ou.below (B:=W3.heap.size) hbn
  have fin:∀(v':Value) (W5:World),Below (w.heap.size+2) (W.alloc (.cells #[.int .u8 yb] 5)) W5->ou 0 (W.alloc (.cells #[.int .u8 yb] 5)) W5->aF 5 1 (w.heap.size+2) (pre.length+1) (cB (jU pre)++[.int .u8 yb]) v' W5 ->
   Bx W5 w.heap.size 157 #[v]/\∀a':Act,Nw W3.heap.size (w.heap.size+1) (fun pre X=>∃v,IV z0 w pre v X) (fun _ _ _=>False) (pre++[x]) W .normal a' (W5.setCell ⟨w.heap.size,0,none⟩ v'):=by
   intro v' W5 hb5 hf5 jB;have B5:=hI2.bo.below hb5 (show w.heap.size<w.heap.size+2 by omega);have hbl5:Below w.heap.size w W5:=hI2.bl.trans (hb5.mono (by omega));refine ⟨B5,fun a'=>⟨(hF0.trans ⟨hf5.size,fun b o _=>hf5.keep b o (Nat.zero_le _)⟩).trans (ou.set B5),⟨v',B5.set 0 v',?_,aQ hbl5 (p:=⟨w.heap.size,0,none⟩) (Nat.le_refl _) v',by rw[World.size_setCell];have:=hI2.lt;have:=hf5.size;omega,TM,LH⟩,?_⟩⟩
   · rw[hsn.out,show pre.length+1=(pre++[x]).length by simp]at jB;exact jB.far (by show w.heap.size< _;omega) v'
   · exact (Below.heap_setCell W5 ⟨w.heap.size,0,none⟩ v' _ (by show w.heap.size+1≠w.heap.size;omega)).trans ((hb5.block _ (by omega)).trans hvk)
  have hq:=Kp.mk hI2.row;have hbo:=hI.bo.cell 0 (v:=v) rfl;have Hy:=Kp.mk fin;by_cases hlt:x<128
  · rw[if_pos hlt]at hyb;rw [decide_eq_true hlt];rw [hyb.out]at hq hs1 c4 IG Hy;clear hI hI2 hgo TM LH hsn hF0 hvk hbn hor fin hseq hI0 Q1 Q2 hyb hall hx
    gi_wp2_with (gi_at_builtin;refine fQ _ _ _ (by rfl) ?_)
    refine iJ rfl (.tmp 27) (.tmp 29) 157 5 rfl bi (.int .u8 0) 1 (w.heap.size+2) pre.length 1 (cB (jU pre)) [.int .u8 ((x:Int) % 128)] v (.slice (some ⟨W.heap.size,0,none⟩) 1 1) bT hbi hbz hbs rfl rfl rfl hq.out IG hs1 (by decide) (by unfold maxLen;omega) (by rw[hbb];omega) ?_;intro v' W5 hb5 hf5 jB;obtain ⟨A5,c5,rfl⟩:=jB.slc;obtain ⟨B5,hfin⟩:=Hy.out _ W5 hb5 hf5 jB;have f5:=B5.frozen 0;have d5:=B5.cell 0 (v:=v) rfl;clear hq hs1 c4 IG Hy hb5 hf5 jB B5;go_wp2;exact hfin _
  · rw[if_neg hlt]at hyb;rw [decide_eq_false hlt];rw [hyb.out]at hq hs1 c4 IG Hy;clear hI hI2 hgo TM LH hsn hF0 hvk hbn fin hseq hI0 Q1 Q2 hyb hall hx
    gi_wp2_with (gi_at_builtin;refine fQ _ _ _ (by rfl) ?_)
    refine iJ rfl (.tmp 27) (.tmp 29) 157 5 rfl bi (.int .u8 0) 1 (w.heap.size+2) pre.length 1 (cB (jU pre)) [.int .u8 ((x:Int) % 128+128)] v (.slice (some ⟨W.heap.size,0,none⟩) 1 1) bT hbi hbz hbs rfl rfl rfl hq.out IG hs1 (by decide) (by unfold maxLen;omega) (by rw[hbb];omega) ?_;intro v' W5 hb5 hf5 jB;obtain ⟨A5,c5,rfl⟩:=jB.slc;obtain ⟨B5,hfin⟩:=Hy.out _ W5 hb5 hf5 jB;have f5:=B5.frozen 0;have d5:=B5.cell 0 (v:=v) rfl;clear hq hs1 c4 IG Hy hb5 hf5 jB B5;go_wp2;exact hfin _
 case done =>
  rintro D xs W hD ⟨p,y,rfl,hy,hall⟩ ⟨v,hI⟩ hk;have hfin:=hI.fin p y rfl hy;have hrow:=hI.row;have hel:(p++[y]).length=(jU (p++[y])).length:=(List.length_map _).symm;have h0:0<(jU (p++[y])).length:=by rw[←hel];simp
  rw[hel]at hrow;have hfK:=Kp.mk (hfin.trans hz0.out.2.2.symm);clear hfin hel;generalize jU (p++[y])=q at *;obtain ⟨g7,c7,rfl,hcv⟩:=MW hrow h0;have d4:=hI.bo.cell 0 (v:=.slice (some ⟨g7,0,none⟩) q.length c7) rfl;have hbl:=hI.bl;have Hg:=(Marks.nil w.heap.size w.heap.size W).push (by omega) (Nat.le_refl _) hk;clear hI hrow hseq hI0 Q1 Q2 h0;go_wp2;refine Hg.leave ?_;intro W' hb' hB';exact ⟨_,results_tmp2 rfl _ _ _,by rw[←hfK.out];rfl,hbl.trans hb'⟩
 case stop =>
  rintro D c pre W hD h hk;exact h.elim
def dw (h:Sh.Hn):List Value:=[.int .i64 h.c,.int .i64 h.l,.string ⟨h.s.toArray⟩]
def dD (d:Sh.Dl) (v:Value):Array Value:=#[.int .i64 d.r,.int .i64 d.d,.int .i64 d.t,.int .i64 d.n,v]
def IW (x:Int):Prop:=0<=x/\x<=99999999
structure vW (d:Sh.Dl):Prop where
 kr:IW d.r
 kd:IW d.d
 kt:IW d.t
 kn:IW d.n
structure ql (h:Sh.Hn):Prop where
 c:IW h.c
 l:IW h.l
 s:h.s.length<=1000
theorem OU (n:Int) (w:World) (hn:IW n):bP 173 #[.int .i64 n] w (.tuple #[.string ⟨(Sh.dV n).toArray⟩,.int .i64 0]):=by
 obtain⟨k,rfl⟩:=Int.eq_ofNat_of_zero_le hn.1;exact Gf k w (by have:=hn.2;omega)
theorem SK (n:Int) (w:World) (hn:IW n):bP 139 #[.int .i64 n] w (.tuple #[.string ⟨(Sh.dV n).toArray⟩,.int .i64 0]):=by
 obtain⟨k,rfl⟩:=Int.eq_ofNat_of_zero_le hn.1;exact JC k w (by have:=hn.2;omega)
def bf (hs:List Sh.Hn):Nat->List UInt8
 | 0=>[]
 | k+1=>(hs[k]?.map (·.s)).getD []
def nums (d:Sh.Dl) (i:Nat) (h:Sh.Hn):List Int:=[7,d.r,d.d,d.t,d.n,i,h.c,h.l]
theorem yg {n:Int} (h:IW n):(Sh.dV n).length<=4:=Sh.JB h.2
theorem yu {d:Sh.Dl} {i:Nat} {h:Sh.Hn} (hd:vW d) (hh:ql h) (hi:i<=100):∀x∈nums d i h,IW x:=by
 intro x hx;simp only[nums,List.mem_cons,List.not_mem_nil,or_false]at hx
 rcases hx with rfl|rfl|rfl|rfl|rfl|rfl|rfl|rfl
 · exact⟨by decide,by decide⟩
 · exact hd.kr
 · exact hd.kd
 · exact hd.kt
 · exact hd.kn
 · exact⟨by omega,by omega⟩
 · exact hh.c
 · exact hh.l
theorem mP:∀(l:List Int),(∀x∈l,IW x)->(l.flatMap Sh.dV).length<=4*l.length
 | [],_=>by simp
 | a :: l,h=>by
  rw[List.flatMap_cons,List.length_append,List.length_cons];have h1:=yg (h a (by simp));have h2:=mP l fun x hx=>h x (by simp[hx])
  omega
theorem Qa (d:Sh.Dl) (i:Nat) (h:Sh.Hn) (b:List UInt8):Sh.cont d i h.c h.l b=(nums d i h).flatMap Sh.dV++b:=rfl
theorem oO (d:Sh.Dl) (hs:List Sh.Hn) (i:Nat) (h:Sh.Hn) (A:Option Addr) (cap:Nat) (w:World) (hA:At 3 dw w w.heap.size A hs) (hn:hs.length<=cap) (hl:hs.length<=100) (hi:hs[i]? = some h) (hd:vW d) (hk:∀x∈hs,ql x) :
 bP 119 #[.agg (dD d (.slice A hs.length cap)),.int .i64 i] w (.string ⟨(Sh.cont d i h.c h.l (bf hs i)).toArray⟩):=by
 have hlt:i<hs.length:=(List.getElem?_eq_some_iff.1 hi).1;obtain ⟨p,off,rfl,hp,hcells⟩:=hA (by omega);have hcell:∀w',Below w.heap.size w w'->∀(j:Nat) (u:Value),(dw h)[j]? = some u->w'.cell? ⟨p,off+i*3+j,none⟩=some u:=fun w' hw j u hu=>(hw.cell (p:=⟨p,off+i*3+j,none⟩) hp).trans (hcells i h hi j u hu)
 have hc0:∀w',Below w.heap.size w w'->w'.cell? ⟨p,off+i*3,none⟩=some (.int .i64 h.c):=fun w' hw=>by
  have h9:=hcell w' hw 0 _ rfl
  rwa [Nat.add_zero]at h9
 have hbef:∀w',Below w.heap.size w w'->∀k g,hs[k]? = some g->w'.cell? ⟨p,off+k*3+2,none⟩=some (.string ⟨g.s.toArray⟩):=fun w' hw k g hg=>(hw.cell (p:=⟨p,off+k*3+2,none⟩) hp).trans (hcells k g hg 2 _ rfl)
 have BA:=Bx.mk w 32 (dD d (.slice (some ⟨p,off,none⟩) hs.length cap));have hb:=bY w (.cells (dD d (.slice (some ⟨p,off,none⟩) hs.length cap)) 32);have hns:=yu hd (hk h (List.mem_of_getElem? hi)) (show i<=100 by omega);have hcl:Kp (Sh.cont d i h.c h.l (bf hs i)=(nums d i h).flatMap Sh.dV++bf hs i):=⟨rfl⟩
 have hnl:(nums d i h).length=8:=rfl
 unfold dD at BA hb ⊢
 obtain⟨W0,hW0⟩:∃W0,W0=w.alloc (.cells #[.int .i64 d.r,.int .i64 d.d,.int .i64 d.t,.int .i64 d.n,.slice (some ⟨p,off,none⟩) hs.length cap] 32):=⟨_,rfl⟩
 rw[←hW0]at BA hb;have Ag:=Kp.mk hW0;clear hW0 hA hcells
 go_enter Tryz.func119,Tryz.ntmps119
 go_wp2_with fail;rw [←Ag.out];clear Ag;refine RS.au (RS.dX (W0.heap.size) 4 #[] #[]) [] [RS.ak (.pointer (some ⟨w.heap.size,0,none⟩)),RS.ak (.pointer (some ⟨w.heap.size,0,none⟩)),RS.ak (.int .i64 (d.r)),RS.ak (.pointer (some ⟨w.heap.size,0,none⟩)),RS.ak (.pointer (some ⟨w.heap.size,1,none⟩)),RS.ak (.int .i64 (d.d)),RS.ak (.pointer (some ⟨w.heap.size,0,none⟩)),RS.ak (.pointer (some ⟨w.heap.size,2,none⟩)),RS.ak (.int .i64 (d.t)),RS.ak (.pointer (some ⟨w.heap.size,0,none⟩)),RS.ak (.pointer (some ⟨w.heap.size,3,none⟩)),RS.ak (.int .i64 (d.n)),RS.ak (.int .i64 ((i:Int))),RS.ak (.pointer (some ⟨w.heap.size,4,none⟩)),RS.ak (.slice (some ⟨p,off,none⟩) hs.length cap),RS.ak (.int .i64 ((i:Int))),RS.ak (.pointer (some ⟨p,off+i*3,none⟩)),RS.ak (.pointer (some ⟨p,off+i*3,none⟩)),RS.ak (.int .i64 (h.c)),RS.ak (.pointer (some ⟨w.heap.size,4,none⟩)),RS.ak (.slice (some ⟨p,off,none⟩) hs.length cap),RS.ak (.int .i64 ((i:Int))),RS.ak (.pointer (some ⟨p,off+i*3,none⟩)),RS.ak (.pointer (some ⟨p,off+i*3+1,none⟩)),RS.ak (.int .i64 (h.l)),RS.Bz (W0.heap.size) 3 8 #[.int .i64 7,.int .i64 d.r,.int .i64 d.d,.int .i64 d.t,.int .i64 d.n,.int .i64 i,.int .i64 h.c,.int .i64 h.l]] 26 65 (by kernel_rfl) rfl rfl (by kernel_rfl) (by kernel_rfl) ?_ ?_ ?_
 · simp only[RS.aY]
   and_intros <;> first|exact RS.aI _|exact RS.d_ (by first|(left;decide)|(right;decide)|(right;simp))|trivial
 · simp only[RS.aT,List.take,List.length];refine ⟨?_,?_,?_,?_,?_,?_,?_,?_,?_,?_,?_,?_,?_,?_,?_,?_,?_,?_,?_,?_,?_,?_,?_,?_,?_,?_,trivial⟩;all_goals (intro vs w2 hb2 hd;simp only[RS.aN,Act.put,List.nil_append,List.cons_append,List.setIfInBounds_toArray,List.set_cons_succ,List.set_cons_zero,Nat.reduceAdd])
   · clear hd;go_wp2;exact aO
   · have e0:vs 0=_:=hd 0 rfl;clear hd;rw [e0];go_wp2;exact aO
   · have e0:vs 1=_:=hd 1 rfl;have q0:=(BA.call hb2.bl).cell 0 (v:=.int .i64 (d.r)) rfl;clear hd;rw [e0];go_wp2;exact aO
   · clear hd;go_wp2;exact aO
   · have e0:vs 3=_:=hd 3 rfl;clear hd;rw [e0];go_wp2;exact aO
   · have e0:vs 4=_:=hd 4 rfl;have q0:=(BA.call hb2.bl).cell 1 (v:=.int .i64 (d.d)) rfl;clear hd;rw [e0];go_wp2;exact aO
   · clear hd;go_wp2;exact aO
   · have e0:vs 6=_:=hd 6 rfl;clear hd;rw [e0];go_wp2;exact aO
   · have e0:vs 7=_:=hd 7 rfl;have q0:=(BA.call hb2.bl).cell 2 (v:=.int .i64 (d.t)) rfl;clear hd;rw [e0];go_wp2;exact aO
   · clear hd;go_wp2;exact aO
   · have e0:vs 9=_:=hd 9 rfl;clear hd;rw [e0];go_wp2;exact aO
   · have e0:vs 10=_:=hd 10 rfl;have q0:=(BA.call hb2.bl).cell 3 (v:=.int .i64 (d.n)) rfl;clear hd;rw [e0];go_wp2;exact aO
   · clear hd;go_wp2;exact aO
   · clear hd;go_wp2;exact aO
   · have e0:vs 13=_:=hd 13 rfl;have q0:=(BA.call hb2.bl).cell 4 (v:=.slice (some ⟨p,off,none⟩) hs.length cap) rfl;clear hd;rw [e0];go_wp2;exact aO
   · clear hd;go_wp2;exact aO
   · have e0:vs 14=_:=hd 14 rfl;have e1:vs 15=_:=hd 15 rfl;clear hd;rw [e0,e1];go_wp2;exact aO
   · have e0:vs 16=_:=hd 16 rfl;clear hd;rw [e0];go_wp2;exact aO
   · have e0:vs 17=_:=hd 17 rfl;have q0:=hc0 w2 (ah hb hb2.bl);clear hd;rw [e0];go_wp2;exact aO
   · clear hd;go_wp2;exact aO
   · have e0:vs 19=_:=hd 19 rfl;have q0:=(BA.call hb2.bl).cell 4 (v:=.slice (some ⟨p,off,none⟩) hs.length cap) rfl;clear hd;rw [e0];go_wp2;exact aO
   · clear hd;go_wp2;exact aO
   · have e0:vs 20=_:=hd 20 rfl;have e1:vs 21=_:=hd 21 rfl;clear hd;rw [e0,e1];go_wp2;exact aO
   · have e0:vs 22=_:=hd 22 rfl;clear hd;rw [e0];go_wp2;exact aO
   · have e0:vs 23=_:=hd 23 rfl;have q0:=hcell w2 (ah hb hb2.bl) 1 _ rfl;clear hd;rw [e0];go_wp2;exact aO
   · have e0:vs 2=_:=hd 2 rfl;have e1:vs 5=_:=hd 5 rfl;have e2:vs 8=_:=hd 8 rfl;have e3:vs 11=_:=hd 11 rfl;have e4:vs 12=_:=hd 12 rfl;have e5:vs 18=_:=hd 18 rfl;have e6:vs 24=_:=hd 24 rfl;have hK:=hb2.slice (Nat.le_refl _) 3 8 #[.int .i64 7,.int .i64 d.r,.int .i64 d.d,.int .i64 d.t,.int .i64 d.n,.int .i64 i,.int .i64 h.c,.int .i64 h.l] undef;clear hd hb2;rw [e0,e1,e2,e3,e4,e5,e6];go_wp2;first|exact hK|exact hK.2|exact⟨hK.1,hK.2⟩
 · intro vs wa hba hR2;simp only[RS.bV,RS.ak]at hR2;obtain ⟨e0,e1,e2,e3,e4,e5,e6,e7,e8,e9,e10,e11,e12,e13,e14,e15,e16,e17,e18,e19,e20,e21,e22,e23,e24,e25,-⟩:=hR2;obtain ⟨gL25,Ro,WW,Yv⟩:=e25;simp only[List.drop,List.take,List.map,RS.aN,Act.put,List.setIfInBounds_toArray,List.set_cons_succ,List.set_cons_zero,Nat.reduceAdd];rw [e0,e1,e2,e3,e4,e5,e6,e7,e8,e9,e10,e11,e12,e13,e14,e15,e16,e17,e18,e19,e20,e21,e22,e23,e24,Ro];clear e0 e1 e2 e3 e4 e5 e6 e7 e8 e9 e10 e11 e12 e13 e14 e15 e16 e17 e18 e19 e20 e21 e22 e23 e24 Ro;have BN:Bx wa gL25 3 ((nums d i h).map fun x=>Value.int .i64 x).toArray:=Yv;replace hb:=ah hb hba.bl;have RZ:=BA.call hba.bl;have h0:Kp ((((nums d i h).take 0).flatMap Sh.dV)=[]):=⟨rfl⟩
   have hbw:=aP wa;have hi0:=Kp.mk hi;clear hba Yv BA hcell hc0 WW;generalize nums d i h=ns at *;go_wp2_with fail
   go_loopw [6,7] (fun s6 s7 wr=>∃(k:Nat) (q:List UInt8),k<=8/\s7=.int .i64 k/\s6=.string ⟨q.toArray⟩/\Kp (((ns.take k).flatMap Sh.dV)=q)/\Below wa.heap.size wa wr) (fun s6 s7 _=>8-(intOf s7).toNat)
   case atStart=>exact⟨0,[],by omega,rfl,rfl,h0,hbw⟩
   case round =>
    clear h0 hbw;obtain ⟨k,q,hk8,rfl,rfl,hq,hbr⟩:=hrel;by_cases Lj:k<8
    · obtain⟨x,hx⟩:∃x,ns[k]? = some x:=⟨_,List.getElem?_eq_getElem (by omega)⟩
      have hxn:=hns x (List.mem_of_getElem? hx);have cx:=(BN.call hbr).cell k (v:=.int .i64 x) (by simp[hx]);have hC:=OU x wr hxn;have ZF:Kp ((ns.take (k+1)).flatMap Sh.dV=q++Sh.dV x):=⟨by rw[List.take_add_one,hx,List.flatMap_append,hq.out];simp⟩
      have hq4:q.length<=4*8:=by
       have h1:=mP (ns.take k) fun y hy=>hns y (List.mem_of_mem_take hy)
       rw[hq.out,List.length_take]at h1;omega
      have hx4:=yg hxn;have hlim:¬ 9223372036854775807<q.length+(Sh.dV x).length:=by omega
      clear hq hx hxn;go_wp2_with fail;refine hC.mono ?_;rintro _ w5 ⟨rfl,hb5⟩;replace hbr:=ah hbr hb5;clear hC hb5 cx;go_wp2;exact ⟨⟨k+1,_,by omega,by go_num,rfl,ZF,hbr⟩,by simp[intOf];omega⟩
    · have hk9:k=8:=by omega
      have Tt:Kp (ns.flatMap Sh.dV=q):=⟨by rw[←hq.out,List.take_of_length_le (by omega)]⟩
      have hq4:q.length<=4*8:=by
       have h1:=mP ns hns;rw [Tt.out]at h1;omega
      replace hb:=ah hb hbr;have BA3:=RZ.call hbr;have b4:=BA3.cell 4 (v:=.slice (some ⟨p,off,none⟩) hs.length cap) rfl;clear hq hk9 BN RZ hbr hns hi
      cases i with
      | zero =>
       have hfin:Kp (Sh.cont d ((0:Nat):Int) h.c h.l (bf hs 0)=q):=⟨by rw[hcl.out,Tt.out];exact List.append_nil _⟩
       go_wp2;go_ret;exact ⟨by rw[hfin.out];rfl,hb⟩
      | succ j =>
       have hj:hs[j]? = some hs[j]:=List.getElem?_eq_getElem (by omega);have hsl:=(hk hs[j] (List.getElem_mem _)).s;have cb:=hbef wr hb j _ hj;have hfin:Kp (Sh.cont d (j+1:Nat) h.c h.l (bf hs (j+1))=q++(hs[j]).s):=⟨by rw[hcl.out,Tt.out,bf,hj];rfl⟩
       have hlim:¬ 9223372036854775807<q.length+(hs[j]).s.length:=by omega
       have hcast:((j+1:Nat):Int)-1=(j:Int):=by omega
       generalize hs[j]=hj9 at *;clear hbef hj hcl;go_wp2;go_ret;exact ⟨by rw[hfin.out];rfl,hb⟩
end Go.Proofs.YtohgjenaclfegaaGreatDoor

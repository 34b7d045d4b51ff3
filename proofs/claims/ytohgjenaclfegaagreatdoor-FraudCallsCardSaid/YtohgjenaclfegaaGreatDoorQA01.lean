import Derived.Test.YtohgjenaclfegaaGreatDoorQA00
import Derived.Laws.BytesString
import Derived.Test.YtohgjenaclfegaaGreatDoorQK02
import Derived.RangeFuncFrom
import Derived.LoopIn
import Derived.Lib.ConvBytes
set_option linter.unusedVariables false
set_option linter.unusedSimpArgs false
set_option maxRecDepth 100000
set_option maxHeartbeats 8000000
namespace Go.Proofs.YtohgjenaclfegaaGreatDoor
open Go.RowKit
def nR (x:Int):List Value:=[.int .u32 x]
theorem wordI:∃i,Tryz.prog.info? 310=some i/\i.zero=some (.int .u32 0)/\i.size=1/\i.bytes=4:=by
 have h:(Tryz.prog.info? 310).map (fun i=>(i.zero,i.size,i.bytes))=some (some (.int .u32 0),1,4):=by kernel_rfl
 exact info_parts h
theorem zG (x:Int) (n:Nat) (w:World) (hn:n∈GY) :
 aT 298 #[.int .u32 x,.int .i64 n] w (.int .u32 (Sh.qF x n)) :=
 (Eh x n w hn).mono fun _ _ ⟨he,m,hm⟩=>⟨he,hm ▸ below_drewN (Below.refl _ _) m⟩
theorem IG (w:World):Calls Tryz.prog 299 #[] w fun e w'=>e=.returned (.slice (some ⟨w.heap.size,0,none⟩) 64 64)/\w'=w.alloc (.cells (Sh.uC Sh.kc) 310):=by
 go_enter Tryz.func299,Tryz.ntmps299
 go_wp2;go_ret;exact ⟨rfl,rfl⟩
theorem aI.gets {w:World} {B:Nat} {l:List Int} {n:Nat} {v:Value} (h:aI 310 1 B n (l.flatMap nR) v w) (hn:l.length=n) (h0:0<n) :
 ∃g cap,v=.slice (some ⟨g,0,none⟩) n cap/\B<=g/\g<w.heap.size/\n<=cap/\cap<=maxLen/\∀w',Below w.heap.size w w'->∀(j:Nat) (x:Int),l[j]? = some x->w'.cell? ⟨g,j,none⟩=some (.int .u32 x):=by
 rcases h with ⟨-,h,-⟩|⟨cap,⟨g,cells,rfl,hg,hnc,hbx,hcs,hfl⟩,hm⟩
 · omega
 · refine⟨g,cap,rfl,hg,hbx.lt,hnc,hm,fun w' hb j x hj=>?_⟩;have h2:=flat_get (f:=nR) (size:=1) (fun _=>rfl) l j 0 x hj (by omega);rw [Nat.mul_one,Nat.add_zero]at h2;rw [←hfl,List.getElem?_take]at h2
   split at h2
   · exact (hbx.call hb).cell _ (by simpa [nR] using h2)
   · cases h2
theorem xM {w:World} {g:Nat} {x:Int} (h:Bx w g 310 #[.int .u32 x]):Src Tryz.prog 1 356 (.slice (some ⟨g,0,none⟩) 1 1) 1 (nR x) w :=
 dP.src (P:=Tryz.prog) (size:=1) (B:=0) (cap:=1) (e:=310) (t:=356) (fun u hu=>by simp only[nR,List.mem_cons,List.not_mem_nil,or_false]at hu;subst hu;rfl) g_ ⟨g,_,rfl,Nat.zero_le _,Nat.le_refl _,h,rfl,rfl⟩
theorem aI.mono {e:TypeId} {size B B' n:Nat} {flat:List Value} {v:Value} {w:World} (h:aI e size B n flat v w) (hB:B'<=B):aI e size B' n flat v w:=by
 rcases h with h|⟨cap,⟨g,cells,h1,h2,h3⟩,hm⟩
 · exact .inl h
 · exact .inr ⟨cap,⟨g,cells,h1,Nat.le_trans hB h2,h3⟩,hm⟩
theorem Nr (h:Sh.S8) (b:List UInt8) (Ah Ab:Option Addr) (ch cb:Nat) (w:World) (hH:At 1 nR w w.heap.size Ah h.l) (hA:At 1 Uo w w.heap.size Ab b) (hch:8<=ch) (hcb:64<=cb) (hl:b.length=64) :
 Calls Tryz.prog 273 #[.slice Ah 8 ch,.slice Ab 64 cb] w fun e w'=>(∃v,e=.returned v/\aI 310 1 w.heap.size 8 ((Sh.comp h b).l.flatMap nR) v w')/\Below w.heap.size w w':=by
 obtain⟨p,off,rfl,hp,hby⟩:=hA.Ur (Nat.le_refl _) (by omega);obtain ⟨bi,hbi,hbz,hbs,hbb⟩:=wordI;have hr0:aI 310 1 w.heap.size 0 (((Sh.wW b).take 0).flatMap nR) (.slice none 0 0) w:=.inl ⟨rfl,rfl,rfl⟩;have hb0:=bH w
 go_enter Tryz.func273,Tryz.ntmps273
 go_wp2_with fail
 go_loopw [5,6] (fun s5 s6 wr=>∃k:Nat,k<=16/\s6=.int .i64 k/\aI 310 1 w.heap.size k (((Sh.wW b).take k).flatMap nR) s5 wr/\Below w.heap.size w wr) (fun s5 s6 _=>16-(intOf s6).toNat)
 case atStart=>exact⟨0,by omega,rfl,hr0,hb0⟩
 case round =>
  clear hr0 hb0;obtain ⟨k,hk,rfl,hrow,hb⟩:=hrel;by_cases hlt:k<16
  · obtain⟨v5,hv5⟩:∃v5,v5=u5:=⟨_,rfl⟩
    obtain⟨x,hx⟩:∃x,Kp (x=Sh.Ur (Sh.bD b (4*k)) (Sh.bD b (4*k+1)) (Sh.bD b (4*k+2)) (Sh.bD b (4*k+3))):=⟨_,⟨rfl⟩⟩
    have hxe:Kp (bits .or .u32 (bits .or .u32 (bits .or .u32 (Sh.bD b (4*k) % 4294967296*16777216 % 4294967296) (Sh.bD b (4*k+1) % 4294967296*65536 % 4294967296)) (Sh.bD b (4*k+2) % 4294967296*256 % 4294967296)) (Sh.bD b (4*k+3) % 4294967296)=x):=⟨hx.out.symm⟩
    have hnx:Kp (((Sh.wW b).take k).flatMap nR++nR x=((Sh.wW b).take (k+1)).flatMap nR):=⟨by
     rw[List.take_add_one,Sh.Jm hlt,←hx.out,List.flatMap_append];simp⟩
    rw[←hv5]at hrow ⊢;clear hv5 hx;go_wp2_with fail;refine RS.au (RS.gu (wr.heap.size) 4 #[] #[]) [] [RS.ak (v5),RS.ak (.slice (some ⟨p,off,none⟩) 64 cb),RS.ak (.int .i64 k),RS.ak (.int .i64 (4*(k:Int))),RS.ak (.pointer (some ⟨p,off+4*k,none⟩)),RS.ak (.int .u8 (Sh.bD b (4*k))),RS.ak (.int .u32 (Sh.bD b (4*k) % 4294967296)),RS.ak (.int .u32 (Sh.bD b (4*k) % 4294967296*16777216 % 4294967296)),RS.ak (.slice (some ⟨p,off,none⟩) 64 cb),RS.ak (.int .i64 k),RS.ak (.int .i64 (4*(k:Int))),RS.ak (.int .i64 (4*(k:Int)+1)),RS.ak (.pointer (some ⟨p,off+(4*k+1),none⟩)),RS.ak (.int .u8 (Sh.bD b (4*k+1))),RS.ak (.int .u32 (Sh.bD b (4*k+1) % 4294967296)),RS.ak (.int .u32 (Sh.bD b (4*k+1) % 4294967296*65536 % 4294967296)),RS.ak (.int .u32 (bits .or .u32 (Sh.bD b (4*k) % 4294967296*16777216 % 4294967296) (Sh.bD b (4*k+1) % 4294967296*65536 % 4294967296))),RS.ak (.slice (some ⟨p,off,none⟩) 64 cb),RS.ak (.int .i64 k),RS.ak (.int .i64 (4*(k:Int))),RS.ak (.int .i64 (4*(k:Int)+2)),RS.ak (.pointer (some ⟨p,off+(4*k+2),none⟩)),RS.ak (.int .u8 (Sh.bD b (4*k+2))),RS.ak (.int .u32 (Sh.bD b (4*k+2) % 4294967296)),RS.ak (.int .u32 (Sh.bD b (4*k+2) % 4294967296*256 % 4294967296)),RS.ak (.int .u32 (bits .or .u32 (bits .or .u32 (Sh.bD b (4*k) % 4294967296*16777216 % 4294967296) (Sh.bD b (4*k+1) % 4294967296*65536 % 4294967296)) (Sh.bD b (4*k+2) % 4294967296*256 % 4294967296))),RS.ak (.slice (some ⟨p,off,none⟩) 64 cb),RS.ak (.int .i64 k),RS.ak (.int .i64 (4*(k:Int))),RS.ak (.int .i64 (4*(k:Int)+3)),RS.ak (.pointer (some ⟨p,off+(4*k+3),none⟩)),RS.ak (.int .u8 (Sh.bD b (4*k+3))),RS.ak (.int .u32 (Sh.bD b (4*k+3) % 4294967296)),RS.ak (.int .u32 x),RS.Dy (wr.heap.size) 310 1 #[.int .u32 x]] 35 238 (by kernel_rfl) rfl rfl (by kernel_rfl) (by kernel_rfl) ?_ ?_ ?_
    · simp only[RS.aY]
      and_intros <;> first|exact RS.aB _|exact RS.fB (by first|(left;decide)|(right;decide)|(right;simp))|trivial
    · simp only[RS.aS,List.take,List.length];refine ⟨?_,?_,?_,?_,?_,?_,?_,?_,?_,?_,?_,?_,?_,?_,?_,?_,?_,?_,?_,?_,?_,?_,?_,?_,?_,?_,?_,?_,?_,?_,?_,?_,?_,?_,?_,trivial⟩;all_goals (intro vs w2 hb2 hd;simp only[RS.aJ,Act.put,List.nil_append,List.cons_append,List.setIfInBounds_toArray,List.set_cons_succ,List.set_cons_zero,Nat.reduceAdd])
      · clear hd;go_wp2;exact aQ
      · clear hd;go_wp2;exact aQ
      · clear hd;go_wp2;exact aQ
      · have e0:vs 2=_:=hd 2 rfl;clear hd;rw [e0];go_wp2;exact aQ
      · have e0:vs 1=_:=hd 1 rfl;have e1:vs 3=_:=hd 3 rfl;clear hd;rw [e0,e1];go_wp2;exact aQ
      · have e0:vs 4=_:=hd 4 rfl;have q0:=hby w2 (4*k) (ah hb hb2.bl) (by omega);clear hd;rw [e0];go_wp2;exact aQ
      · have e0:vs 5=_:=hd 5 rfl;clear hd;rw [e0];go_wp2;exact aQ
      · have e0:vs 6=_:=hd 6 rfl;clear hd;rw [e0];go_wp2;exact aQ
      · clear hd;go_wp2;exact aQ
      · clear hd;go_wp2;exact aQ
      · have e0:vs 9=_:=hd 9 rfl;clear hd;rw [e0];go_wp2;exact aQ
      · have e0:vs 10=_:=hd 10 rfl;clear hd;rw [e0];go_wp2;exact aQ
      · have e0:vs 8=_:=hd 8 rfl;have e1:vs 11=_:=hd 11 rfl;clear hd;rw [e0,e1];go_wp2;exact aQ
      · have e0:vs 12=_:=hd 12 rfl;have q0:=hby w2 (4*k+1) (ah hb hb2.bl) (by omega);clear hd;rw [e0];go_wp2;exact aQ
      · have e0:vs 13=_:=hd 13 rfl;clear hd;rw [e0];go_wp2;exact aQ
      · have e0:vs 14=_:=hd 14 rfl;clear hd;rw [e0];go_wp2;exact aQ
      · have e0:vs 7=_:=hd 7 rfl;have e1:vs 15=_:=hd 15 rfl;clear hd;rw [e0,e1];go_wp2;exact aQ
      · clear hd;go_wp2;exact aQ
      · clear hd;go_wp2;exact aQ
      · have e0:vs 18=_:=hd 18 rfl;clear hd;rw [e0];go_wp2;exact aQ
      · have e0:vs 19=_:=hd 19 rfl;clear hd;rw [e0];go_wp2;exact aQ
      · have e0:vs 17=_:=hd 17 rfl;have e1:vs 20=_:=hd 20 rfl;clear hd;rw [e0,e1];go_wp2;exact aQ
      · have e0:vs 21=_:=hd 21 rfl;have q0:=hby w2 (4*k+2) (ah hb hb2.bl) (by omega);clear hd;rw [e0];go_wp2;exact aQ
      · have e0:vs 22=_:=hd 22 rfl;clear hd;rw [e0];go_wp2;exact aQ
      · have e0:vs 23=_:=hd 23 rfl;clear hd;rw [e0];go_wp2;exact aQ
      · have e0:vs 16=_:=hd 16 rfl;have e1:vs 24=_:=hd 24 rfl;clear hd;rw [e0,e1];go_wp2;exact aQ
      · clear hd;go_wp2;exact aQ
      · clear hd;go_wp2;exact aQ
      · have e0:vs 27=_:=hd 27 rfl;clear hd;rw [e0];go_wp2;exact aQ
      · have e0:vs 28=_:=hd 28 rfl;clear hd;rw [e0];go_wp2;exact aQ
      · have e0:vs 26=_:=hd 26 rfl;have e1:vs 29=_:=hd 29 rfl;clear hd;rw [e0,e1];go_wp2;exact aQ
      · have e0:vs 30=_:=hd 30 rfl;have q0:=hby w2 (4*k+3) (ah hb hb2.bl) (by omega);clear hd;rw [e0];go_wp2;exact aQ
      · have e0:vs 31=_:=hd 31 rfl;clear hd;rw [e0];go_wp2;exact aQ
      · have e0:vs 25=_:=hd 25 rfl;have e1:vs 32=_:=hd 32 rfl;clear hd;rw [e0,e1];go_wp2;first|exact⟨RS.KZ.rf _ _ _ _ _,congrArg (Value.int .u32) hxe.out⟩|exact congrArg (Value.int .u32) hxe.out|exact⟨RS.KZ.rf _ _ _ _ _,rfl⟩|rfl|exact⟨RS.KZ.rf _ _ _ _ _,by simp[RS.ak]⟩|exact RS.KZ.rf _ _ _ _ _|(refine ⟨RS.KZ.rf _ _ _ _ _,?_⟩;simp only[RS.ak,Value.int.injEq,true_and];omega)|(simp [RS.ak])
      · have e0:vs 33=_:=hd 33 rfl;have hK:=hb2.slice (Nat.le_refl _) 310 1 #[.int .u32 x] undef;clear hd hb2;rw [e0];go_wp2;first|exact hK|exact hK.2|exact⟨hK.1,hK.2⟩
    · intro vs wa hba hR2;simp only[RS.bP,RS.ak]at hR2;obtain ⟨e0,e1,e2,e3,e4,e5,e6,e7,e8,e9,e10,e11,e12,e13,e14,e15,e16,e17,e18,e19,e20,e21,e22,e23,e24,e25,e26,e27,e28,e29,e30,e31,e32,e33,e34,-⟩:=hR2;obtain ⟨gL34,XK,hgL34,BL34⟩:=e34;simp only[List.drop,List.take,List.map,RS.aJ,Act.put,List.setIfInBounds_toArray,List.set_cons_succ,List.set_cons_zero,Nat.reduceAdd];rw [e0,e1,e2,e3,e4,e5,e6,e7,e8,e9,e10,e11,e12,e13,e14,e15,e16,e17,e18,e19,e20,e21,e22,e23,e24,e25,e26,e27,e28,e29,e30,e31,e32,e33,XK];clear e0 e1 e2 e3 e4 e5 e6 e7 e8 e9 e10 e11 e12 e13 e14 e15 e16 e17 e18 e19 e20 e21 e22 e23 e24 e25 e26 e27 e28 e29 e30 e31 e32 e33 XK;have hb5:=ah hb hba.bl;refine aG rfl (.tmp 23) (.tmp 57) 356 310 rfl bi (.int .u32 0) 1 w.heap.size k 1 (((Sh.wW b).take k).flatMap nR) (nR x) v5 (.slice (some ⟨gL34,0,none⟩) 1 1) g_ hbi hbz hbs rfl rfl rfl (aU _ _ _ _ _ _ _ _ hrow hba.bl) hb5.size (xM BL34) (by decide) (by unfold maxLen;omega) (by rw[hbb];omega) ?_;intro v7 w7 hb7 bV;rw [hnx.out]at bV;replace hb7:=hb5.trans hb7;clear hba hb5 BL34 hgL34 hrow hxe hnx;go_wp2;exact ⟨⟨k+1,by omega,by go_num,bV,hb7⟩,by simp[intOf];omega⟩
  · have Zc:k=16:=by omega
    rw[List.take_of_length_le (by rw[Sh.kH,Zc];exact Nat.le_refl _),Zc]at hrow;clear Zc;have hext:Kp (Sh.ext (48-0) (Sh.wW b)=Sh.Ld b):=⟨rfl⟩
    have hwl:(Sh.wW b).length=0+16:=Sh.kH b;generalize Sh.wW b=l0 at *;go_wp2_with fail
    go_loopw [5,7] (fun s5 s7 wr=>∃(m:Nat) (l:List Int),m<=48/\s7=.int .i64 ((m+16:Nat):Int)/\l.length=m+16/\Kp (Sh.ext (48-m) l=Sh.Ld b)/\aI 310 1 w.heap.size (m+16) (l.flatMap nR) s5 wr/\Below w.heap.size w wr) (fun s5 s7 _=>64-(intOf s7).toNat)
    case atStart=>exact⟨0,l0,by omega,rfl,hwl,hext,hrow,hb⟩
    case round =>
     clear hext hrow hb hwl;obtain ⟨m,l,hm,rfl,hll,hext,hrow,hb⟩:=hrel;obtain ⟨gw,cw,rfl,hgw,hgl,hnw,hcw,hwg⟩:=hrow.gets hll (by omega);by_cases hlt:m<48
     · have hg:∀j (h:j<l.length),l[j]? = some l[j]:=fun j h=>List.getElem?_eq_getElem h
       have ha16:=hg m (by omega);have ha15:=hg (m+1) (by omega);have ha7:=hg (m+9) (by omega);have ha2:=hg (m+14) (by omega);have hx:Kp (Sh.nxt l=Sh.W (Sh.W (Sh.W (l[m]+Sh.s0 l[m+1])+l[m+9])+Sh.s1 l[m+14])):=⟨Sh.PS hll (by omega)⟩
       generalize l[m]=a16 at *;generalize l[m+1]=Dw at *;generalize l[m+9]=a7 at *;generalize l[m+14]=a2 at *;obtain ⟨x,hxn⟩:∃x,Kp (Sh.nxt l=x):=⟨_,⟨rfl⟩⟩
       obtain⟨s8,hs8⟩:∃s,Kp (Sh.s0 Dw=s):=⟨_,⟨rfl⟩⟩
       obtain⟨s9,hs9⟩:∃s,Kp (Sh.s1 a2=s):=⟨_,⟨rfl⟩⟩
       have hxe:Kp ((((a16+s8) % 4294967296+a7) % 4294967296+s9) % 4294967296=x):=⟨by rw[←hxn.out,hx.out,hs8.out,hs9.out];rfl⟩
       have QO:Kp (Sh.ext (48-(m+1)) (l++[x])=Sh.Ld b):=⟨by
        rw[←hxn.out,←hext.out,show 48-m=48-(m+1)+1 by omega];rfl⟩
       have hl':(l++[x]).length=m+1+16:=by simp only[List.length_append,List.length_singleton];omega
       have hfl:l.flatMap nR++nR x=(l++[x]).flatMap nR:=by rw[List.flatMap_append];simp
       have c15:=fun d os=>hwg (Sort.grow (redrawn wr d) os) (below_regrown wr d os) (m+1) Dw ha15
       have c2:=fun d os=>hwg (Sort.grow (redrawn wr d) os) (below_regrown wr d os) (m+14) a2 ha2
       have k7:=fun d os=>zG Dw 7 (Sort.grow (redrawn wr d) os) (by decide)
       have k18:=fun d os=>zG Dw 18 (Sort.grow (redrawn wr d) os) (by decide)
       have hs8':bits .xor .u32 (bits .xor .u32 (Sh.qF Dw 7) (Sh.qF Dw 18)) (Dw / 8)=s8:=hs8.out;have hs9':bits .xor .u32 (bits .xor .u32 (Sh.qF a2 17) (Sh.qF a2 19)) (a2 / 1024)=s9:=hs9.out;clear hg hx hxn hs8 hs9 hext;go_wp2_with fail;refine wp_region_quiet_below (by kernel_rfl) (by kernel_rfl) ?_
       repeat (go_big_quiet_step (first|(go_at_call 298;with_reducible exact Calls.regrown_of (k7 _ _))|(go_at_call 298;with_reducible exact Calls.regrown_of (k18 _ _))))
       refine wpQuiet_nil ?_;rintro _ ⟨q,rfl⟩;have hbq:=below_regrown wr q.d q.os;replace hrow:=aU _ _ _ _ _ _ _ _ hrow hbq;replace hb:=ah hb hbq;replace hgl:=Nat.lt_of_lt_of_le hgl hbq.size;replace hwg:=fun w' (hw:Below (Sort.grow (redrawn wr q.d) q.os).heap.size (Sort.grow (redrawn wr q.d) q.os) w')=>hwg w' (ah hbq hw)
       clear c15 k7 k18 hbq c2 hs8';generalize Sort.grow (redrawn wr q.d) q.os=w5 at *;have c2:=fun d os=>hwg (Sort.grow (redrawn w5 d) os) (below_regrown w5 d os) (m+14) a2 ha2
       have k17:=fun d os=>zG a2 17 (Sort.grow (redrawn w5 d) os) (by decide)
       have k19:=fun d os=>zG a2 19 (Sort.grow (redrawn w5 d) os) (by decide)
       go_wp2_with fail;refine wp_region_quiet_below (by kernel_rfl) (by kernel_rfl) ?_
       repeat (go_big_quiet_step (first|(go_at_call 298;with_reducible exact Calls.regrown_of (k17 _ _))|(go_at_call 298;with_reducible exact Calls.regrown_of (k19 _ _))))
       refine wpQuiet_nil ?_;rintro _ ⟨q,rfl⟩;have hbq:=below_regrown w5 q.d q.os;replace hrow:=aU _ _ _ _ _ _ _ _ hrow hbq;replace hb:=ah hb hbq;replace hwg:=fun w' (hw:Below (Sort.grow (redrawn w5 q.d) q.os).heap.size (Sort.grow (redrawn w5 q.d) q.os) w')=>hwg w' (ah hbq hw)
       clear c2 k17 k19 hbq hs9';generalize Sort.grow (redrawn w5 q.d) q.os=w6 at *;go_wp2_with fail;refine RS.au (RS.gu (w6.heap.size) 4 #[] #[]) [] [RS.ak (.slice (some ⟨gw,0,none⟩) (m+16) cw),RS.ak (.slice (some ⟨gw,0,none⟩) (m+16) cw),RS.ak (.int .i64 (((m+16:Nat):Int))),RS.ak (.int .i64 m),RS.ak (.pointer (some ⟨gw,m,none⟩)),RS.ak (.int .u32 a16),RS.ak (.int .u32 s8),RS.ak (.int .u32 ((a16+s8) % 4294967296)),RS.ak (.slice (some ⟨gw,0,none⟩) (m+16) cw),RS.ak (.int .i64 (((m+16:Nat):Int))),RS.ak (.int .i64 ((m:Int)+9)),RS.ak (.pointer (some ⟨gw,m+9,none⟩)),RS.ak (.int .u32 a7),RS.ak (.int .u32 (((a16+s8) % 4294967296+a7) % 4294967296)),RS.ak (.int .u32 s9),RS.ak (.int .u32 x),RS.Dy (w6.heap.size) 310 1 #[.int .u32 x]] 17 238 (by kernel_rfl) rfl rfl (by kernel_rfl) (by kernel_rfl) ?_ ?_ ?_
       · simp only[RS.aY]
         and_intros <;> first|exact RS.aB _|exact RS.fB (by first|(left;decide)|(right;decide)|(right;simp))|trivial
       · simp only[RS.aS,List.take,List.length];refine ⟨?_,?_,?_,?_,?_,?_,?_,?_,?_,?_,?_,?_,?_,?_,?_,?_,?_,trivial⟩;all_goals (intro vs w2 hb2 hd;simp only[RS.aJ,Act.put,List.nil_append,List.cons_append,List.setIfInBounds_toArray,List.set_cons_succ,List.set_cons_zero,Nat.reduceAdd])
         · clear hd;go_wp2;exact aQ
         · clear hd;go_wp2;exact aQ
         · clear hd;go_wp2;exact aQ
         · have e0:vs 2=_:=hd 2 rfl;clear hd;rw [e0];go_wp2;exact aQ
         · have e0:vs 1=_:=hd 1 rfl;have e1:vs 3=_:=hd 3 rfl;clear hd;rw [e0,e1];go_wp2;exact aQ
         · have e0:vs 4=_:=hd 4 rfl;have q0:=hwg w2 hb2.bl (m) _ ha16;clear hd;rw [e0];go_wp2;exact aQ
         · clear hd;go_wp2;exact aQ
         · have e0:vs 5=_:=hd 5 rfl;have e1:vs 6=_:=hd 6 rfl;clear hd;rw [e0,e1];go_wp2;exact aQ
         · clear hd;go_wp2;exact aQ
         · clear hd;go_wp2;exact aQ
         · have e0:vs 9=_:=hd 9 rfl;clear hd;rw [e0];go_wp2;first|exact⟨RS.KZ.rf _ _ _ _ _,congrArg (Value.int .i64) (by omega)⟩|exact congrArg (Value.int .i64) (by omega)|exact⟨RS.KZ.rf _ _ _ _ _,rfl⟩|rfl|exact⟨RS.KZ.rf _ _ _ _ _,by simp[RS.ak]⟩|exact RS.KZ.rf _ _ _ _ _|(refine ⟨RS.KZ.rf _ _ _ _ _,?_⟩;simp only[RS.ak,Value.int.injEq,true_and];omega)|(simp [RS.ak])
         · have e0:vs 8=_:=hd 8 rfl;have e1:vs 10=_:=hd 10 rfl;clear hd;rw [e0,e1];go_wp2;exact aQ
         · have e0:vs 11=_:=hd 11 rfl;have q0:=hwg w2 hb2.bl (m+9) _ ha7;clear hd;rw [e0];go_wp2;exact aQ
         · have e0:vs 7=_:=hd 7 rfl;have e1:vs 12=_:=hd 12 rfl;clear hd;rw [e0,e1];go_wp2;exact aQ
         · clear hd;go_wp2;exact aQ
         · have e0:vs 13=_:=hd 13 rfl;have e1:vs 14=_:=hd 14 rfl;clear hd;rw [e0,e1];go_wp2;first|exact⟨RS.KZ.rf _ _ _ _ _,congrArg (Value.int .u32) (by have h9:=hxe.out;omega)⟩|exact congrArg (Value.int .u32) (by have h9:=hxe.out;omega)|exact⟨RS.KZ.rf _ _ _ _ _,rfl⟩|rfl|exact⟨RS.KZ.rf _ _ _ _ _,by simp[RS.ak]⟩|exact RS.KZ.rf _ _ _ _ _|(refine ⟨RS.KZ.rf _ _ _ _ _,?_⟩;simp only[RS.ak,Value.int.injEq,true_and];omega)|(simp [RS.ak])
         · have e0:vs 15=_:=hd 15 rfl;have hK:=hb2.slice (Nat.le_refl _) 310 1 #[.int .u32 x] undef;clear hd hb2;rw [e0];go_wp2;first|exact hK|exact hK.2|exact⟨hK.1,hK.2⟩
       · intro vs wa hba hR2;simp only[RS.bP,RS.ak]at hR2;obtain ⟨e0,e1,e2,e3,e4,e5,e6,e7,e8,e9,e10,e11,e12,e13,e14,e15,e16,-⟩:=hR2;obtain ⟨gL16,XQ,hgL16,BL16⟩:=e16;simp only[List.drop,List.take,List.map,RS.aJ,Act.put,List.setIfInBounds_toArray,List.set_cons_succ,List.set_cons_zero,Nat.reduceAdd];rw [e0,e1,e2,e3,e4,e5,e6,e7,e8,e9,e10,e11,e12,e13,e14,e15,XQ];clear e0 e1 e2 e3 e4 e5 e6 e7 e8 e9 e10 e11 e12 e13 e14 e15 XQ;have hb5:=ah hb hba.bl;refine aG rfl (.tmp 103) (.tmp 119) 356 310 rfl bi (.int .u32 0) 1 w.heap.size (m+16) 1 (l.flatMap nR) (nR x) (.slice (some ⟨gw,0,none⟩) (m+16) cw) (.slice (some ⟨gL16,0,none⟩) 1 1) g_ hbi hbz hbs rfl rfl rfl (aU _ _ _ _ _ _ _ _ hrow hba.bl) hb5.size (xM BL16) (by decide) (by unfold maxLen;omega) (by rw[hbb];omega) ?_;intro v7 w7 hb7 bV;rw [hfl,show m+16+1=m+1+16 by omega]at bV;replace hb7:=hb5.trans hb7;clear hba hb5 BL16 hgL16 hrow hxe hfl hwg;go_wp2;exact ⟨⟨m+1,l++[x],by omega,by go_num,hl',QO,bV,hb7⟩,by simp[intOf];omega⟩
     · have Y9:m=48:=by omega
       have hsc:Kp (Sh.Ld b=l):=⟨by rw[←hext.out,Y9];rfl⟩
       have Xx:=Kp.mk Y9;clear hext Y9;go_wp2_with fail;refine (IG wr).mono ?_;rintro _ w2 ⟨rfl,rfl⟩;have hbk:=fP wr (.cells (Sh.uC Sh.kc) 310);have BK:=Bx.mk wr 310 (Sh.uC Sh.kc);have hwg2:=fun w' (hw:Below (wr.alloc (.cells (Sh.uC Sh.kc) 310)).heap.size (wr.alloc (.cells (Sh.uC Sh.kc) 310)) w')=>hwg w' (ah hbk hw)
       have hgk:=hgl;replace hb:=ah hb hbk;generalize hgkk:wr.heap.size=gk at *;generalize wr.alloc (.cells (Sh.uC Sh.kc) 310)=w2 at *;have hsrc:=(At.src (P:=Tryz.prog) (e:=310) (t:=356) (f:=nR) (fun _=>rfl) (fun c u hu=>by simp only[nR,List.mem_cons,List.not_mem_nil,or_false]at hu;subst hu;rfl) g_ (hH.below hb) ch)
       have hrz:aI 310 1 w2.heap.size 0 [] (.slice none 0 0) w2:=.inl ⟨rfl,rfl,rfl⟩;clear hrow hwg hbk
       go_wp2_with (at_builtin;refine aG rfl (.tmp 122) (.tmp 123) 356 310 rfl bi (.int .u32 0) 1 w2.heap.size 0 8 [] (h.l.flatMap nR) (.slice none 0 0) (.slice Ah 8 ch) g_ hbi hbz hbs rfl rfl rfl hrz (Nat.le_refl _) hsrc (by decide) (by unfold maxLen;omega) (by rw[hbb];omega) ?_)
       intro v11 w3 hb3 hrow;have hz2:w.heap.size<=w2.heap.size:=hb.size;replace hrow:aI 310 1 w.heap.size 8 (h.l.flatMap nR) v11 w3:=aI.mono (by first|exact hrow|simpa using hrow) hz2;replace hb:=ah hb hb3;replace BK:=BK.call hb3;have hwg3:=fun w' (hw:Below w3.heap.size w3 w')=>hwg2 w' (ah hb3 hw)
       clear hrz hsrc hwg2 hb3 hgkk;have hs0:Kp (Sh.rs ((Sh.kc.zip l).drop 0) h=Sh.rs (Sh.kc.zip l) h):=⟨rfl⟩
       have hll64:l.length=64:=by rw[hll,Xx.out]
       have hzl:(Sh.kc.zip l).length=64:=by rw[List.length_zip,hll64,Sh.yg];rfl
       have hcp:Kp (Sh.comp h b=Sh.adds h (Sh.rs (Sh.kc.zip l) h)):=⟨by unfold Sh.comp;rw[hsc.out]⟩
       have hm64:Kp (m+16=64):=⟨by rw[Xx.out]⟩
       have hz3:=hb.size;have hB33:=bH w3;clear hll hsc;go_wp2_with fail
       go_loopw [11,12] (fun s11 s12 wr=>∃(i:Nat) (s:Sh.S8),i<=64/\s12=.int .i64 i/\Kp (Sh.rs ((Sh.kc.zip l).drop i) s=Sh.rs (Sh.kc.zip l) h)/\aI 310 1 w.heap.size 8 (s.l.flatMap nR) s11 wr/\Below w3.heap.size w3 wr) (fun s11 s12 _=>64-(intOf s12).toNat)
       case atStart=>exact⟨0,h,by omega,rfl,hs0,hrow,hB33⟩
       case round =>
        clear hs0 hrow hB33;obtain ⟨i,s,hi,rfl,hs,hrow,hb3⟩:=hrel;by_cases hlt2:i<64
        · obtain⟨kx,hkx⟩:∃kx,Sh.kc[i]? = some kx:=⟨_,List.getElem?_eq_getElem (by rw[Sh.yg];exact hlt2)⟩
          obtain⟨wx,hwx⟩:∃wx,l[i]? = some wx:=⟨_,List.getElem?_eq_getElem (by omega)⟩
          have hnx:Kp (Sh.rs ((Sh.kc.zip l).drop (i+1)) (Sh.rnd s kx wx)=Sh.rs (Sh.kc.zip l) h):=⟨by
           have e:(Sh.kc.zip l)[i]? = some (kx,wx):=by rw[List.getElem?_zip_eq_some];exact⟨hkx,hwx⟩
           have hk2:i<(Sh.kc.zip l).length:=by omega
           rw[←hs.out,List.drop_eq_getElem_cons hk2];rw [List.getElem?_eq_getElem hk2]at e;rw [Option.some.inj e]
           rfl⟩
          obtain⟨a,bb,c,d,e,f,g,hh⟩:=s;obtain ⟨gv,cv,rfl,hgv,hgl,hnv,hcv,vX⟩:=hrow.gets rfl (by decide);have c0:=vX wr (bH _) 0 a rfl;have c4:=vX wr (bH _) 4 e rfl;have q1:=fun d os=>vX (Sort.grow (redrawn wr d) os) (below_regrown wr d os) 1 bb rfl
          have q2:=fun d os=>vX (Sort.grow (redrawn wr d) os) (below_regrown wr d os) 2 c rfl
          have q5:=fun d os=>vX (Sort.grow (redrawn wr d) os) (below_regrown wr d os) 5 f rfl
          have q6:=fun d os=>vX (Sort.grow (redrawn wr d) os) (below_regrown wr d os) 6 g rfl
          have q7:=fun d os=>vX (Sort.grow (redrawn wr d) os) (below_regrown wr d os) 7 hh rfl
          have qk:=fun d os=>((BK.call hb3).again d os).cell i (Sh.kT hkx)
          have qw:=fun d os=>hwg3 (Sort.grow (redrawn wr d) os) (dY hb3 d os) i wx hwx
          have r6:=fun d os=>zG e 6 (Sort.grow (redrawn wr d) os) (by decide)
          have r11:=fun d os=>zG e 11 (Sort.grow (redrawn wr d) os) (by decide)
          have r25:=fun d os=>zG e 25 (Sort.grow (redrawn wr d) os) (by decide)
          obtain⟨S1v,hS1⟩:∃v,Kp (Sh.S1 e=v):=⟨_,⟨rfl⟩⟩
          obtain⟨chv,VN⟩:∃v,Kp (Sh.ch e f g=v):=⟨_,⟨rfl⟩⟩
          have hS1':bits .xor .u32 (bits .xor .u32 (Sh.qF e 6) (Sh.qF e 11)) (Sh.qF e 25)=S1v:=hS1.out;have hchv':bits .xor .u32 (bits .and .u32 e f) (bits .and .u32 (bits .xor .u32 4294967295 e) g)=chv:=VN.out;have hi64:i<m+16:=by have:=hm64.out;omega
          clear hs;go_wp2_with fail;refine wp_region_quiet_below (by kernel_rfl) (by kernel_rfl) ?_
          repeat (go_big_quiet_step (first|(go_at_call 298;with_reducible exact Calls.regrown_of (r6 _ _))|(go_at_call 298;with_reducible exact Calls.regrown_of (r11 _ _))|(go_at_call 298;with_reducible exact Calls.regrown_of (r25 _ _))))
          refine wpQuiet_nil ?_;rintro _ ⟨q,rfl⟩;have hbq:=below_regrown wr q.d q.os;replace hb3:=ah hb3 hbq;replace vX:=fun w' (hw:Below (Sort.grow (redrawn wr q.d) q.os).heap.size (Sort.grow (redrawn wr q.d) q.os) w')=>vX w' (ah hbq hw)
          obtain⟨x1,hx1⟩:∃x1,Kp (Sh.t1 ⟨a,bb,c,d,e,f,g,hh⟩ kx wx=x1):=⟨_,⟨rfl⟩⟩
          obtain⟨x2,hx2⟩:∃x2,Kp (Sh.t2 ⟨a,bb,c,d,e,f,g,hh⟩=x2):=⟨_,⟨rfl⟩⟩
          have hy1:((hh+S1v+bits .xor .u32 (bits .and .u32 e f) (bits .and .u32 (bits .xor .u32 (if IntKind.u32.signed=true then -1 else IntKind.u32.max) e) g)+kx) % 4294967296+wx) % 4294967296=x1:=by
           have e9:bits .xor .u32 (bits .and .u32 e f) (bits .and .u32 (bits .xor .u32 (if IntKind.u32.signed=true then -1 else IntKind.u32.max) e) g)=chv:=VN.out;have h9:(((((hh+S1v) % 4294967296+chv) % 4294967296+kx) % 4294967296)+wx) % 4294967296=x1:=by rw[←hx1.out,←hS1.out,←VN.out];rfl
           rw[e9];omega
          rw[hy1];have hrn:Kp (Sh.rnd ⟨a,bb,c,d,e,f,g,hh⟩ kx wx=⟨(x1+x2) % 4294967296,a,bb,c,(d+x1) % 4294967296,e,f,g⟩):=⟨by rw[←hx1.out,←hx2.out];rfl⟩
          obtain⟨S0v,hS0⟩:∃v,Kp (Sh.S0 a=v):=⟨_,⟨rfl⟩⟩
          obtain⟨mjv,hmj⟩:∃v,Kp (Sh.maj a bb c=v):=⟨_,⟨rfl⟩⟩
          have hS0':bits .xor .u32 (bits .xor .u32 (Sh.qF a 2) (Sh.qF a 13)) (Sh.qF a 22)=S0v:=hS0.out;have hmj':bits .xor .u32 (bits .xor .u32 (bits .and .u32 a bb) (bits .and .u32 a c)) (bits .and .u32 bb c)=mjv:=hmj.out;have hx2':(S0v+mjv) % 4294967296=x2:=by rw[←hx2.out,←hS0.out,←hmj.out];rfl
          clear q1 q2 q5 q6 q7 qk qw r6 r11 r25 hS1' hchv' hy1 hbq hS1 VN hx1 hx2 hS0 hmj hrow hgl;generalize Sort.grow (redrawn wr q.d) q.os=w5 at *;have q1:=fun d os=>vX (Sort.grow (redrawn w5 d) os) (below_regrown w5 d os) 1 bb rfl
          have q2:=fun d os=>vX (Sort.grow (redrawn w5 d) os) (below_regrown w5 d os) 2 c rfl
          have r2:=fun d os=>zG a 2 (Sort.grow (redrawn w5 d) os) (by decide)
          have r13:=fun d os=>zG a 13 (Sort.grow (redrawn w5 d) os) (by decide)
          have r22:=fun d os=>zG a 22 (Sort.grow (redrawn w5 d) os) (by decide)
          go_wp2_with fail;refine wp_region_quiet_below (by kernel_rfl) (by kernel_rfl) ?_
          repeat (go_big_quiet_step (first|(go_at_call 298;with_reducible exact Calls.regrown_of (r2 _ _))|(go_at_call 298;with_reducible exact Calls.regrown_of (r13 _ _))|(go_at_call 298;with_reducible exact Calls.regrown_of (r22 _ _))))
          refine wpQuiet_nil ?_;rintro _ ⟨q,rfl⟩;have hbq:=below_regrown w5 q.d q.os;replace hb3:=ah hb3 hbq;replace vX:=fun w' (hw:Below (Sort.grow (redrawn w5 q.d) q.os).heap.size (Sort.grow (redrawn w5 q.d) q.os) w')=>vX w' (ah hbq hw)
          rw[hx2'];clear q1 q2 r2 r13 r22 hS0' hmj' hx2' hbq;generalize Sort.grow (redrawn w5 q.d) q.os=w6 at *;have q1:=fun d os=>vX (Sort.grow (redrawn w6 d) os) (below_regrown w6 d os) 1 bb rfl
          have q2:=fun d os=>vX (Sort.grow (redrawn w6 d) os) (below_regrown w6 d os) 2 c rfl
          have q3:=fun dd os=>vX (Sort.grow (redrawn w6 dd) os) (below_regrown w6 dd os) 3 d rfl
          have q5:=fun d os=>vX (Sort.grow (redrawn w6 d) os) (below_regrown w6 d os) 5 f rfl
          have q6:=fun d os=>vX (Sort.grow (redrawn w6 d) os) (below_regrown w6 d os) 6 g rfl
          go_wp2_with fail;refine bF 22 (by kernel_rfl) (by kernel_rfl) ?_;simp only[List.take,List.drop]
          repeat (go_big_quiet_step (fail))
          refine wpQuiet_nil ?_;rintro _ ⟨q,rfl⟩;replace hb3:=dY hb3 q.d q.os;clear q1 q2 q3 q5 q6 vX c0 c4;generalize Sort.grow (redrawn w6 q.d) q.os=w7 at *;have wO:=Bx.mk w7 310 #[.int .u32 ((x1+x2) % 4294967296),.int .u32 a,.int .u32 bb,.int .u32 c,.int .u32 ((d+x1) % 4294967296),.int .u32 e,.int .u32 f,.int .u32 g];have hb8:=bNew hb3 (.cells #[.int .u32 ((x1+x2) % 4294967296),.int .u32 a,.int .u32 bb,.int .u32 c,.int .u32 ((d+x1) % 4294967296),.int .u32 e,.int .u32 f,.int .u32 g] 310);have hg8:w.heap.size<=w7.heap.size:=by have:=hb3.size;omega
          have JL:aI 310 1 w.heap.size 8 ((Sh.rnd ⟨a,bb,c,d,e,f,g,hh⟩ kx wx).l.flatMap nR) (.slice (some ⟨w7.heap.size,0,none⟩) 8 8) (w7.alloc (.cells #[.int .u32 ((x1+x2) % 4294967296),.int .u32 a,.int .u32 bb,.int .u32 c,.int .u32 ((d+x1) % 4294967296),.int .u32 e,.int .u32 f,.int .u32 g] 310)):=by
           rw[hrn.out];exact .inr ⟨8,⟨w7.heap.size,_,rfl,hg8,Nat.le_refl _,wO,rfl,rfl⟩,by unfold maxLen;omega⟩
          clear hrn wO hb3;go_wp2;exact ⟨⟨i+1,_,by omega,by go_num,hnx,JL,hb8⟩,by simp[intOf];omega⟩
        · have hi64:i=64:=by omega
          have hfin:Kp (Sh.comp h b=Sh.adds h s):=⟨by rw[hcp.out,←hs.out,List.drop_eq_nil_of_le (by omega)];rfl⟩
          clear hs hi64;obtain ⟨gv,cv,rfl,hgv,hgl,hnv,hcv,vX⟩:=hrow.gets rfl (by decide);obtain ⟨ph,oh,rfl,hph,hpc⟩:=hH (show 0<h.l.length from Nat.succ_pos _);have hbw:=ah hb hb3;generalize wr=w9 at *;have hr0:aI 310 1 w9.heap.size 0 (((Sh.adds h s).l.take 0).flatMap nR) (.slice none 0 0) w9:=.inl ⟨rfl,rfl,rfl⟩;have hbr:=bH w9;have hzr:=hbw.size;clear hrow hb3;go_wp2_with fail
          go_loopw [17,18] (fun s17 Yw wr=>∃i:Nat,i<=8/\Yw=.int .i64 i/\aI 310 1 w9.heap.size i (((Sh.adds h s).l.take i).flatMap nR) s17 wr/\Below w9.heap.size w9 wr) (fun s17 Yw _=>8-(intOf Yw).toNat)
          case atStart=>exact⟨0,by omega,rfl,hr0,hbr⟩
          case round =>
           clear hr0 hbr;obtain ⟨i,zi,rfl,hrow,hbq⟩:=hrel;by_cases QF:i<8
           · obtain⟨x,hx⟩:∃x,h.l[i]? = some x:=⟨_,List.getElem?_eq_getElem (show i<h.l.length from QF)⟩
             obtain⟨y,hy⟩:∃y,s.l[i]? = some y:=⟨_,List.getElem?_eq_getElem (show i<s.l.length from QF)⟩
             have hxy:=Sh.FV hx hy
             have hnx:Kp (((Sh.adds h s).l.take i).flatMap nR++nR ((x+y) % 4294967296)=((Sh.adds h s).l.take (i+1)).flatMap nR):=⟨by
              rw[List.take_add_one,hxy,List.flatMap_append];simp⟩
             have hhx:∀w',Below w.heap.size w w'->w'.cell? ⟨ph,oh+i,none⟩=some (.int .u32 x):=fun w' hw=>by
              have:=(hw.cell (p:=⟨ph,oh+i*1+0,none⟩) hph).trans (hpc i x hx 0 _ rfl)
              rwa [Nat.mul_one,Nat.add_zero]at this
             have hvy:∀w',Below wr.heap.size wr w'->w'.cell? ⟨gv,i,none⟩=some (.int .u32 y):=fun w' hw=>vX w' (ah hbq hw) i y hy
             have hbw2:=ah hbw hbq;obtain ⟨v17,hv17⟩:∃v,v=u17:=⟨_,rfl⟩
             rw[←hv17]at hrow ⊢;clear hv17 hx hy hxy;go_wp2_with fail;refine RS.au (RS.gu (wr.heap.size) 4 #[] #[]) [] [RS.ak (v17),RS.ak (.slice (some ⟨ph,oh,none⟩) 8 ch),RS.ak (.int .i64 i),RS.ak (.pointer (some ⟨ph,oh+i,none⟩)),RS.ak (.int .u32 x),RS.ak (.slice (some ⟨gv,0,none⟩) 8 cv),RS.ak (.int .i64 i),RS.ak (.pointer (some ⟨gv,i,none⟩)),RS.ak (.int .u32 y),RS.ak (.int .u32 ((x+y) % 4294967296)),RS.Dy (wr.heap.size) 310 1 #[.int .u32 ((x+y) % 4294967296)]] 11 238 (by kernel_rfl) rfl rfl (by kernel_rfl) (by kernel_rfl) ?_ ?_ ?_
             · simp only[RS.aY]
               and_intros <;> first|exact RS.aB _|exact RS.fB (by first|(left;decide)|(right;decide)|(right;simp))|trivial
             · simp only[RS.aS,List.take,List.length];refine ⟨?_,?_,?_,?_,?_,?_,?_,?_,?_,?_,?_,trivial⟩;all_goals (intro vs w2 hb2 hd;simp only[RS.aJ,Act.put,List.nil_append,List.cons_append,List.setIfInBounds_toArray,List.set_cons_succ,List.set_cons_zero,Nat.reduceAdd])
               · clear hd;go_wp2;exact aQ
               · clear hd;go_wp2;exact aQ
               · clear hd;go_wp2;exact aQ
               · have e0:vs 1=_:=hd 1 rfl;have e1:vs 2=_:=hd 2 rfl;clear hd;rw [e0,e1];go_wp2;exact aQ
               · have e0:vs 3=_:=hd 3 rfl;have q0:=hhx w2 (ah hbw2 hb2.bl);clear hd;rw [e0];go_wp2;exact aQ
               · clear hd;go_wp2;exact aQ
               · clear hd;go_wp2;exact aQ
               · have e0:vs 5=_:=hd 5 rfl;have e1:vs 6=_:=hd 6 rfl;clear hd;rw [e0,e1];go_wp2;exact aQ
               · have e0:vs 7=_:=hd 7 rfl;have q0:=hvy w2 hb2.bl;clear hd;rw [e0];go_wp2;exact aQ
               · have e0:vs 4=_:=hd 4 rfl;have e1:vs 8=_:=hd 8 rfl;clear hd;rw [e0,e1];go_wp2;exact aQ
               · have e0:vs 9=_:=hd 9 rfl;have hK:=hb2.slice (Nat.le_refl _) 310 1 #[.int .u32 ((x+y) % 4294967296)] undef;clear hd hb2;rw [e0];go_wp2;first|exact hK|exact hK.2|exact⟨hK.1,hK.2⟩
             · intro vs wa hba hR2;simp only[RS.bP,RS.ak]at hR2;obtain ⟨e0,e1,e2,e3,e4,e5,e6,e7,e8,e9,e10,-⟩:=hR2;obtain ⟨gL10,XR,hgL10,BL10⟩:=e10;simp only[List.drop,List.take,List.map,RS.aJ,Act.put,List.setIfInBounds_toArray,List.set_cons_succ,List.set_cons_zero,Nat.reduceAdd];rw [e0,e1,e2,e3,e4,e5,e6,e7,e8,e9,XR];clear e0 e1 e2 e3 e4 e5 e6 e7 e8 e9 XR;have hb5:=ah hbq hba.bl;refine aG rfl (.tmp 225) (.tmp 235) 356 310 rfl bi (.int .u32 0) 1 w9.heap.size i 1 (((Sh.adds h s).l.take i).flatMap nR) (nR ((x+y) % 4294967296)) v17 (.slice (some ⟨gL10,0,none⟩) 1 1) g_ hbi hbz hbs rfl rfl rfl (aU _ _ _ _ _ _ _ _ hrow hba.bl) hb5.size (xM BL10) (by decide) (by unfold maxLen;omega) (by rw[hbb];omega) ?_;intro v7 w7 hb7 bV;rw [hnx.out]at bV;replace hb7:=hb5.trans hb7;clear hba hb5 BL10 hgL10 hrow hnx hhx hvy;go_wp2;exact ⟨⟨i+1,by omega,by go_num,bV,hb7⟩,by simp[intOf];omega⟩
           · have MG:i=8:=by omega
             rw[List.take_of_length_le (show (Sh.adds h s).l.length<=i by rw[MG];exact Nat.le_refl _),MG]at hrow;have hrow9:=aI.mono hrow hzr;have aX:=ah hbw hbq;clear MG vX hpc;go_wp2;go_ret;exact ⟨⟨_,rfl,by rw[hfin.out];exact hrow9⟩,aX⟩
theorem IZ:∃i,Tryz.prog.info? 5=some i/\i.zero=some (.int .u8 0)/\i.size=1/\i.bytes=1:=by
 have h:(Tryz.prog.info? 5).map (fun i=>(i.zero,i.size,i.bytes))=some (some (.int .u8 0),1,1):=by kernel_rfl
 exact info_parts h
theorem U_ (l:List UInt8):∀(acc:ByteArray),(l.map fun c=>((c.toNat:Nat):Int)).foldl (fun r n=>r.push (UInt8.ofNat n.toNat)) acc=⟨acc.data++l.toArray⟩:=by
 induction l with
 | nil=>intro acc;apply ByteArray.ext;simp
 | cons c l ih =>
  intro acc;rw [List.map_cons,List.foldl_cons,ih];apply ByteArray.ext
  simp
theorem sW (W:World) (g cap:Nat) (l:List UInt8) (h:∀j x,l[j]? = some x->W.cell? ⟨g,j,none⟩=some (.int .u8 x.toNat)) :
 (convert 157 9 (.slice (some ⟨g,0,none⟩) l.length cap)).run Tryz.prog W=.ok (.string ⟨l.toArray⟩) W:=by
 have hl:=run_loadCells_list (P:=Tryz.prog) (w:=W) ⟨g,0,none⟩ (l.map fun c=>Value.int .u8 c.toNat) (fun j v hj=>by
  rw[List.getElem?_map]at hj
  cases hx:l[j]? with
  | none=>rw[hx]at hj;cases hj
  | some x =>
   rw[hx]at hj;simp only[Option.map_some,Option.some.injEq]at hj;rw [Addr.add_lit,Nat.zero_add,←hj]
   exact h j x hx)
 rw[List.length_map]at hl;rw [run_convert_bytes_string W 157 9 5 _ _ _ Tryz.underlying157 Tryz.underlying5 Tryz.underlying9,run_bytesToString W _ _ _ (l.map fun c=>((c.toNat:Nat):Int)) (by rw[hl];simp),U_];simp
theorem Iy (h:Sh.S8) (w:World) :
 aT 238 #[.agg (Sh.uC h.l)] w (.string ⟨(Sh.out h).toArray⟩):=by
 have Ri:(Tryz.prog.info? 324).map (·.size)=some (Sh.uC h.l).size:=by rw[Sh.mD];exact wo
 have hix:=fun (i:Nat) (x:Int) (hx:h.l[i]? = some x) W=>zU qY h.l rfl hx W
 generalize hx8:Sh.uC h.l=x8 at *;have BH:=(Bx.mk w 324 x8).new (.cells (Sh.bC (List.replicate 32 0)) 364);obtain ⟨W2,hW2⟩:∃W2,W2=(w.alloc (.cells x8 324)).alloc (.cells (Sh.bC (List.replicate 32 0)) 364):=⟨_,rfl⟩
 have hsz:(w.alloc (.cells x8 324)).heap.size=w.heap.size+1:=World.size_alloc _ _;have BO:Bx W2 (w.heap.size+1) 364 (Sh.bC ((Sh.out h).take (4*0)++List.replicate (32-4*0) 0)):=by rw[hW2,←hsz];exact Bx.mk _ _ _
 have hb2:Below w.heap.size w W2:=by rw[hW2];exact bNew (fP w _) _
 have h8K:=Kp.mk Ri;have z0:(((0:UInt8).toNat:Nat):Int)=0:=rfl;simp only[Sh.bC,List.replicate,List.map_cons,List.map_nil,z0]at hW2 BH;clear z0;have Q5:=Kp.mk hW2;clear hx8 Ri hsz hW2
 go_enter Tryz.func238,Tryz.ntmps238
 go_wp2_with (refine wpList_load_row rfl 324 _ rfl w.heap.size rfl 324 x8 (0,0) _ BH qY rfl h8K.out ?_)
 rw[←Q5.out];clear Q5 BH h8K
 go_loopw [8] (fun s8 wr=>∃i:Nat,i<=8/\s8=.int .i64 i/\Bx wr (w.heap.size+1) 364 (Sh.bC ((Sh.out h).take (4*i)++List.replicate (32-4*i) 0))/\Below w.heap.size w wr) (fun s8 _=>8-(intOf s8).toNat)
 case atStart=>exact⟨0,by omega,rfl,BO,hb2⟩
 case round =>
  clear BO hb2;obtain ⟨i,zi,rfl,BO,hb⟩:=hrel;by_cases hlt:i<8
  · obtain⟨x,hx⟩:∃x,h.l[i]? = some x:=⟨_,List.getElem?_eq_getElem (show i<h.l.length from hlt)⟩
    have hxi:=fun W=>hix i x hx W
    have hog:=fun (k:Nat) (hk:k<4)=>Sh.Ve hx hk
    clear hix hx;go_wp2_with fail
    go_loopw [12] (fun s12 wr=>∃k:Nat,k<=4/\s12=.int .i64 k/\Bx wr (w.heap.size+1) 364 (Sh.bC ((Sh.out h).take (4*i+k)++List.replicate (32-(4*i+k)) 0))/\Below w.heap.size w wr) (fun s12 _=>4-(intOf s12).toNat)
    case atStart=>exact⟨0,by omega,rfl,BO,hb⟩
    case round =>
     clear BO hb;obtain ⟨k,hk4,rfl,BO,hb⟩:=hrel;by_cases hkt:k<4
     · obtain⟨y,hy⟩:∃y,(Sh.wb x)[k]? = some y:=⟨_,List.getElem?_eq_getElem (show k<(Sh.wb x).length from hkt)⟩
       have ho:(Sh.out h)[4*i+k]? = some y:=by rw[hog k hkt,hy]
       have q0:wr.cell? ⟨w.heap.size+1,4*i+k,none⟩=some (.int .u8 0):=BO.cell (4*i+k) (Sh.yT (x:=0) (by rw[List.getElem?_append_right (by rw[List.length_take,Sh.pI];omega),List.length_take,Sh.pI,List.getElem?_replicate,if_pos (by omega)]));have f0:=BO.frozen (4*i+k);have BO2:=BO.set (4*i+k) (.int .u8 y.toNat);rw [Sh.fillB (Sh.pI h) ho]at BO2;have hb2:=aK hb (p:=⟨w.heap.size+1,4*i+k,none⟩) (show w.heap.size<=w.heap.size+1 by omega) (.int .u8 y.toNat)
       have hyv:Kp (x / 2 ^ (24-8*k) % 256=(y.toNat:Int)):=⟨by
        match k,hkt,hy with
        | 0,_,hy=>cases hy;rw[Sh.ng,IntKind.wrap_u8'];rfl
        | 1,_,hy=>cases hy;rw[Sh.ng,IntKind.wrap_u8'];rfl
        | 2,_,hy=>cases hy;rw[Sh.ng,IntKind.wrap_u8'];rfl
        | 3,_,hy=>cases hy;rw[Sh.ng,IntKind.wrap_u8'];simp⟩
       clear ho hy hog BO hxi;go_wp2_with fail;rw [hyv.out];exact ⟨⟨k+1,by omega,by go_num,BO2,hb2⟩,by simp[intOf];omega⟩
     · obtain rfl:k=4:=by omega
       rw[show 4*i+4=4*(i+1) by omega]at BO;clear hog hxi;go_wp2_with fail;exact ⟨⟨i+1,by omega,by go_num,BO,hb⟩,by simp[intOf];omega⟩
  · obtain rfl:i=8:=by omega
    have hcv:=sW wr (w.heap.size+1) 32 (Sh.out h) (fun j y hy=>BO.cell j (Sh.yT (by
     have hj:j<32:=(List.getElem?_eq_some_iff.1 hy).1
     rw[List.take_of_length_le (show (Sh.out h).length<=4*8 from Nat.le_refl _),List.getElem?_append_left hj,hy])))
    rw[Sh.pI]at hcv;clear hix BO;go_wp2;go_ret;exact ⟨rfl,hb⟩
attribute [local go_sem] Oper.semAt_some
theorem SC (n:Nat) (A:Option Addr) (k cap:Nat) (w:World):CallsIn Fence.wide n Tryz.prog 236 #[.slice A k cap,.int .i64 64] w fun e w'=>e=.returned (.func (.func 275) #[] #[.pointer (some ⟨w.heap.size,0,none⟩),.pointer (some ⟨w.heap.size+1,0,none⟩)])/\w'=(w.alloc (.cells #[.slice A k cap] 157)).alloc (.cells #[.int .i64 64] 3):=by
 refine callsIn_of_wp Tryz.func236 rfl trivial ?_ rfl;simp only[Tryz.ntmps236,List.size_toArray,List.length_cons,List.length_nil,Nat.reduceAdd,Nat.reduceSub,Array.replicate_succ,Array.replicate_zero,List.push_toArray,List.append_toArray,List.nil_append,List.cons_append];have h3:=(Bx.mk (w.alloc (.cells #[.slice A k cap] 157)) 3 #[.int .i64 64]).cell 0 (v:=.int .i64 64) rfl;rw [World.size_alloc]at h3
 gi_wp2
 go_ret;exact ⟨rfl,rfl⟩
def ckE (p:Nat) (i:Nat):Array Value:=#[.slice (some ⟨p,64*i,none⟩) 64 64]
theorem Nj (n:Nat) (hn1:2<=n) (m p cap gs gn:Nat) (hm:64*m<=cap) (hcap:m<=100000000) :
 SeqU n Tryz.prog 275 #[.pointer (some ⟨gs,0,none⟩),.pointer (some ⟨gn,0,none⟩)] (ckE p) (fun pre i=>i=pre.length/\i<m) (fun xs=>xs.length=m) (fun _=>True)
  (fun X=>Bx X gs 157 #[.slice (some ⟨p,0,none⟩) (64*m) cap]/\Bx X gn 3 #[.int .i64 64]):=by
 intro lp J Jx W hW hJ hJx VU hG hY hj0;have VW:=Kp.mk VU;refine callsIn_of_wp Tryz.func275 rfl trivial ?_ rfl;simp only[Tryz.ntmps275,List.size_toArray,List.length_cons,List.length_nil,Nat.reduceAdd,Nat.reduceSub,Array.replicate_succ,Array.replicate_zero,List.push_toArray,List.append_toArray,List.nil_append,List.cons_append]
 gi_wp2_with fail
 gi_loopw [4] (fun s4 wr=>∃xs:List Nat,xs.length<=m/\s4=.int .i64 ((64*xs.length:Nat):Int)/\J xs wr) (fun s4 _=>64*m-(intOf s4).toNat)
 case atStart=>exact⟨[],Nat.zero_le _,rfl,hj0⟩
 case round =>
  clear hj0;obtain ⟨xs,hxm,rfl,hj⟩:=hrel;have m0:=(VW.out _ _ hj).1.cell 0 (v:=.slice (some ⟨p,0,none⟩) (64*m) cap) rfl;have m1:=(VW.out _ _ hj).2.cell 0 (v:=.int .i64 64) rfl;by_cases hlt:xs.length<m
  · have m0q:=fun d os=>(VW.out _ _ (hJ _ _ _ hj (below_regrown wr d os))).1.cell 0 (v:=.slice (some ⟨p,0,none⟩) (64*m) cap) rfl
    have m1q:=fun d os=>(VW.out _ _ (hJ _ _ _ hj (below_regrown wr d os))).2.cell 0 (v:=.int .i64 64) rfl
    have hlc:64*xs.length<cap:=by omega
    gi_wp2_with fail
    refine (wpIn_wide (n:=n)).2 ?_;refine wp_region_quiet_below (by kernel_rfl) (by kernel_rfl) ?_
    repeat (go_big_quiet_step (fail))
    refine wpQuiet_nil ?_;rintro _ ⟨q,rfl⟩;have hjq:=hJ _ _ _ hj (below_regrown wr q.d q.os);replace m0q:=m0q q.d q.os;replace m1q:=m1q q.d q.os;clear m0 m1 hj;generalize Sort.grow (redrawn wr q.d) q.os=w1 at *;obtain ⟨fn,tmps,assign,body,hy,hR⟩:=hY xs xs.length w1 hjq ⟨rfl,hlt⟩;simp only[ckE]at hy
    gi_wp2_with fail
    refine⟨fun _=>by omega,hR.mono ?_⟩;rintro e W3 (⟨rfl,hJ3,hk3⟩|⟨rfl,hJx3⟩)
    · have m13:=(VW.out _ _ hJ3).2.cell 0 (v:=.int .i64 64) rfl;have hlen:(xs++[xs.length]).length<=m/\Value.int .i64 (64*(xs.length:Int)+64)=.int .i64 ((64*(xs++[xs.length]).length:Nat):Int):=⟨by simp;omega,by simp;omega⟩
      clear hR hy hk3 m0q m1q hY
      gi_wp2_with fail
      go_roundw
      case rel=>exact⟨xs++[xs.length],hlen.1,hlen.2,hJ3⟩
      case measure=>simp[intOf];omega
    · clear hR hy hY
      gi_wp2_with fail
      exact bodyPost_ret (results_none rfl _ _ _) rfl ⟨⟨_,rfl⟩,.inr ⟨_,hJx3⟩⟩
  · have hS:xs.length=m:=by omega
    clear hY
    gi_wp2
    go_end0
    exact⟨⟨_,rfl⟩,.inl ⟨_,hS,hj⟩⟩
def uV (e:TypeId) (B n:Nat) (flat:List Value):Value->World->Prop:=fun v w =>
 ∃g cap cells fr,v=.slice (some ⟨g,0,none⟩) n cap/\B<=g/\n<=cap/\cap<=maxLen/\w.heap[g]? = some (.cells cells e fr)/\cells.size=cap/\cells.toList.take n=flat/\(cells.size<=fr.1∨fr.2=0)
theorem Nk {w:World} {g:Nat} {cs:Array Value} {t:TypeId} {fr:Nat × Nat} (h:w.heap[g]? = some (.cells cs t fr)) (k:Nat) (u:Value):(w.setCell ⟨g,k,none⟩ u).heap[g]? = some (.cells (cs.setIfInBounds k u) t fr):=by
 simp[World.setCell,Array.getElem?_modify,h]
theorem cells_one {w:World} {g:Nat} {cs:Array Value} {t:TypeId} {fr:Nat × Nat} (h:w.heap[g]? = some (.cells cs t fr)) {k:Nat} {v:Value} (hv:cs[k]? = some v):w.cell? ⟨g,k,none⟩=some v:=by
 simp[World.cell?,h,hv]
theorem FU {P:Program} (w:World) (t ty e:TypeId) (i:TypeInfo) (z:Value) (B n:Nat) (flat:List Value) (u v x:Value) (ht:P.underlying t=some (.slice e)) (hi:P.info? e=some i) (hz:i.zero=some z)
 (hsize:i.size=1) (hzs:z.cells.size=1) (hv:uV e B n flat v w) (hB:B<=w.heap.size) (hs:Src P 1 t x 1 [u] w) (h63:n+1<=maxLen) (hb:(n+1)*i.bytes<=140737488355328) :
 ∃v' w',(Builtin.append_ #[t,t] ty #[v,x]).run P w=.ok v' w'/\Below B w w'/\uV e B (n+1) (flat++[u]) v' w':=by
 obtain⟨g,cap,cells,fr,rfl,hg,hnc,hcm,hbx,hcs,hfl,hfr⟩:=hv;by_cases hroom:n+1<=cap
 · have hrun:=run_append_room_src (P:=P) w t t ty e i ht hi g 0 n cap x 1 [u] (by rw[hsize];exact hs) hroom (fun j hj=>by
    obtain rfl:j=0:=by simpa using hj
    rw[hsize,Nat.mul_one,Nat.zero_add,Nat.add_zero]
    rw[cells_one hbx (k:=n) (v:=cells[n]'(by omega)) (by simp)];rfl) (fun j hj=>by
    obtain rfl:j=0:=by simpa using hj
    rw[hsize,Nat.mul_one,Nat.zero_add,Nat.add_zero];obtain ⟨lo,hi⟩:=fr;simp only[World.frozen?,hbx];simp only[Bool.and_eq_false_imp,decide_eq_true_eq,decide_eq_false_iff_not];intro h
    rcases hfr with hfr|hfr
    · simp only at hfr;omega
    · simp only at hfr;omega)
   rw[hsize,Nat.mul_one,Nat.zero_add]at hrun;refine ⟨_,_,hrun,(Below.refl B w).setCell hg _,g,cap,cells.setIfInBounds n u,fr,rfl,hg,hroom,hcm,Nk hbx n u,by simpa using hcs,?_,by simpa using hfr⟩;rw [Array.toList_setIfInBounds,List.take_add_one,List.take_set_of_le (Nat.le_refl _),hfl];simp [show n<cells.size by omega]
 · have hold:(Builtin.firstCells i.size n (.slice (some ⟨g,0,none⟩) n cap)).run P w.drew=.ok flat.toArray w.drew :=
    run_firstCells_some w.drew i.size n ⟨g,0,none⟩ n cap flat (by rw[hsize,Nat.mul_one,←hfl,List.length_take,Array.length_toList];omega) fun j u hu=>by
     have hj:cells[j]? = some u:=by
      rw[←hfl,List.getElem?_take]at hu
      split at hu
      · simpa using hu
      · cases hu
     rw[Addr.add_lit,Nat.zero_add];exact cells_one (show w.drew.heap[g]? = _ from hbx) hj
   have lM:flat.length=n:=by rw[←hfl,List.length_take,Array.length_toList];omega
   have hrun:=run_append_grow_src (P:=P) w t t ty e i z ht hi hz (some ⟨g,0,none⟩) n cap flat hold x 1 [u] (by rw[hsize];exact hs) (by omega) (by simp only[maxLen]at h63;omega) (growslice_fits (by omega) hb);have hge:=grownCap_ge w (n+1) cap e;refine ⟨_,_,hrun,((Below.refl B w).drew).alloc hB _,w.heap.size,_,_,(0,0),rfl,hB,hge,grownCap_le_maxLen w (n+1) cap e h63,heap_alloc_new w.drew _,?_,?_,.inr rfl⟩
   · rw[Array.size_append,List.size_toArray,List.length_append,lM,size_zeroCells,hzs];simp;omega
   · rw[Array.toList_append,List.take_append_of_le_length (by simp[lM])];rw [List.take_of_length_le (by simp[lM])]
theorem gX {P:Program} {w:World} {ops:Array Oper} {rest:List Oper} {o:Oper} {a:Act} {Q:Exit->Act->World->Prop} (hgd:o.guard=none) (s y:Operand) (t e:TypeId) (ho:o.op=.call { callee:=.builtin .append,args:=#[s,y],argTypes:=#[t,t] })
 (i:TypeInfo) (z:Value) (B n:Nat) (flat:List Value) (u v x:Value) (ht:P.underlying t=some (.slice e)) (hi:P.info? e=some i) (hz:i.zero=some z)
 (hsize:i.size=1) (hzs:z.cells.size=1) (hes:a.eval s=v) (ES:a.eval y=x) (hv:uV e B n flat v w) (hB:B<=w.heap.size) (hs:Src P 1 t x 1 [u] w) (h63:n+1<=maxLen) (hb:(n+1)*i.bytes<=140737488355328)
 (h:∀v' w',Below B w w'->uV e B (n+1) (flat++[u]) v' w'->wpList P ops Q rest (a.put o.dst v') w'):wpList P ops Q (o :: rest) a w:=by
 obtain⟨v',w',hr,h1,h2⟩:=FU (P:=P) w t o.type e i z B n flat u v x ht hi hz hsize hzs hv hB hs h63 hb;refine wpList_plain hgd fun _ hK=>?_
 unfold Oper.wp execOp
 simp only[ho,resolve,invoke,builtin,Sem.run_bind,Sem.run_pure,Result.andThen_ok,List.map_toArray,List.map_cons,List.map_nil,hes,ES,hr];exact hK _ _ (h v' w' h1 h2)
theorem uV.call {e:TypeId} {B n:Nat} {flat:List Value} {v:Value} {w w':World} (h:uV e B n flat v w) (hb:Below w.heap.size w w'):uV e B n flat v w':=by
 obtain⟨g,cap,cells,fr,h1,h2,h3,h4,h5,h6⟩:=h;exact ⟨g,cap,cells,fr,h1,h2,h3,h4,(hb.block g (Array.getElem?_eq_some_iff.1 h5).1).trans h5,h6⟩
theorem uV.get {e:TypeId} {B n:Nat} {flat:List Value} {v:Value} {w:World} (h:uV e B n flat v w) :
 ∃g cap,v=.slice (some ⟨g,0,none⟩) n cap/\B<=g/\n<=cap/\cap<=maxLen/\g<w.heap.size/\∃(cells:Array Value) (fr:Nat × Nat),w.heap[g]? = some (.cells cells e fr)/\∀(j:Nat) (u:Value),flat[j]? = some u->cells[j]? = some u:=by
 obtain⟨g,cap,cells,fr,h1,h2,h3,h4,h5,h6,h7,h8⟩:=h;refine ⟨g,cap,h1,h2,h3,h4,(Array.getElem?_eq_some_iff.1 h5).1,cells,fr,h5,fun j u hj=>?_⟩;rw [←h7,List.getElem?_take]at hj
 split at hj
 · simpa using hj
 · cases hj
theorem Rnd.below2 {w w':World} {B:Nat} (h:Rnd w) (hb:Below B w w') (hB:0<B):Rnd w':=by
 obtain⟨t,fr,h⟩:=h;exact ⟨t,fr,(hb.block _ hB).trans h⟩
def lenV:Value->Nat
 | .slice _ n _=>n
 | _=>0
def cB (l:List UInt8):List Value:=l.map fun x=>.int .u8 x.toNat
theorem jW (a b:List UInt8):cB (a++b)=cB a++cB b:=List.map_append
theorem cO:Tryz.prog.underlying 157=some (.slice 5):=by kernel_rfl
theorem Oe:Tryz.prog.underlying 5=some (.int .u8):=by kernel_rfl
theorem La:Tryz.prog.underlying 9=some .string:=by kernel_rfl
theorem wG {w:World} {g:Nat} {u:Value} (h1:u.oneCell'=true) (h:Bx w g 5 #[u]):Src Tryz.prog 1 157 (.slice (some ⟨g,0,none⟩) 1 1) 1 [u] w :=
 dP.src (P:=Tryz.prog) (size:=1) (B:=0) (cap:=1) (e:=5) (t:=157) (fun x hx=>by simp only[List.mem_cons,List.not_mem_nil,or_false]at hx;subst hx;exact h1) cO ⟨g,_,rfl,Nat.zero_le _,Nat.le_refl _,h,rfl,rfl⟩
theorem MZ (w:World) (l:List UInt8) (hl:l.length<=1000000):∃v w',(convert 9 157 (.string ⟨l.toArray⟩)).run Tryz.prog w=.ok v w'/\Below w.heap.size w w'/\uV 5 w.heap.size l.length (cB l) v w':=by
 have hr:=Lib.run_convert_string_bytes (P:=Tryz.prog) w 9 157 5 ⟨l.toArray⟩ La cO Oe;have hc:grownCap w l.length 0 5<=maxLen:=grownCap_le_maxLen w l.length 0 5 (by unfold maxLen;omega);have hge:=grownCap_ge w l.length 0 5;refine ⟨_,_,hr,⟨?_,?_,?_,?_,fun k hk=>Lib.bytesWorld_at_old _ _ _ _ hk⟩,w.heap.size,_,_,_,rfl,Nat.le_refl _,hge,hc,Lib.bytesWorld_at_new _ _ _,?_,?_,.inl (Nat.le_refl _)⟩
 · simp[Lib.bytesWorld,World.freeze];rfl
 · simp[Lib.bytesWorld,World.freeze]
 · simp[Lib.bytesWorld,World.freeze];rfl
 · rw[Lib.bytesWorld_size];omega
 · rw[Lib.bytesCells,Array.size_append,Array.size_map,Array.size_replicate]
   show l.length+(grownCap w l.length 0 5-l.length)=grownCap w l.length 0 5
   omega
 · simp[Lib.bytesCells,cB]
end Go.Proofs.YtohgjenaclfegaaGreatDoor

import Derived.Test.YtohgjenaclfegaaGreatDoorQA00
import Derived.Laws.BytesString
import Derived.Test.YtohgjenaclfegaaGreatDoorQK02
import Derived.RangeFuncFrom
import Derived.LoopIn
import Derived.Lib.ConvBytes
set_option linter.unusedVariables false
set_option linter.unusedSimpArgs false
set_option maxRecDepth 100000
set_option maxHeartbeats 8000000
namespace Go.Proofs.YtohgjenaclfegaaGreatDoor
open Go.RowKit
def lu (x:Int):List Value:=[.int .u32 x]
theorem Vs:∃i,Tryz.prog.info? 310=some i/\i.zero=some (.int .u32 0)/\i.size=1/\i.bytes=4:=by
 have h:(Tryz.prog.info? 310).map (fun i=>(i.zero,i.size,i.bytes))=some (some (.int .u32 0),1,4):=by kernel_rfl
 exact info_parts h
theorem vG (x:Int) (n:Nat) (w:World) (hn:n∈C_) :
 bP 298 #[.int .u32 x,.int .i64 n] w (.int .u32 (Sh.nS x n)) :=
 (zF x n w hn).mono fun _ _ ⟨he,m,hm⟩=>⟨he,hm ▸ below_drewN (Below.refl _ _) m⟩
theorem Eb (w:World):Calls Tryz.prog 299 #[] w fun e w'=>e=.returned (.slice (some ⟨w.heap.size,0,none⟩) 64 64)/\w'=w.alloc (.cells (Sh.uC Sh.kc) 310):=by
 go_enter Tryz.func299,Tryz.ntmps299
 go_wp2;go_ret;exact ⟨rfl,rfl⟩
theorem aF.gets {w:World} {B:Nat} {l:List Int} {n:Nat} {v:Value} (h:aF 310 1 B n (l.flatMap lu) v w) (hn:l.length=n) (h0:0<n) :
 ∃g cap,v=.slice (some ⟨g,0,none⟩) n cap/\B<=g/\g<w.heap.size/\n<=cap/\cap<=maxLen/\∀w',Below w.heap.size w w'->∀(j:Nat) (x:Int),l[j]? = some x->w'.cell? ⟨g,j,none⟩=some (.int .u32 x):=by
 rcases h with ⟨-,h,-⟩|⟨cap,⟨g,cells,rfl,hg,hnc,hbx,hcs,hfl⟩,hm⟩
 · omega
 · refine⟨g,cap,rfl,hg,hbx.lt,hnc,hm,fun w' hb j x hj=>?_⟩;have h2:=flat_get (f:=lu) (size:=1) (fun _=>rfl) l j 0 x hj (by omega);rw [Nat.mul_one,Nat.add_zero]at h2;rw [←hfl,List.getElem?_take]at h2
   split at h2
   · exact (hbx.call hb).cell _ (by simpa [lu] using h2)
   · cases h2
theorem tN {w:World} {g:Nat} {x:Int} (h:Bx w g 310 #[.int .u32 x]):Src Tryz.prog 1 356 (.slice (some ⟨g,0,none⟩) 1 1) 1 (lu x) w :=
 dI.src (P:=Tryz.prog) (size:=1) (B:=0) (cap:=1) (e:=310) (t:=356) (fun u hu=>by simp only[lu,List.mem_cons,List.not_mem_nil,or_false]at hu;subst hu;rfl) fJ ⟨g,_,rfl,Nat.zero_le _,Nat.le_refl _,h,rfl,rfl⟩
theorem aF.mono {e:TypeId} {size B B' n:Nat} {flat:List Value} {v:Value} {w:World} (h:aF e size B n flat v w) (hB:B'<=B):aF e size B' n flat v w:=by
 rcases h with h|⟨cap,⟨g,cells,h1,h2,h3⟩,hm⟩
 · exact .inl h
 · exact .inr ⟨cap,⟨g,cells,h1,Nat.le_trans hB h2,h3⟩,hm⟩
theorem Ip (h:Sh.S8) (b:List UInt8) (Ah Ab:Option Addr) (ch cb:Nat) (w:World) (hH:At 1 lu w w.heap.size Ah h.l) (hA:At 1 Ob w w.heap.size Ab b) (hch:8<=ch) (hcb:64<=cb) (hl:b.length=64) :
 Calls Tryz.prog 273 #[.slice Ah 8 ch,.slice Ab 64 cb] w fun e w'=>(∃v,e=.returned v/\aF 310 1 w.heap.size 8 ((Sh.comp h b).l.flatMap lu) v w')/\Below w.heap.size w w':=by
 obtain⟨p,off,rfl,hp,hby⟩:=hA.Oc (Nat.le_refl _) (by omega);obtain ⟨bi,hbi,hbz,hbs,hbb⟩:=Vs;have hr0:aF 310 1 w.heap.size 0 (((Sh.sH b).take 0).flatMap lu) (.slice none 0 0) w:=.inl ⟨rfl,rfl,rfl⟩;have hb0:=aP w
 go_enter Tryz.func273,Tryz.ntmps273
 go_wp2_with fail
 go_loopw [5,6] (fun s5 s6 wr=>∃k:Nat,k<=16/\s6=.int .i64 k/\aF 310 1 w.heap.size k (((Sh.sH b).take k).flatMap lu) s5 wr/\Below w.heap.size w wr) (fun s5 s6 _=>16-(intOf s6).toNat)
 case atStart=>exact⟨0,by omega,rfl,hr0,hb0⟩
 case round =>
  clear hr0 hb0;obtain ⟨k,hk,rfl,hrow,hb⟩:=hrel;by_cases hlt:k<16
  · obtain⟨v5,hv5⟩:∃v5,v5=u5:=⟨_,rfl⟩
    obtain⟨x,hx⟩:∃x,Kp (x=Sh.Oc (Sh.bD b (4*k)) (Sh.bD b (4*k+1)) (Sh.bD b (4*k+2)) (Sh.bD b (4*k+3))):=⟨_,⟨rfl⟩⟩
    have hxe:Kp (bits .or .u32 (bits .or .u32 (bits .or .u32 (Sh.bD b (4*k) % 4294967296*16777216 % 4294967296) (Sh.bD b (4*k+1) % 4294967296*65536 % 4294967296)) (Sh.bD b (4*k+2) % 4294967296*256 % 4294967296)) (Sh.bD b (4*k+3) % 4294967296)=x):=⟨hx.out.symm⟩
    have hnx:Kp (((Sh.sH b).take k).flatMap lu++lu x=((Sh.sH b).take (k+1)).flatMap lu):=⟨by
     rw[List.take_add_one,Sh.EC hlt,←hx.out,List.flatMap_append];simp⟩
    rw[←hv5]at hrow ⊢;clear hv5 hx;go_wp2_with fail;refine RS.au (RS.dX (wr.heap.size) 4 #[] #[]) [] [RS.ak (v5),RS.ak (.slice (some ⟨p,off,none⟩) 64 cb),RS.ak (.int .i64 k),RS.ak (.int .i64 (4*(k:Int))),RS.ak (.pointer (some ⟨p,off+4*k,none⟩)),RS.ak (.int .u8 (Sh.bD b (4*k))),RS.ak (.int .u32 (Sh.bD b (4*k) % 4294967296)),RS.ak (.int .u32 (Sh.bD b (4*k) % 4294967296*16777216 % 4294967296)),RS.ak (.slice (some ⟨p,off,none⟩) 64 cb),RS.ak (.int .i64 k),RS.ak (.int .i64 (4*(k:Int))),RS.ak (.int .i64 (4*(k:Int)+1)),RS.ak (.pointer (some ⟨p,off+(4*k+1),none⟩)),RS.ak (.int .u8 (Sh.bD b (4*k+1))),RS.ak (.int .u32 (Sh.bD b (4*k+1) % 4294967296)),RS.ak (.int .u32 (Sh.bD b (4*k+1) % 4294967296*65536 % 4294967296)),RS.ak (.int .u32 (bits .or .u32 (Sh.bD b (4*k) % 4294967296*16777216 % 4294967296) (Sh.bD b (4*k+1) % 4294967296*65536 % 4294967296))),RS.ak (.slice (some ⟨p,off,none⟩) 64 cb),RS.ak (.int .i64 k),RS.ak (.int .i64 (4*(k:Int))),RS.ak (.int .i64 (4*(k:Int)+2)),RS.ak (.pointer (some ⟨p,off+(4*k+2),none⟩)),RS.ak (.int .u8 (Sh.bD b (4*k+2))),RS.ak (.int .u32 (Sh.bD b (4*k+2) % 4294967296)),RS.ak (.int .u32 (Sh.bD b (4*k+2) % 4294967296*256 % 4294967296)),RS.ak (.int .u32 (bits .or .u32 (bits .or .u32 (Sh.bD b (4*k) % 4294967296*16777216 % 4294967296) (Sh.bD b (4*k+1) % 4294967296*65536 % 4294967296)) (Sh.bD b (4*k+2) % 4294967296*256 % 4294967296))),RS.ak (.slice (some ⟨p,off,none⟩) 64 cb),RS.ak (.int .i64 k),RS.ak (.int .i64 (4*(k:Int))),RS.ak (.int .i64 (4*(k:Int)+3)),RS.ak (.pointer (some ⟨p,off+(4*k+3),none⟩)),RS.ak (.int .u8 (Sh.bD b (4*k+3))),RS.ak (.int .u32 (Sh.bD b (4*k+3) % 4294967296)),RS.ak (.int .u32 x),RS.Bz (wr.heap.size) 310 1 #[.int .u32 x]] 35 238 (by kernel_rfl) rfl rfl (by kernel_rfl) (by kernel_rfl) ?_ ?_ ?_
    · simp only[RS.aY]
      and_intros <;> first|exact RS.aI _|exact RS.d_ (by first|(left;decide)|(right;decide)|(right;simp))|trivial
    · simp only[RS.aT,List.take,List.length];refine ⟨?_,?_,?_,?_,?_,?_,?_,?_,?_,?_,?_,?_,?_,?_,?_,?_,?_,?_,?_,?_,?_,?_,?_,?_,?_,?_,?_,?_,?_,?_,?_,?_,?_,?_,?_,trivial⟩;all_goals (intro vs w2 hb2 hd;simp only[RS.aN,Act.put,List.nil_append,List.cons_append,List.setIfInBounds_toArray,List.set_cons_succ,List.set_cons_zero,Nat.reduceAdd])
      · clear hd;go_wp2;exact aO
      · clear hd;go_wp2;exact aO
      · clear hd;go_wp2;exact aO
      · have e0:vs 2=_:=hd 2 rfl;clear hd;rw [e0];go_wp2;exact aO
      · have e0:vs 1=_:=hd 1 rfl;have e1:vs 3=_:=hd 3 rfl;clear hd;rw [e0,e1];go_wp2;exact aO
      · have e0:vs 4=_:=hd 4 rfl;have q0:=hby w2 (4*k) (ah hb hb2.bl) (by omega);clear hd;rw [e0];go_wp2;exact aO
      · have e0:vs 5=_:=hd 5 rfl;clear hd;rw [e0];go_wp2;exact aO
      · have e0:vs 6=_:=hd 6 rfl;clear hd;rw [e0];go_wp2;exact aO
      · clear hd;go_wp2;exact aO
      · clear hd;go_wp2;exact aO
      · have e0:vs 9=_:=hd 9 rfl;clear hd;rw [e0];go_wp2;exact aO
      · have e0:vs 10=_:=hd 10 rfl;clear hd;rw [e0];go_wp2;exact aO
      · have e0:vs 8=_:=hd 8 rfl;have e1:vs 11=_:=hd 11 rfl;clear hd;rw [e0,e1];go_wp2;exact aO
      · have e0:vs 12=_:=hd 12 rfl;have q0:=hby w2 (4*k+1) (ah hb hb2.bl) (by omega);clear hd;rw [e0];go_wp2;exact aO
      · have e0:vs 13=_:=hd 13 rfl;clear hd;rw [e0];go_wp2;exact aO
      · have e0:vs 14=_:=hd 14 rfl;clear hd;rw [e0];go_wp2;exact aO
      · have e0:vs 7=_:=hd 7 rfl;have e1:vs 15=_:=hd 15 rfl;clear hd;rw [e0,e1];go_wp2;exact aO
      · clear hd;go_wp2;exact aO
      · clear hd;go_wp2;exact aO
      · have e0:vs 18=_:=hd 18 rfl;clear hd;rw [e0];go_wp2;exact aO
      · have e0:vs 19=_:=hd 19 rfl;clear hd;rw [e0];go_wp2;exact aO
      · have e0:vs 17=_:=hd 17 rfl;have e1:vs 20=_:=hd 20 rfl;clear hd;rw [e0,e1];go_wp2;exact aO
      · have e0:vs 21=_:=hd 21 rfl;have q0:=hby w2 (4*k+2) (ah hb hb2.bl) (by omega);clear hd;rw [e0];go_wp2;exact aO
      · have e0:vs 22=_:=hd 22 rfl;clear hd;rw [e0];go_wp2;exact aO
      · have e0:vs 23=_:=hd 23 rfl;clear hd;rw [e0];go_wp2;exact aO
      · have e0:vs 16=_:=hd 16 rfl;have e1:vs 24=_:=hd 24 rfl;clear hd;rw [e0,e1];go_wp2;exact aO
      · clear hd;go_wp2;exact aO
      · clear hd;go_wp2;exact aO
      · have e0:vs 27=_:=hd 27 rfl;clear hd;rw [e0];go_wp2;exact aO
      · have e0:vs 28=_:=hd 28 rfl;clear hd;rw [e0];go_wp2;exact aO
      · have e0:vs 26=_:=hd 26 rfl;have e1:vs 29=_:=hd 29 rfl;clear hd;rw [e0,e1];go_wp2;exact aO
      · have e0:vs 30=_:=hd 30 rfl;have q0:=hby w2 (4*k+3) (ah hb hb2.bl) (by omega);clear hd;rw [e0];go_wp2;exact aO
      · have e0:vs 31=_:=hd 31 rfl;clear hd;rw [e0];go_wp2;exact aO
      · have e0:vs 25=_:=hd 25 rfl;have e1:vs 32=_:=hd 32 rfl;clear hd;rw [e0,e1];go_wp2;first|exact⟨RS.KZ.rf _ _ _ _ _,congrArg (Value.int .u32) hxe.out⟩|exact congrArg (Value.int .u32) hxe.out|exact⟨RS.KZ.rf _ _ _ _ _,rfl⟩|rfl|exact⟨RS.KZ.rf _ _ _ _ _,by simp[RS.ak]⟩|exact RS.KZ.rf _ _ _ _ _|(refine ⟨RS.KZ.rf _ _ _ _ _,?_⟩;simp only[RS.ak,Value.int.injEq,true_and];omega)|(simp [RS.ak])
      · have e0:vs 33=_:=hd 33 rfl;have hK:=hb2.slice (Nat.le_refl _) 310 1 #[.int .u32 x] undef;clear hd hb2;rw [e0];go_wp2;first|exact hK|exact hK.2|exact⟨hK.1,hK.2⟩
    · intro vs wa hba hR2;simp only[RS.bV,RS.ak]at hR2;obtain ⟨e0,e1,e2,e3,e4,e5,e6,e7,e8,e9,e10,e11,e12,e13,e14,e15,e16,e17,e18,e19,e20,e21,e22,e23,e24,e25,e26,e27,e28,e29,e30,e31,e32,e33,e34,-⟩:=hR2;obtain ⟨gL34,Rn,WV,Yu⟩:=e34;simp only[List.drop,List.take,List.map,RS.aN,Act.put,List.setIfInBounds_toArray,List.set_cons_succ,List.set_cons_zero,Nat.reduceAdd];rw [e0,e1,e2,e3,e4,e5,e6,e7,e8,e9,e10,e11,e12,e13,e14,e15,e16,e17,e18,e19,e20,e21,e22,e23,e24,e25,e26,e27,e28,e29,e30,e31,e32,e33,Rn];clear e0 e1 e2 e3 e4 e5 e6 e7 e8 e9 e10 e11 e12 e13 e14 e15 e16 e17 e18 e19 e20 e21 e22 e23 e24 e25 e26 e27 e28 e29 e30 e31 e32 e33 Rn;have hb5:=ah hb hba.bl;refine aH rfl (.tmp 23) (.tmp 57) 356 310 rfl bi (.int .u32 0) 1 w.heap.size k 1 (((Sh.sH b).take k).flatMap lu) (lu x) v5 (.slice (some ⟨gL34,0,none⟩) 1 1) fJ hbi hbz hbs rfl rfl rfl (aW _ _ _ _ _ _ _ _ hrow hba.bl) hb5.size (tN Yu) (by decide) (by unfold maxLen;omega) (by rw[hbb];omega) ?_;intro v7 w7 hb7 bH;rw [hnx.out]at bH;replace hb7:=hb5.trans hb7;clear hba hb5 Yu WV hrow hxe hnx;go_wp2;exact ⟨⟨k+1,by omega,by go_num,bH,hb7⟩,by simp[intOf];omega⟩
  · have TL:k=16:=by omega
    rw[List.take_of_length_le (by rw[Sh.jw,TL];exact Nat.le_refl _),TL]at hrow;clear TL;have hext:Kp (Sh.ext (48-0) (Sh.sH b)=Sh.F8 b):=⟨rfl⟩
    have hwl:(Sh.sH b).length=0+16:=Sh.jw b;generalize Sh.sH b=l0 at *;go_wp2_with fail
    go_loopw [5,7] (fun s5 s7 wr=>∃(m:Nat) (l:List Int),m<=48/\s7=.int .i64 ((m+16:Nat):Int)/\l.length=m+16/\Kp (Sh.ext (48-m) l=Sh.F8 b)/\aF 310 1 w.heap.size (m+16) (l.flatMap lu) s5 wr/\Below w.heap.size w wr) (fun s5 s7 _=>64-(intOf s7).toNat)
    case atStart=>exact⟨0,l0,by omega,rfl,hwl,hext,hrow,hb⟩
    case round =>
     clear hext hrow hb hwl;obtain ⟨m,l,hm,rfl,hll,hext,hrow,hb⟩:=hrel;obtain ⟨gw,cw,rfl,hgw,hgl,hnw,hcw,hwg⟩:=hrow.gets hll (by omega);by_cases hlt:m<48
     · have hg:∀j (h:j<l.length),l[j]? = some l[j]:=fun j h=>List.getElem?_eq_getElem h
       have ha16:=hg m (by omega);have ha15:=hg (m+1) (by omega);have ha7:=hg (m+9) (by omega);have ha2:=hg (m+14) (by omega);have hx:Kp (Sh.U5 l=Sh.W (Sh.W (Sh.W (l[m]+Sh.s0 l[m+1])+l[m+9])+Sh.s1 l[m+14])):=⟨Sh.JY hll (by omega)⟩
       generalize l[m]=a16 at *;generalize l[m+1]=yU at *;generalize l[m+9]=a7 at *;generalize l[m+14]=a2 at *;obtain ⟨x,hxn⟩:∃x,Kp (Sh.U5 l=x):=⟨_,⟨rfl⟩⟩
       obtain⟨s8,hs8⟩:∃s,Kp (Sh.s0 yU=s):=⟨_,⟨rfl⟩⟩
       obtain⟨s9,hs9⟩:∃s,Kp (Sh.s1 a2=s):=⟨_,⟨rfl⟩⟩
       have hxe:Kp ((((a16+s8) % 4294967296+a7) % 4294967296+s9) % 4294967296=x):=⟨by rw[←hxn.out,hx.out,hs8.out,hs9.out];rfl⟩
       have LJ:Kp (Sh.ext (48-(m+1)) (l++[x])=Sh.F8 b):=⟨by
        rw[←hxn.out,←hext.out,show 48-m=48-(m+1)+1 by omega];rfl⟩
       have hl':(l++[x]).length=m+1+16:=by simp only[List.length_append,List.length_singleton];omega
       have hfl:l.flatMap lu++lu x=(l++[x]).flatMap lu:=by rw[List.flatMap_append];simp
       have c15:=fun d os=>hwg (Sort.grow (redrawn wr d) os) (below_regrown wr d os) (m+1) yU ha15
       have c2:=fun d os=>hwg (Sort.grow (redrawn wr d) os) (below_regrown wr d os) (m+14) a2 ha2
       have k7:=fun d os=>vG yU 7 (Sort.grow (redrawn wr d) os) (by decide)
       have k18:=fun d os=>vG yU 18 (Sort.grow (redrawn wr d) os) (by decide)
       have ZB:bits .xor .u32 (bits .xor .u32 (Sh.nS yU 7) (Sh.nS yU 18)) (yU / 8)=s8:=hs8.out;have ZA:bits .xor .u32 (bits .xor .u32 (Sh.nS a2 17) (Sh.nS a2 19)) (a2 / 1024)=s9:=hs9.out;clear hg hx hxn hs8 hs9 hext;go_wp2_with fail;refine wp_region_quiet_below (by kernel_rfl) (by kernel_rfl) ?_
       repeat (go_big_quiet_step (first|(go_at_call 298;with_reducible exact Calls.regrown_of (k7 _ _))|(go_at_call 298;with_reducible exact Calls.regrown_of (k18 _ _))))
       refine wpQuiet_nil ?_;rintro _ ⟨q,rfl⟩;have hbq:=below_regrown wr q.d q.os;replace hrow:=aW _ _ _ _ _ _ _ _ hrow hbq;replace hb:=ah hb hbq;replace hgl:=Nat.lt_of_lt_of_le hgl hbq.size;replace hwg:=fun w' (hw:Below (Sort.grow (redrawn wr q.d) q.os).heap.size (Sort.grow (redrawn wr q.d) q.os) w')=>hwg w' (ah hbq hw)
       clear c15 k7 k18 hbq c2 ZB;generalize Sort.grow (redrawn wr q.d) q.os=w5 at *;have c2:=fun d os=>hwg (Sort.grow (redrawn w5 d) os) (below_regrown w5 d os) (m+14) a2 ha2
       have k17:=fun d os=>vG a2 17 (Sort.grow (redrawn w5 d) os) (by decide)
       have k19:=fun d os=>vG a2 19 (Sort.grow (redrawn w5 d) os) (by decide)
       go_wp2_with fail;refine wp_region_quiet_below (by kernel_rfl) (by kernel_rfl) ?_
       repeat (go_big_quiet_step (first|(go_at_call 298;with_reducible exact Calls.regrown_of (k17 _ _))|(go_at_call 298;with_reducible exact Calls.regrown_of (k19 _ _))))
       refine wpQuiet_nil ?_;rintro _ ⟨q,rfl⟩;have hbq:=below_regrown w5 q.d q.os;replace hrow:=aW _ _ _ _ _ _ _ _ hrow hbq;replace hb:=ah hb hbq;replace hwg:=fun w' (hw:Below (Sort.grow (redrawn w5 q.d) q.os).heap.size (Sort.grow (redrawn w5 q.d) q.os) w')=>hwg w' (ah hbq hw)
       clear c2 k17 k19 hbq ZA;generalize Sort.grow (redrawn w5 q.d) q.os=w6 at *;go_wp2_with fail;refine RS.au (RS.dX (w6.heap.size) 4 #[] #[]) [] [RS.ak (.slice (some ⟨gw,0,none⟩) (m+16) cw),RS.ak (.slice (some ⟨gw,0,none⟩) (m+16) cw),RS.ak (.int .i64 (((m+16:Nat):Int))),RS.ak (.int .i64 m),RS.ak (.pointer (some ⟨gw,m,none⟩)),RS.ak (.int .u32 a16),RS.ak (.int .u32 s8),RS.ak (.int .u32 ((a16+s8) % 4294967296)),RS.ak (.slice (some ⟨gw,0,none⟩) (m+16) cw),RS.ak (.int .i64 (((m+16:Nat):Int))),RS.ak (.int .i64 ((m:Int)+9)),RS.ak (.pointer (some ⟨gw,m+9,none⟩)),RS.ak (.int .u32 a7),RS.ak (.int .u32 (((a16+s8) % 4294967296+a7) % 4294967296)),RS.ak (.int .u32 s9),RS.ak (.int .u32 x),RS.Bz (w6.heap.size) 310 1 #[.int .u32 x]] 17 238 (by kernel_rfl) rfl rfl (by kernel_rfl) (by kernel_rfl) ?_ ?_ ?_
       · simp only[RS.aY]
         and_intros <;> first|exact RS.aI _|exact RS.d_ (by first|(left;decide)|(right;decide)|(right;simp))|trivial
       · simp only[RS.aT,List.take,List.length];refine ⟨?_,?_,?_,?_,?_,?_,?_,?_,?_,?_,?_,?_,?_,?_,?_,?_,?_,trivial⟩;all_goals (intro vs w2 hb2 hd;simp only[RS.aN,Act.put,List.nil_append,List.cons_append,List.setIfInBounds_toArray,List.set_cons_succ,List.set_cons_zero,Nat.reduceAdd])
         · clear hd;go_wp2;exact aO
         · clear hd;go_wp2;exact aO
         · clear hd;go_wp2;exact aO
         · have e0:vs 2=_:=hd 2 rfl;clear hd;rw [e0];go_wp2;exact aO
         · have e0:vs 1=_:=hd 1 rfl;have e1:vs 3=_:=hd 3 rfl;clear hd;rw [e0,e1];go_wp2;exact aO
         · have e0:vs 4=_:=hd 4 rfl;have q0:=hwg w2 hb2.bl (m) _ ha16;clear hd;rw [e0];go_wp2;exact aO
         · clear hd;go_wp2;exact aO
         · have e0:vs 5=_:=hd 5 rfl;have e1:vs 6=_:=hd 6 rfl;clear hd;rw [e0,e1];go_wp2;exact aO
         · clear hd;go_wp2;exact aO
         · clear hd;go_wp2;exact aO
         · have e0:vs 9=_:=hd 9 rfl;clear hd;rw [e0];go_wp2;first|exact⟨RS.KZ.rf _ _ _ _ _,congrArg (Value.int .i64) (by omega)⟩|exact congrArg (Value.int .i64) (by omega)|exact⟨RS.KZ.rf _ _ _ _ _,rfl⟩|rfl|exact⟨RS.KZ.rf _ _ _ _ _,by simp[RS.ak]⟩|exact RS.KZ.rf _ _ _ _ _|(refine ⟨RS.KZ.rf _ _ _ _ _,?_⟩;simp only[RS.ak,Value.int.injEq,true_and];omega)|(simp [RS.ak])
         · have e0:vs 8=_:=hd 8 rfl;have e1:vs 10=_:=hd 10 rfl;clear hd;rw [e0,e1];go_wp2;exact aO
         · have e0:vs 11=_:=hd 11 rfl;have q0:=hwg w2 hb2.bl (m+9) _ ha7;clear hd;rw [e0];go_wp2;exact aO
         · have e0:vs 7=_:=hd 7 rfl;have e1:vs 12=_:=hd 12 rfl;clear hd;rw [e0,e1];go_wp2;exact aO
         · clear hd;go_wp2;exact aO
         · have e0:vs 13=_:=hd 13 rfl;have e1:vs 14=_:=hd 14 rfl;clear hd;rw [e0,e1];go_wp2;first|exact⟨RS.KZ.rf _ _ _ _ _,congrArg (Value.int .u32) (by have h9:=hxe.out;omega)⟩|exact congrArg (Value.int .u32) (by have h9:=hxe.out;omega)|exact⟨RS.KZ.rf _ _ _ _ _,rfl⟩|rfl|exact⟨RS.KZ.rf _ _ _ _ _,by simp[RS.ak]⟩|exact RS.KZ.rf _ _ _ _ _|(refine ⟨RS.KZ.rf _ _ _ _ _,?_⟩;simp only[RS.ak,Value.int.injEq,true_and];omega)|(simp [RS.ak])
         · have e0:vs 15=_:=hd 15 rfl;have hK:=hb2.slice (Nat.le_refl _) 310 1 #[.int .u32 x] undef;clear hd hb2;rw [e0];go_wp2;first|exact hK|exact hK.2|exact⟨hK.1,hK.2⟩
       · intro vs wa hba hR2;simp only[RS.bV,RS.ak]at hR2;obtain ⟨e0,e1,e2,e3,e4,e5,e6,e7,e8,e9,e10,e11,e12,e13,e14,e15,e16,-⟩:=hR2;obtain ⟨gL16,Rx,WZ,Yy⟩:=e16;simp only[List.drop,List.take,List.map,RS.aN,Act.put,List.setIfInBounds_toArray,List.set_cons_succ,List.set_cons_zero,Nat.reduceAdd];rw [e0,e1,e2,e3,e4,e5,e6,e7,e8,e9,e10,e11,e12,e13,e14,e15,Rx];clear e0 e1 e2 e3 e4 e5 e6 e7 e8 e9 e10 e11 e12 e13 e14 e15 Rx;have hb5:=ah hb hba.bl;refine aH rfl (.tmp 103) (.tmp 119) 356 310 rfl bi (.int .u32 0) 1 w.heap.size (m+16) 1 (l.flatMap lu) (lu x) (.slice (some ⟨gw,0,none⟩) (m+16) cw) (.slice (some ⟨gL16,0,none⟩) 1 1) fJ hbi hbz hbs rfl rfl rfl (aW _ _ _ _ _ _ _ _ hrow hba.bl) hb5.size (tN Yy) (by decide) (by unfold maxLen;omega) (by rw[hbb];omega) ?_;intro v7 w7 hb7 bH;rw [hfl,show m+16+1=m+1+16 by omega]at bH;replace hb7:=hb5.trans hb7;clear hba hb5 Yy WZ hrow hxe hfl hwg;go_wp2;exact ⟨⟨m+1,l++[x],by omega,by go_num,hl',LJ,bH,hb7⟩,by simp[intOf];omega⟩
     · have TF:m=48:=by omega
       have hsc:Kp (Sh.F8 b=l):=⟨by rw[←hext.out,TF];rfl⟩
       have Q5:=Kp.mk TF;clear hext TF;go_wp2_with fail;refine (Eb wr).mono ?_;rintro _ w2 ⟨rfl,rfl⟩;have hbk:=bY wr (.cells (Sh.uC Sh.kc) 310);have BK:=Bx.mk wr 310 (Sh.uC Sh.kc);have VY:=fun w' (hw:Below (wr.alloc (.cells (Sh.uC Sh.kc) 310)).heap.size (wr.alloc (.cells (Sh.uC Sh.kc) 310)) w')=>hwg w' (ah hbk hw)
       have hgk:=hgl;replace hb:=ah hb hbk;generalize Z8:wr.heap.size=gk at *;generalize wr.alloc (.cells (Sh.uC Sh.kc) 310)=w2 at *;have hsrc:=(At.src (P:=Tryz.prog) (e:=310) (t:=356) (f:=lu) (fun _=>rfl) (fun c u hu=>by simp only[lu,List.mem_cons,List.not_mem_nil,or_false]at hu;subst hu;rfl) fJ (hH.below hb) ch)
       have hrz:aF 310 1 w2.heap.size 0 [] (.slice none 0 0) w2:=.inl ⟨rfl,rfl,rfl⟩;clear hrow hwg hbk
       go_wp2_with (at_builtin;refine aH rfl (.tmp 122) (.tmp 123) 356 310 rfl bi (.int .u32 0) 1 w2.heap.size 0 8 [] (h.l.flatMap lu) (.slice none 0 0) (.slice Ah 8 ch) fJ hbi hbz hbs rfl rfl rfl hrz (Nat.le_refl _) hsrc (by decide) (by unfold maxLen;omega) (by rw[hbb];omega) ?_)
       intro v11 w3 hb3 hrow;have hz2:w.heap.size<=w2.heap.size:=hb.size;replace hrow:aF 310 1 w.heap.size 8 (h.l.flatMap lu) v11 w3:=aF.mono (by first|exact hrow|simpa using hrow) hz2;replace hb:=ah hb hb3;replace BK:=BK.call hb3;have Zw:=fun w' (hw:Below w3.heap.size w3 w')=>VY w' (ah hb3 hw)
       clear hrz hsrc VY hb3 Z8;have hs0:Kp (Sh.rs ((Sh.kc.zip l).drop 0) h=Sh.rs (Sh.kc.zip l) h):=⟨rfl⟩
       have WE:l.length=64:=by rw[hll,Q5.out]
       have hzl:(Sh.kc.zip l).length=64:=by rw[List.length_zip,WE,Sh.uf];rfl
       have hcp:Kp (Sh.comp h b=Sh.adds h (Sh.rs (Sh.kc.zip l) h)):=⟨by unfold Sh.comp;rw[hsc.out]⟩
       have ZO:Kp (m+16=64):=⟨by rw[Q5.out]⟩
       have hz3:=hb.size;have XC:=aP w3;clear hll hsc;go_wp2_with fail
       go_loopw [11,12] (fun s11 s12 wr=>∃(i:Nat) (s:Sh.S8),i<=64/\s12=.int .i64 i/\Kp (Sh.rs ((Sh.kc.zip l).drop i) s=Sh.rs (Sh.kc.zip l) h)/\aF 310 1 w.heap.size 8 (s.l.flatMap lu) s11 wr/\Below w3.heap.size w3 wr) (fun s11 s12 _=>64-(intOf s12).toNat)
       case atStart=>exact⟨0,h,by omega,rfl,hs0,hrow,XC⟩
       case round =>
        clear hs0 hrow XC;obtain ⟨i,s,hi,rfl,hs,hrow,hb3⟩:=hrel;by_cases hlt2:i<64
        · obtain⟨kx,hkx⟩:∃kx,Sh.kc[i]? = some kx:=⟨_,List.getElem?_eq_getElem (by rw[Sh.uf];exact hlt2)⟩
          obtain⟨wx,hwx⟩:∃wx,l[i]? = some wx:=⟨_,List.getElem?_eq_getElem (by omega)⟩
          have hnx:Kp (Sh.rs ((Sh.kc.zip l).drop (i+1)) (Sh.U3 s kx wx)=Sh.rs (Sh.kc.zip l) h):=⟨by
           have e:(Sh.kc.zip l)[i]? = some (kx,wx):=by rw[List.getElem?_zip_eq_some];exact⟨hkx,hwx⟩
           have hk2:i<(Sh.kc.zip l).length:=by omega
           rw[←hs.out,List.drop_eq_getElem_cons hk2];rw [List.getElem?_eq_getElem hk2]at e;rw [Option.some.inj e]
           rfl⟩
          obtain⟨a,bb,c,d,e,f,g,hh⟩:=s;obtain ⟨gv,cv,rfl,hgv,hgl,hnv,hcv,ru⟩:=hrow.gets rfl (by decide);have c0:=ru wr (aP _) 0 a rfl;have c4:=ru wr (aP _) 4 e rfl;have q1:=fun d os=>ru (Sort.grow (redrawn wr d) os) (below_regrown wr d os) 1 bb rfl
          have q2:=fun d os=>ru (Sort.grow (redrawn wr d) os) (below_regrown wr d os) 2 c rfl
          have q5:=fun d os=>ru (Sort.grow (redrawn wr d) os) (below_regrown wr d os) 5 f rfl
          have q6:=fun d os=>ru (Sort.grow (redrawn wr d) os) (below_regrown wr d os) 6 g rfl
          have q7:=fun d os=>ru (Sort.grow (redrawn wr d) os) (below_regrown wr d os) 7 hh rfl
          have qk:=fun d os=>((BK.call hb3).again d os).cell i (Sh.jE hkx)
          have qw:=fun d os=>Zw (Sort.grow (redrawn wr d) os) (fM hb3 d os) i wx hwx
          have r6:=fun d os=>vG e 6 (Sort.grow (redrawn wr d) os) (by decide)
          have r11:=fun d os=>vG e 11 (Sort.grow (redrawn wr d) os) (by decide)
          have r25:=fun d os=>vG e 25 (Sort.grow (redrawn wr d) os) (by decide)
          obtain⟨S1v,hS1⟩:∃v,Kp (Sh.S1 e=v):=⟨_,⟨rfl⟩⟩
          obtain⟨chv,PW⟩:∃v,Kp (Sh.ch e f g=v):=⟨_,⟨rfl⟩⟩
          have hS1':bits .xor .u32 (bits .xor .u32 (Sh.nS e 6) (Sh.nS e 11)) (Sh.nS e 25)=S1v:=hS1.out;have Xf:bits .xor .u32 (bits .and .u32 e f) (bits .and .u32 (bits .xor .u32 4294967295 e) g)=chv:=PW.out;have hi64:i<m+16:=by have:=ZO.out;omega
          clear hs;go_wp2_with fail;refine wp_region_quiet_below (by kernel_rfl) (by kernel_rfl) ?_
          repeat (go_big_quiet_step (first|(go_at_call 298;with_reducible exact Calls.regrown_of (r6 _ _))|(go_at_call 298;with_reducible exact Calls.regrown_of (r11 _ _))|(go_at_call 298;with_reducible exact Calls.regrown_of (r25 _ _))))
          refine wpQuiet_nil ?_;rintro _ ⟨q,rfl⟩;have hbq:=below_regrown wr q.d q.os;replace hb3:=ah hb3 hbq;replace ru:=fun w' (hw:Below (Sort.grow (redrawn wr q.d) q.os).heap.size (Sort.grow (redrawn wr q.d) q.os) w')=>ru w' (ah hbq hw)
          obtain⟨x1,hx1⟩:∃x1,Kp (Sh.t1 ⟨a,bb,c,d,e,f,g,hh⟩ kx wx=x1):=⟨_,⟨rfl⟩⟩
          obtain⟨x2,hx2⟩:∃x2,Kp (Sh.t2 ⟨a,bb,c,d,e,f,g,hh⟩=x2):=⟨_,⟨rfl⟩⟩
          have hy1:((hh+S1v+bits .xor .u32 (bits .and .u32 e f) (bits .and .u32 (bits .xor .u32 (if IntKind.u32.signed=true then -1 else IntKind.u32.max) e) g)+kx) % 4294967296+wx) % 4294967296=x1:=by
           have e9:bits .xor .u32 (bits .and .u32 e f) (bits .and .u32 (bits .xor .u32 (if IntKind.u32.signed=true then -1 else IntKind.u32.max) e) g)=chv:=PW.out;have h9:(((((hh+S1v) % 4294967296+chv) % 4294967296+kx) % 4294967296)+wx) % 4294967296=x1:=by rw[←hx1.out,←hS1.out,←PW.out];rfl
           rw[e9];omega
          rw[hy1];have hrn:Kp (Sh.U3 ⟨a,bb,c,d,e,f,g,hh⟩ kx wx=⟨(x1+x2) % 4294967296,a,bb,c,(d+x1) % 4294967296,e,f,g⟩):=⟨by rw[←hx1.out,←hx2.out];rfl⟩
          obtain⟨S0v,hS0⟩:∃v,Kp (Sh.S0 a=v):=⟨_,⟨rfl⟩⟩
          obtain⟨mjv,hmj⟩:∃v,Kp (Sh.maj a bb c=v):=⟨_,⟨rfl⟩⟩
          have hS0':bits .xor .u32 (bits .xor .u32 (Sh.nS a 2) (Sh.nS a 13)) (Sh.nS a 22)=S0v:=hS0.out;have ZN:bits .xor .u32 (bits .xor .u32 (bits .and .u32 a bb) (bits .and .u32 a c)) (bits .and .u32 bb c)=mjv:=hmj.out;have VX:(S0v+mjv) % 4294967296=x2:=by rw[←hx2.out,←hS0.out,←hmj.out];rfl
          clear q1 q2 q5 q6 q7 qk qw r6 r11 r25 hS1' Xf hy1 hbq hS1 PW hx1 hx2 hS0 hmj hrow hgl;generalize Sort.grow (redrawn wr q.d) q.os=w5 at *;have q1:=fun d os=>ru (Sort.grow (redrawn w5 d) os) (below_regrown w5 d os) 1 bb rfl
          have q2:=fun d os=>ru (Sort.grow (redrawn w5 d) os) (below_regrown w5 d os) 2 c rfl
          have r2:=fun d os=>vG a 2 (Sort.grow (redrawn w5 d) os) (by decide)
          have r13:=fun d os=>vG a 13 (Sort.grow (redrawn w5 d) os) (by decide)
          have r22:=fun d os=>vG a 22 (Sort.grow (redrawn w5 d) os) (by decide)
          go_wp2_with fail;refine wp_region_quiet_below (by kernel_rfl) (by kernel_rfl) ?_
          repeat (go_big_quiet_step (first|(go_at_call 298;with_reducible exact Calls.regrown_of (r2 _ _))|(go_at_call 298;with_reducible exact Calls.regrown_of (r13 _ _))|(go_at_call 298;with_reducible exact Calls.regrown_of (r22 _ _))))
          refine wpQuiet_nil ?_;rintro _ ⟨q,rfl⟩;have hbq:=below_regrown w5 q.d q.os;replace hb3:=ah hb3 hbq;replace ru:=fun w' (hw:Below (Sort.grow (redrawn w5 q.d) q.os).heap.size (Sort.grow (redrawn w5 q.d) q.os) w')=>ru w' (ah hbq hw)
          rw[VX];clear q1 q2 r2 r13 r22 hS0' ZN VX hbq;generalize Sort.grow (redrawn w5 q.d) q.os=w6 at *;have q1:=fun d os=>ru (Sort.grow (redrawn w6 d) os) (below_regrown w6 d os) 1 bb rfl
          have q2:=fun d os=>ru (Sort.grow (redrawn w6 d) os) (below_regrown w6 d os) 2 c rfl
          have q3:=fun dd os=>ru (Sort.grow (redrawn w6 dd) os) (below_regrown w6 dd os) 3 d rfl
          have q5:=fun d os=>ru (Sort.grow (redrawn w6 d) os) (below_regrown w6 d os) 5 f rfl
          have q6:=fun d os=>ru (Sort.grow (redrawn w6 d) os) (below_regrown w6 d os) 6 g rfl
          go_wp2_with fail;refine bQ 22 (by kernel_rfl) (by kernel_rfl) ?_;simp only[List.take,List.drop]
          repeat (go_big_quiet_step (fail))
          refine wpQuiet_nil ?_;rintro _ ⟨q,rfl⟩;replace hb3:=fM hb3 q.d q.os;clear q1 q2 q3 q5 q6 ru c0 c4;generalize Sort.grow (redrawn w6 q.d) q.os=w7 at *;have rW:=Bx.mk w7 310 #[.int .u32 ((x1+x2) % 4294967296),.int .u32 a,.int .u32 bb,.int .u32 c,.int .u32 ((d+x1) % 4294967296),.int .u32 e,.int .u32 f,.int .u32 g];have hb8:=bNew hb3 (.cells #[.int .u32 ((x1+x2) % 4294967296),.int .u32 a,.int .u32 bb,.int .u32 c,.int .u32 ((d+x1) % 4294967296),.int .u32 e,.int .u32 f,.int .u32 g] 310);have U7:w.heap.size<=w7.heap.size:=by have:=hb3.size;omega
          have ES:aF 310 1 w.heap.size 8 ((Sh.U3 ⟨a,bb,c,d,e,f,g,hh⟩ kx wx).l.flatMap lu) (.slice (some ⟨w7.heap.size,0,none⟩) 8 8) (w7.alloc (.cells #[.int .u32 ((x1+x2) % 4294967296),.int .u32 a,.int .u32 bb,.int .u32 c,.int .u32 ((d+x1) % 4294967296),.int .u32 e,.int .u32 f,.int .u32 g] 310)):=by
           rw[hrn.out];exact .inr ⟨8,⟨w7.heap.size,_,rfl,U7,Nat.le_refl _,rW,rfl,rfl⟩,by unfold maxLen;omega⟩
          clear hrn rW hb3;go_wp2;exact ⟨⟨i+1,_,by omega,by go_num,hnx,ES,hb8⟩,by simp[intOf];omega⟩
        · have hi64:i=64:=by omega
          have hfin:Kp (Sh.comp h b=Sh.adds h s):=⟨by rw[hcp.out,←hs.out,List.drop_eq_nil_of_le (by omega)];rfl⟩
          clear hs hi64;obtain ⟨gv,cv,rfl,hgv,hgl,hnv,hcv,ru⟩:=hrow.gets rfl (by decide);obtain ⟨ph,oh,rfl,hph,hpc⟩:=hH (show 0<h.l.length from Nat.succ_pos _);have hbw:=ah hb hb3;generalize wr=w9 at *;have hr0:aF 310 1 w9.heap.size 0 (((Sh.adds h s).l.take 0).flatMap lu) (.slice none 0 0) w9:=.inl ⟨rfl,rfl,rfl⟩;have hbr:=aP w9;have hzr:=hbw.size;clear hrow hb3;go_wp2_with fail
          go_loopw [17,18] (fun s17 Za wr=>∃i:Nat,i<=8/\Za=.int .i64 i/\aF 310 1 w9.heap.size i (((Sh.adds h s).l.take i).flatMap lu) s17 wr/\Below w9.heap.size w9 wr) (fun s17 Za _=>8-(intOf Za).toNat)
          case atStart=>exact⟨0,by omega,rfl,hr0,hbr⟩
          case round =>
           clear hr0 hbr;obtain ⟨i,uX,rfl,hrow,hbq⟩:=hrel;by_cases Lj:i<8
           · obtain⟨x,hx⟩:∃x,h.l[i]? = some x:=⟨_,List.getElem?_eq_getElem (show i<h.l.length from Lj)⟩
             obtain⟨y,hy⟩:∃y,s.l[i]? = some y:=⟨_,List.getElem?_eq_getElem (show i<s.l.length from Lj)⟩
             have hxy:=Sh.Bv hx hy
             have hnx:Kp (((Sh.adds h s).l.take i).flatMap lu++lu ((x+y) % 4294967296)=((Sh.adds h s).l.take (i+1)).flatMap lu):=⟨by
              rw[List.take_add_one,hxy,List.flatMap_append];simp⟩
             have hhx:∀w',Below w.heap.size w w'->w'.cell? ⟨ph,oh+i,none⟩=some (.int .u32 x):=fun w' hw=>by
              have:=(hw.cell (p:=⟨ph,oh+i*1+0,none⟩) hph).trans (hpc i x hx 0 _ rfl)
              rwa [Nat.mul_one,Nat.add_zero]at this
             have hvy:∀w',Below wr.heap.size wr w'->w'.cell? ⟨gv,i,none⟩=some (.int .u32 y):=fun w' hw=>ru w' (ah hbq hw) i y hy
             have hbw2:=ah hbw hbq;obtain ⟨v17,V4⟩:∃v,v=u17:=⟨_,rfl⟩
             rw[←V4]at hrow ⊢;clear V4 hx hy hxy;go_wp2_with fail;refine RS.au (RS.dX (wr.heap.size) 4 #[] #[]) [] [RS.ak (v17),RS.ak (.slice (some ⟨ph,oh,none⟩) 8 ch),RS.ak (.int .i64 i),RS.ak (.pointer (some ⟨ph,oh+i,none⟩)),RS.ak (.int .u32 x),RS.ak (.slice (some ⟨gv,0,none⟩) 8 cv),RS.ak (.int .i64 i),RS.ak (.pointer (some ⟨gv,i,none⟩)),RS.ak (.int .u32 y),RS.ak (.int .u32 ((x+y) % 4294967296)),RS.Bz (wr.heap.size) 310 1 #[.int .u32 ((x+y) % 4294967296)]] 11 238 (by kernel_rfl) rfl rfl (by kernel_rfl) (by kernel_rfl) ?_ ?_ ?_
             · simp only[RS.aY]
               and_intros <;> first|exact RS.aI _|exact RS.d_ (by first|(left;decide)|(right;decide)|(right;simp))|trivial
             · simp only[RS.aT,List.take,List.length];refine ⟨?_,?_,?_,?_,?_,?_,?_,?_,?_,?_,?_,trivial⟩;all_goals (intro vs w2 hb2 hd;simp only[RS.aN,Act.put,List.nil_append,List.cons_append,List.setIfInBounds_toArray,List.set_cons_succ,List.set_cons_zero,Nat.reduceAdd])
               · clear hd;go_wp2;exact aO
               · clear hd;go_wp2;exact aO
               · clear hd;go_wp2;exact aO
               · have e0:vs 1=_:=hd 1 rfl;have e1:vs 2=_:=hd 2 rfl;clear hd;rw [e0,e1];go_wp2;exact aO
               · have e0:vs 3=_:=hd 3 rfl;have q0:=hhx w2 (ah hbw2 hb2.bl);clear hd;rw [e0];go_wp2;exact aO
               · clear hd;go_wp2;exact aO
               · clear hd;go_wp2;exact aO
               · have e0:vs 5=_:=hd 5 rfl;have e1:vs 6=_:=hd 6 rfl;clear hd;rw [e0,e1];go_wp2;exact aO
               · have e0:vs 7=_:=hd 7 rfl;have q0:=hvy w2 hb2.bl;clear hd;rw [e0];go_wp2;exact aO
               · have e0:vs 4=_:=hd 4 rfl;have e1:vs 8=_:=hd 8 rfl;clear hd;rw [e0,e1];go_wp2;exact aO
               · have e0:vs 9=_:=hd 9 rfl;have hK:=hb2.slice (Nat.le_refl _) 310 1 #[.int .u32 ((x+y) % 4294967296)] undef;clear hd hb2;rw [e0];go_wp2;first|exact hK|exact hK.2|exact⟨hK.1,hK.2⟩
             · intro vs wa hba hR2;simp only[RS.bV,RS.ak]at hR2;obtain ⟨e0,e1,e2,e3,e4,e5,e6,e7,e8,e9,e10,-⟩:=hR2;obtain ⟨gL10,Ry,W_,Yz⟩:=e10;simp only[List.drop,List.take,List.map,RS.aN,Act.put,List.setIfInBounds_toArray,List.set_cons_succ,List.set_cons_zero,Nat.reduceAdd];rw [e0,e1,e2,e3,e4,e5,e6,e7,e8,e9,Ry];clear e0 e1 e2 e3 e4 e5 e6 e7 e8 e9 Ry;have hb5:=ah hbq hba.bl;refine aH rfl (.tmp 225) (.tmp 235) 356 310 rfl bi (.int .u32 0) 1 w9.heap.size i 1 (((Sh.adds h s).l.take i).flatMap lu) (lu ((x+y) % 4294967296)) v17 (.slice (some ⟨gL10,0,none⟩) 1 1) fJ hbi hbz hbs rfl rfl rfl (aW _ _ _ _ _ _ _ _ hrow hba.bl) hb5.size (tN Yz) (by decide) (by unfold maxLen;omega) (by rw[hbb];omega) ?_;intro v7 w7 hb7 bH;rw [hnx.out]at bH;replace hb7:=hb5.trans hb7;clear hba hb5 Yz W_ hrow hnx hhx hvy;go_wp2;exact ⟨⟨i+1,by omega,by go_num,bH,hb7⟩,by simp[intOf];omega⟩
           · have G9:i=8:=by omega
             rw[List.take_of_length_le (show (Sh.adds h s).l.length<=i by rw[G9];exact Nat.le_refl _),G9]at hrow;have V8:=aF.mono hrow hzr;have aX:=ah hbw hbq;clear G9 ru hpc;go_wp2;go_ret;exact ⟨⟨_,rfl,by rw[hfin.out];exact V8⟩,aX⟩
theorem Ei:∃i,Tryz.prog.info? 5=some i/\i.zero=some (.int .u8 0)/\i.size=1/\i.bytes=1:=by
 have h:(Tryz.prog.info? 5).map (fun i=>(i.zero,i.size,i.bytes))=some (some (.int .u8 0),1,1):=by kernel_rfl
 exact info_parts h
theorem O1 (l:List UInt8):∀(acc:ByteArray),(l.map fun c=>((c.toNat:Nat):Int)).foldl (fun r n=>r.push (UInt8.ofNat n.toNat)) acc=⟨acc.data++l.toArray⟩:=by
 induction l with
 | nil=>intro acc;apply ByteArray.ext;simp
 | cons c l ih =>
  intro acc;rw [List.map_cons,List.foldl_cons,ih];apply ByteArray.ext
  simp
theorem pW (W:World) (g cap:Nat) (l:List UInt8) (h:∀j x,l[j]? = some x->W.cell? ⟨g,j,none⟩=some (.int .u8 x.toNat)) :
 (convert 157 9 (.slice (some ⟨g,0,none⟩) l.length cap)).run Tryz.prog W=.ok (.string ⟨l.toArray⟩) W:=by
 have hl:=run_loadCells_list (P:=Tryz.prog) (w:=W) ⟨g,0,none⟩ (l.map fun c=>Value.int .u8 c.toNat) (fun j v hj=>by
  rw[List.getElem?_map]at hj
  cases hx:l[j]? with
  | none=>rw[hx]at hj;cases hj
  | some x =>
   rw[hx]at hj;simp only[Option.map_some,Option.some.injEq]at hj;rw [Addr.add_lit,Nat.zero_add,←hj]
   exact h j x hx)
 rw[List.length_map]at hl;rw [run_convert_bytes_string W 157 9 5 _ _ _ Tryz.underlying157 Tryz.underlying5 Tryz.underlying9,run_bytesToString W _ _ _ (l.map fun c=>((c.toNat:Nat):Int)) (by rw[hl];simp),O1];simp
theorem D5 (h:Sh.S8) (w:World) :
 bP 238 #[.agg (Sh.uC h.l)] w (.string ⟨(Sh.out h).toArray⟩):=by
 have MB:(Tryz.prog.info? 324).map (·.size)=some (Sh.uC h.l).size:=by rw[Sh.jY];exact rH
 have hix:=fun (i:Nat) (x:Int) (hx:h.l[i]? = some x) W=>vX oz h.l rfl hx W
 generalize YI:Sh.uC h.l=x8 at *;have BH:=(Bx.mk w 324 x8).new (.cells (Sh.bC (List.replicate 32 0)) 364);obtain ⟨W2,hW2⟩:∃W2,W2=(w.alloc (.cells x8 324)).alloc (.cells (Sh.bC (List.replicate 32 0)) 364):=⟨_,rfl⟩
 have hsz:(w.alloc (.cells x8 324)).heap.size=w.heap.size+1:=World.size_alloc _ _;have BO:Bx W2 (w.heap.size+1) 364 (Sh.bC ((Sh.out h).take (4*0)++List.replicate (32-4*0) 0)):=by rw[hW2,←hsz];exact Bx.mk _ _ _
 have hb2:Below w.heap.size w W2:=by rw[hW2];exact bNew (bY w _) _
 have YS:=Kp.mk MB;have z0:(((0:UInt8).toNat:Nat):Int)=0:=rfl;simp only[Sh.bC,List.replicate,List.map_cons,List.map_nil,z0]at hW2 BH;clear z0;have LX:=Kp.mk hW2;clear YI MB hsz hW2
 go_enter Tryz.func238,Tryz.ntmps238
 go_wp2_with (refine wpList_load_row rfl 324 _ rfl w.heap.size rfl 324 x8 (0,0) _ BH oz rfl YS.out ?_)
 rw[←LX.out];clear LX BH YS
 go_loopw [8] (fun s8 wr=>∃i:Nat,i<=8/\s8=.int .i64 i/\Bx wr (w.heap.size+1) 364 (Sh.bC ((Sh.out h).take (4*i)++List.replicate (32-4*i) 0))/\Below w.heap.size w wr) (fun s8 _=>8-(intOf s8).toNat)
 case atStart=>exact⟨0,by omega,rfl,BO,hb2⟩
 case round =>
  clear BO hb2;obtain ⟨i,uX,rfl,BO,hb⟩:=hrel;by_cases hlt:i<8
  · obtain⟨x,hx⟩:∃x,h.l[i]? = some x:=⟨_,List.getElem?_eq_getElem (show i<h.l.length from hlt)⟩
    have hxi:=fun W=>hix i x hx W
    have hog:=fun (k:Nat) (hk:k<4)=>Sh.O5 hx hk
    clear hix hx;go_wp2_with fail
    go_loopw [12] (fun s12 wr=>∃k:Nat,k<=4/\s12=.int .i64 k/\Bx wr (w.heap.size+1) 364 (Sh.bC ((Sh.out h).take (4*i+k)++List.replicate (32-(4*i+k)) 0))/\Below w.heap.size w wr) (fun s12 _=>4-(intOf s12).toNat)
    case atStart=>exact⟨0,by omega,rfl,BO,hb⟩
    case round =>
     clear BO hb;obtain ⟨k,hk4,rfl,BO,hb⟩:=hrel;by_cases hkt:k<4
     · obtain⟨y,hy⟩:∃y,(Sh.wb x)[k]? = some y:=⟨_,List.getElem?_eq_getElem (show k<(Sh.wb x).length from hkt)⟩
       have ho:(Sh.out h)[4*i+k]? = some y:=by rw[hog k hkt,hy]
       have q0:wr.cell? ⟨w.heap.size+1,4*i+k,none⟩=some (.int .u8 0):=BO.cell (4*i+k) (Sh.uN (x:=0) (by rw[List.getElem?_append_right (by rw[List.length_take,Sh.mV];omega),List.length_take,Sh.mV,List.getElem?_replicate,if_pos (by omega)]));have f0:=BO.frozen (4*i+k);have BO2:=BO.set (4*i+k) (.int .u8 y.toNat);rw [Sh.XI (Sh.mV h) ho]at BO2;have hb2:=aQ hb (p:=⟨w.heap.size+1,4*i+k,none⟩) (show w.heap.size<=w.heap.size+1 by omega) (.int .u8 y.toNat)
       have hyv:Kp (x / 2 ^ (24-8*k) % 256=(y.toNat:Int)):=⟨by
        match k,hkt,hy with
        | 0,_,hy=>cases hy;rw[Sh.kQ,IntKind.wrap_u8'];rfl
        | 1,_,hy=>cases hy;rw[Sh.kQ,IntKind.wrap_u8'];rfl
        | 2,_,hy=>cases hy;rw[Sh.kQ,IntKind.wrap_u8'];rfl
        | 3,_,hy=>cases hy;rw[Sh.kQ,IntKind.wrap_u8'];simp⟩
       clear ho hy hog BO hxi;go_wp2_with fail;rw [hyv.out];exact ⟨⟨k+1,by omega,by go_num,BO2,hb2⟩,by simp[intOf];omega⟩
     · obtain rfl:k=4:=by omega
       rw[show 4*i+4=4*(i+1) by omega]at BO;clear hog hxi;go_wp2_with fail;exact ⟨⟨i+1,by omega,by go_num,BO,hb⟩,by simp[intOf];omega⟩
  · obtain rfl:i=8:=by omega
    have hcv:=pW wr (w.heap.size+1) 32 (Sh.out h) (fun j y hy=>BO.cell j (Sh.uN (by
     have hj:j<32:=(List.getElem?_eq_some_iff.1 hy).1
     rw[List.take_of_length_le (show (Sh.out h).length<=4*8 from Nat.le_refl _),List.getElem?_append_left hj,hy])))
    rw[Sh.mV]at hcv;clear hix BO;go_wp2;go_ret;exact ⟨rfl,hb⟩
attribute [local go_sem] Oper.semAt_some
theorem Np (n:Nat) (A:Option Addr) (k cap:Nat) (w:World):CallsIn Fence.wide n Tryz.prog 236 #[.slice A k cap,.int .i64 64] w fun e w'=>e=.returned (.func (.func 275) #[] #[.pointer (some ⟨w.heap.size,0,none⟩),.pointer (some ⟨w.heap.size+1,0,none⟩)])/\w'=(w.alloc (.cells #[.slice A k cap] 157)).alloc (.cells #[.int .i64 64] 3):=by
 refine callsIn_of_wp Tryz.func236 rfl trivial ?_ rfl;simp only[Tryz.ntmps236,List.size_toArray,List.length_cons,List.length_nil,Nat.reduceAdd,Nat.reduceSub,Array.replicate_succ,Array.replicate_zero,List.push_toArray,List.append_toArray,List.nil_append,List.cons_append];have h3:=(Bx.mk (w.alloc (.cells #[.slice A k cap] 157)) 3 #[.int .i64 64]).cell 0 (v:=.int .i64 64) rfl;rw [World.size_alloc]at h3
 gi_wp2
 go_ret;exact ⟨rfl,rfl⟩
def YU (p:Nat) (i:Nat):Array Value:=#[.slice (some ⟨p,64*i,none⟩) 64 64]
theorem Ii (n:Nat) (hn1:2<=n) (m p cap gs gn:Nat) (hm:64*m<=cap) (hcap:m<=100000000) :
 Iy n Tryz.prog 275 #[.pointer (some ⟨gs,0,none⟩),.pointer (some ⟨gn,0,none⟩)] (YU p) (fun pre i=>i=pre.length/\i<m) (fun xs=>xs.length=m) (fun _=>True)
  (fun X=>Bx X gs 157 #[.slice (some ⟨p,0,none⟩) (64*m) cap]/\Bx X gn 3 #[.int .i64 64]):=by
 intro lp J Jx W hW hJ hJx L8 hG hY hj0;have DT:=Kp.mk L8;refine callsIn_of_wp Tryz.func275 rfl trivial ?_ rfl;simp only[Tryz.ntmps275,List.size_toArray,List.length_cons,List.length_nil,Nat.reduceAdd,Nat.reduceSub,Array.replicate_succ,Array.replicate_zero,List.push_toArray,List.append_toArray,List.nil_append,List.cons_append]
 gi_wp2_with fail
 gi_loopw [4] (fun s4 wr=>∃xs:List Nat,xs.length<=m/\s4=.int .i64 ((64*xs.length:Nat):Int)/\J xs wr) (fun s4 _=>64*m-(intOf s4).toNat)
 case atStart=>exact⟨[],Nat.zero_le _,rfl,hj0⟩
 case round =>
  clear hj0;obtain ⟨xs,hxm,rfl,hj⟩:=hrel;have m0:=(DT.out _ _ hj).1.cell 0 (v:=.slice (some ⟨p,0,none⟩) (64*m) cap) rfl;have m1:=(DT.out _ _ hj).2.cell 0 (v:=.int .i64 64) rfl;by_cases hlt:xs.length<m
  · have Zr:=fun d os=>(DT.out _ _ (hJ _ _ _ hj (below_regrown wr d os))).1.cell 0 (v:=.slice (some ⟨p,0,none⟩) (64*m) cap) rfl
    have Zq:=fun d os=>(DT.out _ _ (hJ _ _ _ hj (below_regrown wr d os))).2.cell 0 (v:=.int .i64 64) rfl
    have hlc:64*xs.length<cap:=by omega
    gi_wp2_with fail
    refine (wpIn_wide (n:=n)).2 ?_;refine wp_region_quiet_below (by kernel_rfl) (by kernel_rfl) ?_
    repeat (go_big_quiet_step (fail))
    refine wpQuiet_nil ?_;rintro _ ⟨q,rfl⟩;have hjq:=hJ _ _ _ hj (below_regrown wr q.d q.os);replace Zr:=Zr q.d q.os;replace Zq:=Zq q.d q.os;clear m0 m1 hj;generalize Sort.grow (redrawn wr q.d) q.os=w1 at *;obtain ⟨fn,tmps,assign,body,hy,hR⟩:=hY xs xs.length w1 hjq ⟨rfl,hlt⟩;simp only[YU]at hy
    gi_wp2_with fail
    refine⟨fun _=>by omega,hR.mono ?_⟩;rintro e W3 (⟨rfl,hJ3,hk3⟩|⟨rfl,hJx3⟩)
    · have m13:=(DT.out _ _ hJ3).2.cell 0 (v:=.int .i64 64) rfl;have hlen:(xs++[xs.length]).length<=m/\Value.int .i64 (64*(xs.length:Int)+64)=.int .i64 ((64*(xs++[xs.length]).length:Nat):Int):=⟨by simp;omega,by simp;omega⟩
      clear hR hy hk3 Zr Zq hY
      gi_wp2_with fail
      go_roundw
      case rel=>exact⟨xs++[xs.length],hlen.1,hlen.2,hJ3⟩
      case measure=>simp[intOf];omega
    · clear hR hy hY
      gi_wp2_with fail
      exact bodyPost_ret (results_none rfl _ _ _) rfl ⟨⟨_,rfl⟩,.inr ⟨_,hJx3⟩⟩
  · have hS:xs.length=m:=by omega
    clear hY
    gi_wp2
    go_end0
    exact⟨⟨_,rfl⟩,.inl ⟨_,hS,hj⟩⟩
def qK (e:TypeId) (B n:Nat) (flat:List Value):Value->World->Prop:=fun v w =>
 ∃g cap cells fr,v=.slice (some ⟨g,0,none⟩) n cap/\B<=g/\n<=cap/\cap<=maxLen/\w.heap[g]? = some (.cells cells e fr)/\cells.size=cap/\cells.toList.take n=flat/\(cells.size<=fr.1∨fr.2=0)
theorem Ij {w:World} {g:Nat} {cs:Array Value} {t:TypeId} {fr:Nat × Nat} (h:w.heap[g]? = some (.cells cs t fr)) (k:Nat) (u:Value):(w.setCell ⟨g,k,none⟩ u).heap[g]? = some (.cells (cs.setIfInBounds k u) t fr):=by
 simp[World.setCell,Array.getElem?_modify,h]
theorem cells_one {w:World} {g:Nat} {cs:Array Value} {t:TypeId} {fr:Nat × Nat} (h:w.heap[g]? = some (.cells cs t fr)) {k:Nat} {v:Value} (hv:cs[k]? = some v):w.cell? ⟨g,k,none⟩=some v:=by
 simp[World.cell?,h,hv]
theorem Bo {P:Program} (w:World) (t ty e:TypeId) (i:TypeInfo) (z:Value) (B n:Nat) (flat:List Value) (u v x:Value) (ht:P.underlying t=some (.slice e)) (hi:P.info? e=some i) (hz:i.zero=some z)
 (hsize:i.size=1) (hzs:z.cells.size=1) (hv:qK e B n flat v w) (hB:B<=w.heap.size) (hs:Src P 1 t x 1 [u] w) (h63:n+1<=maxLen) (hb:(n+1)*i.bytes<=140737488355328) :
 ∃v' w',(Builtin.append_ #[t,t] ty #[v,x]).run P w=.ok v' w'/\Below B w w'/\qK e B (n+1) (flat++[u]) v' w':=by
 obtain⟨g,cap,cells,fr,rfl,hg,hnc,hcm,hbx,hcs,hfl,hfr⟩:=hv;by_cases hroom:n+1<=cap
 · have hrun:=run_append_room_src (P:=P) w t t ty e i ht hi g 0 n cap x 1 [u] (by rw[hsize];exact hs) hroom (fun j hj=>by
    obtain rfl:j=0:=by simpa using hj
    rw[hsize,Nat.mul_one,Nat.zero_add,Nat.add_zero]
    rw[cells_one hbx (k:=n) (v:=cells[n]'(by omega)) (by simp)];rfl) (fun j hj=>by
    obtain rfl:j=0:=by simpa using hj
    rw[hsize,Nat.mul_one,Nat.zero_add,Nat.add_zero];obtain ⟨lo,hi⟩:=fr;simp only[World.frozen?,hbx];simp only[Bool.and_eq_false_imp,decide_eq_true_eq,decide_eq_false_iff_not];intro h
    rcases hfr with hfr|hfr
    · simp only at hfr;omega
    · simp only at hfr;omega)
   rw[hsize,Nat.mul_one,Nat.zero_add]at hrun;refine ⟨_,_,hrun,(Below.refl B w).setCell hg _,g,cap,cells.setIfInBounds n u,fr,rfl,hg,hroom,hcm,Ij hbx n u,by simpa using hcs,?_,by simpa using hfr⟩;rw [Array.toList_setIfInBounds,List.take_add_one,List.take_set_of_le (Nat.le_refl _),hfl];simp [show n<cells.size by omega]
 · have hold:(Builtin.firstCells i.size n (.slice (some ⟨g,0,none⟩) n cap)).run P w.drew=.ok flat.toArray w.drew :=
    run_firstCells_some w.drew i.size n ⟨g,0,none⟩ n cap flat (by rw[hsize,Nat.mul_one,←hfl,List.length_take,Array.length_toList];omega) fun j u hu=>by
     have hj:cells[j]? = some u:=by
      rw[←hfl,List.getElem?_take]at hu
      split at hu
      · simpa using hu
      · cases hu
     rw[Addr.add_lit,Nat.zero_add];exact cells_one (show w.drew.heap[g]? = _ from hbx) hj
   have jP:flat.length=n:=by rw[←hfl,List.length_take,Array.length_toList];omega
   have hrun:=run_append_grow_src (P:=P) w t t ty e i z ht hi hz (some ⟨g,0,none⟩) n cap flat hold x 1 [u] (by rw[hsize];exact hs) (by omega) (by simp only[maxLen]at h63;omega) (growslice_fits (by omega) hb);have hge:=grownCap_ge w (n+1) cap e;refine ⟨_,_,hrun,((Below.refl B w).drew).alloc hB _,w.heap.size,_,_,(0,0),rfl,hB,hge,grownCap_le_maxLen w (n+1) cap e h63,heap_alloc_new w.drew _,?_,?_,.inr rfl⟩
   · rw[Array.size_append,List.size_toArray,List.length_append,jP,size_zeroCells,hzs];simp;omega
   · rw[Array.toList_append,List.take_append_of_le_length (by simp[jP])];rw [List.take_of_length_le (by simp[jP])]
theorem fH {P:Program} {w:World} {ops:Array Oper} {rest:List Oper} {o:Oper} {a:Act} {Q:Exit->Act->World->Prop} (hgd:o.guard=none) (s y:Operand) (t e:TypeId) (ho:o.op=.call { callee:=.builtin .append,args:=#[s,y],argTypes:=#[t,t] })
 (i:TypeInfo) (z:Value) (B n:Nat) (flat:List Value) (u v x:Value) (ht:P.underlying t=some (.slice e)) (hi:P.info? e=some i) (hz:i.zero=some z)
 (hsize:i.size=1) (hzs:z.cells.size=1) (hes:a.eval s=v) (DN:a.eval y=x) (hv:qK e B n flat v w) (hB:B<=w.heap.size) (hs:Src P 1 t x 1 [u] w) (h63:n+1<=maxLen) (hb:(n+1)*i.bytes<=140737488355328)
 (h:∀v' w',Below B w w'->qK e B (n+1) (flat++[u]) v' w'->wpList P ops Q rest (a.put o.dst v') w'):wpList P ops Q (o :: rest) a w:=by
 obtain⟨v',w',hr,h1,h2⟩:=Bo (P:=P) w t o.type e i z B n flat u v x ht hi hz hsize hzs hv hB hs h63 hb;refine wpList_plain hgd fun _ hK=>?_
 unfold Oper.wp execOp
 simp only[ho,resolve,invoke,builtin,Sem.run_bind,Sem.run_pure,Result.andThen_ok,List.map_toArray,List.map_cons,List.map_nil,hes,DN,hr];exact hK _ _ (h v' w' h1 h2)
theorem qK.call {e:TypeId} {B n:Nat} {flat:List Value} {v:Value} {w w':World} (h:qK e B n flat v w) (hb:Below w.heap.size w w'):qK e B n flat v w':=by
 obtain⟨g,cap,cells,fr,h1,h2,h3,h4,h5,h6⟩:=h;exact ⟨g,cap,cells,fr,h1,h2,h3,h4,(hb.block g (Array.getElem?_eq_some_iff.1 h5).1).trans h5,h6⟩
theorem qK.get {e:TypeId} {B n:Nat} {flat:List Value} {v:Value} {w:World} (h:qK e B n flat v w) :
 ∃g cap,v=.slice (some ⟨g,0,none⟩) n cap/\B<=g/\n<=cap/\cap<=maxLen/\g<w.heap.size/\∃(cells:Array Value) (fr:Nat × Nat),w.heap[g]? = some (.cells cells e fr)/\∀(j:Nat) (u:Value),flat[j]? = some u->cells[j]? = some u:=by
 obtain⟨g,cap,cells,fr,h1,h2,h3,h4,h5,h6,h7,h8⟩:=h;refine ⟨g,cap,h1,h2,h3,h4,(Array.getElem?_eq_some_iff.1 h5).1,cells,fr,h5,fun j u hj=>?_⟩;rw [←h7,List.getElem?_take]at hj
 split at hj
 · simpa using hj
 · cases hj
theorem Rnd.below2 {w w':World} {B:Nat} (h:Rnd w) (hb:Below B w w') (hB:0<B):Rnd w':=by
 obtain⟨t,fr,h⟩:=h;exact ⟨t,fr,(hb.block _ hB).trans h⟩
def lenV:Value->Nat
 | .slice _ n _=>n
 | _=>0
def cB (l:List UInt8):List Value:=l.map fun x=>.int .u8 x.toNat
theorem jh (a b:List UInt8):cB (a++b)=cB a++cB b:=List.map_append
theorem bT:Tryz.prog.underlying 157=some (.slice 5):=by kernel_rfl
theorem I5:Tryz.prog.underlying 5=some (.int .u8):=by kernel_rfl
theorem F5:Tryz.prog.underlying 9=some .string:=by kernel_rfl
theorem rO {w:World} {g:Nat} {u:Value} (h1:u.oneCell'=true) (h:Bx w g 5 #[u]):Src Tryz.prog 1 157 (.slice (some ⟨g,0,none⟩) 1 1) 1 [u] w :=
 dI.src (P:=Tryz.prog) (size:=1) (B:=0) (cap:=1) (e:=5) (t:=157) (fun x hx=>by simp only[List.mem_cons,List.not_mem_nil,or_false]at hx;subst hx;exact h1) bT ⟨g,_,rfl,Nat.zero_le _,Nat.le_refl _,h,rfl,rfl⟩
theorem H7 (w:World) (l:List UInt8) (hl:l.length<=1000000):∃v w',(convert 9 157 (.string ⟨l.toArray⟩)).run Tryz.prog w=.ok v w'/\Below w.heap.size w w'/\qK 5 w.heap.size l.length (cB l) v w':=by
 have hr:=Lib.run_convert_string_bytes (P:=Tryz.prog) w 9 157 5 ⟨l.toArray⟩ F5 bT I5;have hc:grownCap w l.length 0 5<=maxLen:=grownCap_le_maxLen w l.length 0 5 (by unfold maxLen;omega);have hge:=grownCap_ge w l.length 0 5;refine ⟨_,_,hr,⟨?_,?_,?_,?_,fun k hk=>Lib.bytesWorld_at_old _ _ _ _ hk⟩,w.heap.size,_,_,_,rfl,Nat.le_refl _,hge,hc,Lib.bytesWorld_at_new _ _ _,?_,?_,.inl (Nat.le_refl _)⟩
 · simp[Lib.bytesWorld,World.freeze];rfl
 · simp[Lib.bytesWorld,World.freeze]
 · simp[Lib.bytesWorld,World.freeze];rfl
 · rw[Lib.bytesWorld_size];omega
 · rw[Lib.bytesCells,Array.size_append,Array.size_map,Array.size_replicate]
   show l.length+(grownCap w l.length 0 5-l.length)=grownCap w l.length 0 5
   omega
 · simp[Lib.bytesCells,cB]
end Go.Proofs.YtohgjenaclfegaaGreatDoor

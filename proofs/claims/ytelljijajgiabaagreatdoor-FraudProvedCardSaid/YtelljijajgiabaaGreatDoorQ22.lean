import Derived.Test.YtelljijajgiabaaGreatDoorQ21
import Derived.Laws.IdiomCopy
import Derived.MapKept
import Derived.WideMake
set_option linter.unusedVariables false
set_option linter.unusedSimpArgs false
set_option maxRecDepth 100000
set_option maxHeartbeats 8000000
namespace Go.Proofs.YtelljijajgiabaaGreatDoor
open Go.RowKit Go.Shelf
attribute [local go_sem] Oper.semAt_some
theorem At.call {α:Type} {size:Nat} {f:α->List Value} {w w':World} {A:Option Addr} {p:List α} (h:At size f w w.heap.size A p) (hb:Below w.heap.size w w'):At size f w' w'.heap.size A p:=(h.below hb).more hb.size
theorem zM (c e lo re pay:Int) (l:List Tf.Ho) (A:Option Addr) (cap:Nat) (number t:Int) (w:World) (hA:At 6 aX w w.heap.size A l) (hn:l.length<=cap) (hl:l.length<=9223372036854775807) (hs:∀h∈l,Oy h) (hE:Env w) :
 aW 21 #[.agg #[.int .i64 c,.int .i64 e,.int .i64 lo,.int .i64 re,.int .i64 pay],.slice A l.length cap,.int .i64 number,.int .i64 t] w (.bool (G6 ⟨c,e,lo,re,pay⟩ l number t)):=by
 refine (callsIn_wide (n:=4)).1 ?_;refine callsIn_of_wp_marks Tryz.func21 rfl trivial ?_ rfl;simp only[Tryz.ntmps21,List.size_toArray,List.length_cons,List.length_nil,Nat.reduceAdd,Nat.reduceSub,Array.replicate_succ,Array.replicate_zero,List.push_toArray,List.append_toArray,List.nil_append,List.cons_append];have hb:=bNew (bNew (au w (.cells #[.int .i64 c,.int .i64 e,.int .i64 lo,.int .i64 re,.int .i64 pay] 31)) (.cells #[.int .i64 t] 3)) (.cells #[.bool false] 4);have B:=((Bx.mk w 31 #[.int .i64 c,.int .i64 e,.int .i64 lo,.int .i64 re,.int .i64 pay]).new (.cells #[.int .i64 t] 3)).new (.cells #[.bool false] 4);have BT:=(Bx.mk (w.alloc (.cells #[.int .i64 c,.int .i64 e,.int .i64 lo,.int .i64 re,.int .i64 pay] 31)) 3 #[.int .i64 t]).new (.cells #[.bool false] 4);have BR:=Bx.mk ((w.alloc (.cells #[.int .i64 c,.int .i64 e,.int .i64 lo,.int .i64 re,.int .i64 pay] 31)).alloc (.cells #[.int .i64 t] 3)) 4 #[.bool false];simp only[ah,Nat.add_assoc,Nat.reduceAdd]at BT BR;have hV:=fun w0 hA0 hE0=>tH c e lo re pay l A cap w0 hA0 hn hl hs hE0
 obtain⟨c0,c1,c2,c3,c4⟩:=B.p5;have hA1:=hA.call hb;have hE1:=hE.below hb;refine wpIn_wide.2 ?_;by_cases hva:wB ⟨c,e,lo,re,pay⟩ l
 · rw[l7 hva]at hV;have hd:Kp (G6 ⟨c,e,lo,re,pay⟩ l number t=Tf.held ⟨c,e,lo,re,pay⟩ l number t):=⟨WT hva number t⟩
   generalize G6 ⟨c,e,lo,re,pay⟩ l number t=res at *;go_wp2_with fail;refine (hV _ hA1 hE1).mono ?_;rintro _ w1 ⟨rfl,hb1⟩;replace B:=B.call hb1;replace BT:=BT.call hb1;replace BR:=BR.call hb1;replace hb:=aj hb hb1;clear c0 c1 c2 c3 c4 hb1 hV hA1 hE1
   go_wp2_with (go_at_call 49;refine ((callsIn_wide (n:=4)).1 (Wj 4 _ _ _ _ _)).mono ?_;rintro _ _ ⟨rfl,rfl⟩)
   have hbW:=bNew (au w1 (.cells #[.slice A l.length cap] 33)) (.cells #[.int .i64 number] 3);have Q1:=(Bx.mk w1 33 #[.slice A l.length cap]).new (.cells #[.int .i64 number] 3);have Q2:=Bx.mk (w1.alloc (.cells #[.slice A l.length cap] 33)) 3 #[.int .i64 number];rw [ah]at Q2;replace B:=B.call hbW;replace BT:=BT.call hbW;replace BR:=BR.call hbW;replace hb:=aj hb hbW;clear hbW;generalize (w1.alloc (.cells #[.slice A l.length cap] 33)).alloc (.cells #[.int .i64 number] 3)=W3 at *;generalize w1.heap.size=g2 at *;have hA3:At 6 aX W3 W3.heap.size A l:=(hA.below hb).more hb.size;have hseq:=Qh 3 (by decide) l A cap g2 (g2+1) number W3 hA3 hn hl Q1 Q2;have hw3:=hb.size;have hgr:=BR.lt;clear hA3 Q1 Q2;refine (wpIn_wide (n:=4)).1 ?_
   refine uz (by decide) (gf:=77) (lb:=#[.pointer (some ⟨g2,0,none⟩),.pointer (some ⟨g2+1,0,none⟩)]) rfl (enters_of Tryz.func77 (by kernel_rfl) rfl) hseq (gq _) (fun _=>rfl)
    (fun pre X=>Below W3.heap.size W3 X/\∀y∈pre,Tf.U9 ⟨c,e,lo,re,pay⟩ y.1 t=false)
    (fun _ X=>Below w.heap.size w X/\Bx X (w.heap.size+2) 4 #[.bool true]/\Kp (res=true))
    (fun s X Y h hb=>⟨h.1.trans hb,h.2⟩)
    (fun s X Y h hb'=>⟨h.1.trans (hb'.mono hw3),h.2.1.below hb' hgr,h.2.2⟩)
    (fun s X h=>h.1) ⟨gq _,fun y hy=>by cases hy⟩ 9 53 (fun x=>#[.int .i64 x.1.n,.int .i64 x.1.f,.string ⟨x.1.b.1.toArray⟩,.string ⟨x.1.b.2.toArray⟩,.int .i64 x.1.v,.int .i64 x.1.d]) ?assign ?body ?done ?stop
   case assign =>
    intro lp x W K hK;simp only[Zg,Zi,vJ]at hK ⊢
    gi_wp2
    have hk9:=hK _ _ (au W _) (Bx.mk W _ _);simp only[List.setIfInBounds_toArray,List.set_cons_succ,List.set_cons_zero]at hk9;exact hk9
   case body =>
    rintro lp pre x gb W ⟨hbX,hpre⟩ HB hlen;simp only[Zg,Zi,vJ,List.setIfInBounds_toArray,List.set_cons_succ,List.set_cons_zero];have B':=B.below hbX B.lt;have BT':=BT.below hbX BT.lt;have IU:=BR.below hbX BR.lt;have hfx:=hva.2.fm _ x.2.1;have hfx0:=hfx.f0;have hfx2:=hfx.f2;have hok:=hva.1;have hlo1:=hok.l1;have hlo2:=hok.l2;dsimp only at hlo1 hlo2
    have hsp:Tf.Sp ⟨c,e,lo,re,pay⟩ x.1:=Tf.FT (by dsimp only;omega) fun h=>by
     rcases hfx.v with ⟨a,-⟩|⟨-,a,-⟩
     · rw[h]at a;cases a
     · exact a
    obtain⟨sp1,sp2⟩:=hsp;dsimp only at sp2;have kE:=fun y os=>EJ c e lo re pay x.1.n x.1.f x.1.v x.1.d x.1.b.1 x.1.b.2 (Sort.grow (redrawn W y) os) ⟨by omega,by omega⟩ ⟨by omega,by omega⟩
    have hfe:(⟨x.1.n,x.1.f,(x.1.b.1,x.1.b.2),x.1.v,x.1.d⟩:Tf.Ho)=x.1:=rfl;rw [hfe]at kE;have kW:=fun y os=>aB (bZ t x.1.f (Tf.fin ⟨c,e,lo,re,pay⟩ x.1-1) (Sort.grow (redrawn W y) os))
    have hin:Kp (Tf.U9 ⟨c,e,lo,re,pay⟩ x.1 t=Tp.within t x.1.f (Tf.fin ⟨c,e,lo,re,pay⟩ x.1-1)):=⟨by
     unfold Tf.U9 Tp.within
     congr 1
     exact decide_eq_decide.2 (by omega)⟩
    have h0:=fun d os=>(HB.again d os).cell 0 rfl
    have h1:=fun d os=>(HB.again d os).cell 1 rfl
    have h2:=fun d os=>(HB.again d os).cell 2 rfl
    have h3:=fun d os=>(HB.again d os).cell 3 rfl
    have h4:=fun d os=>(HB.again d os).cell 4 rfl
    have h5:=fun d os=>(HB.again d os).cell 5 rfl
    have r0:=fun d os=>(B'.again d os).cell 0 rfl
    have r1:=fun d os=>(B'.again d os).cell 1 rfl
    have r2:=fun d os=>(B'.again d os).cell 2 rfl
    have r3:=fun d os=>(B'.again d os).cell 3 rfl
    have r4:=fun d os=>(B'.again d os).cell 4 rfl
    have y0:=fun d os=>(BT'.again d os).cell 0 rfl
    have hno:Kp (Tf.U9 ⟨c,e,lo,re,pay⟩ x.1 t=true->res=true):=⟨fun hx3=>by
     rw[hd.out]
     unfold Tf.held
     rw[List.any_eq_true]
     exact⟨x.1,x.2.1,by rw[hx3,x.2.2];simp⟩⟩
    have hyes:Kp (Tf.U9 ⟨c,e,lo,re,pay⟩ x.1 t=false->∀y∈pre++[x],Tf.U9 ⟨c,e,lo,re,pay⟩ y.1 t=false):=⟨fun hx3 y hy=>by
     rcases List.mem_append.1 hy with hy|hy
     · exact hpre y hy
     · rw[List.mem_singleton.1 hy];exact hx3⟩
    rw[hin.out]at hno hyes;clear hfx hseq hpre hfe hva hA hs hd hin hok;generalize Tp.within t x.1.f (Tf.fin ⟨c,e,lo,re,pay⟩ x.1-1)=tb at *;generalize Tf.fin ⟨c,e,lo,re,pay⟩ x.1=fx at *
    cases tb with
    | true =>
     obtain rfl:=hno.out rfl
     gi_wp2
     refine wpIn_region_quiet (by kernel_rfl) (by kernel_rfl) (by kernel_rfl) ?_
     repeat (go_big_quiet_step (first|(go_at_call 50;with_reducible exact Calls.regrown_of (kE _ _))|(go_at_call 53;with_reducible exact Calls.regrown_of (kW _ _))))
     refine wpQuiet_nil ?_;rintro _ ⟨z,rfl⟩;refine ⟨rfl,?_⟩;have hbz:=below_regrown W z.d z.os;replace IU:=IU.call hbz;have hbw:=aj (hb.trans (hbX.mono hw3)) hbz;have hfr:=Fr.below (B:=W3.heap.size) hbz;clear kE kW h0 h1 h2 h3 h4 h5 r0 r1 r2 r3 r4 y0 hbz;generalize Sort.grow (redrawn W z.d) z.os=W5 at *;have d0:=IU.cell 0 rfl;have f0:=IU.frozen 0
     gi_wp2
     exact⟨hfr.trans (Fr.set hgr),aJ hbw (p:=⟨w.heap.size+2,0,none⟩) (by show w.heap.size<=w.heap.size+2;omega) _,IU.set 0 (.bool true),Kp.mk (by simp)⟩
    | false =>
     gi_wp2
     refine wpIn_region_quiet (by kernel_rfl) (by kernel_rfl) (by kernel_rfl) ?_
     repeat (go_big_quiet_step (first|(go_at_call 50;with_reducible exact Calls.regrown_of (kE _ _))|(go_at_call 53;with_reducible exact Calls.regrown_of (kW _ _))))
     refine wpQuiet_nil ?_;rintro _ ⟨z,rfl⟩;refine ⟨rfl,?_⟩;have hbz:=below_regrown W z.d z.os;clear kE kW h0 h1 h2 h3 h4 h5 r0 r1 r2 r3 r4 y0
     gi_wp2
     exact⟨Fr.below hbz,hbX.trans (hbz.mono hbX.size),hyes.out (by simp)⟩
   case done =>
    rintro D xs W hD hS ⟨hbX,hall⟩ hk
    have hres:res=false:=by
     rw[hd.out]
     unfold Tf.held
     rw[List.any_eq_false];intro h hh;by_cases hhn:h.n=number
     · obtain⟨y,hy,ey⟩:=hS h hh hhn;rw [←ey,hall y hy];simp
     · have:(h.n==number)=false:=by simpa using hhn
       rw[this];simp
    subst hres;have IU:=BR.below hbX BR.lt;have hbw:=hb.trans (hbX.mono hw3);have d0:=IU.cell 0 rfl;have f0:=IU.frozen 0;have hM2:=(Marks.nil (w.heap.size+3) (w.heap.size+3) W).push (by omega) (Nat.le_refl _) hk;clear hall hS hseq hva hA hs hd;go_wp2;exact (hM2.set IU 0 _).leave fun W' hb' hB'=>⟨_,iC rfl _ _ rfl (hB' _ _ _ (IU.set 0 (.bool false))),rfl,(aJ hbw (p:=⟨w.heap.size+2,0,none⟩) (by show w.heap.size<=w.heap.size+2;omega) _).trans (hb'.mono (by omega))⟩
   case stop =>
    rintro D pre W hD ⟨hbX,hBR,hr⟩ hk;obtain rfl:=hr.out;have hM2:=(Marks.nil (w.heap.size+3) (w.heap.size+3) W).push (by omega) (Nat.le_refl _) hk;clear hseq hva hA hs hd
    gi_wp2
    exact hM2.leave fun W' hb' hB'=>⟨_,iC rfl _ _ rfl (hB' _ _ _ hBR),rfl,hbX.trans (hb'.mono (by omega))⟩
 · rw[qF hva]at hV;have hd:Kp (G6 ⟨c,e,lo,re,pay⟩ l number t=false):=⟨aap hva number t⟩
   generalize G6 ⟨c,e,lo,re,pay⟩ l number t=res at *;obtain rfl:=hd.out;go_wp2_with fail;refine (hV _ hA1 hE1).mono ?_;rintro _ w1 ⟨rfl,hb1⟩;replace BR:=BR.call hb1;replace hb:=aj hb hb1;have d0:=BR.cell 0 rfl;have f0:=BR.frozen 0;clear c0 c1 c2 c3 c4;go_wp2;exact ⟨_,iC rfl _ _ rfl (BR.set 0 (.bool false)),rfl,aJ hb (p:=⟨w.heap.size+2,0,none⟩) (by show w.heap.size<=w.heap.size+2;omega) _⟩
theorem uj (c e lo re pay:Int) (l:List Tf.Ho) (A:Option Addr) (cap:Nat) (number t what:Int) (w:World) (hA:At 6 aX w w.heap.size A l) (hn:l.length<=cap) (hl:l.length<=9223372036854775807) (hs:∀h∈l,Oy h) (hE:Env w) :
 aW 23 #[.agg #[.int .i64 c,.int .i64 e,.int .i64 lo,.int .i64 re,.int .i64 pay],.slice A l.length cap,.int .i64 number,.int .i64 t,.int .i64 what] w (.bool ((decide (what=1)||decide (what=2))&&G6 ⟨c,e,lo,re,pay⟩ l number t)):=by
 have hb:=au w (.cells #[.int .i64 c,.int .i64 e,.int .i64 lo,.int .i64 re,.int .i64 pay] 31);have B:=Bx.mk w 31 #[.int .i64 c,.int .i64 e,.int .i64 lo,.int .i64 re,.int .i64 pay];have hV:=zM c e lo re pay l A cap number t _ (hA.call hb) hn hl hs (hE.below hb);generalize G6 ⟨c,e,lo,re,pay⟩ l number t=res at *;obtain ⟨c0,c1,c2,c3,c4⟩:=B.p5;clear hA hs;by_cases h1:what=1
 · subst h1
   go_enter Tryz.func23,Tryz.ntmps23
   go_wp2_with fail;refine hV.mono ?_;rintro _ w1 ⟨rfl,hb1⟩;go_wp2;go_ret;exact ⟨by simp,aj hb hb1⟩
 · by_cases h2:what=2
   · subst h2
     go_enter Tryz.func23,Tryz.ntmps23
     go_wp2_with fail;refine hV.mono ?_;rintro _ w1 ⟨rfl,hb1⟩;go_wp2;go_ret;exact ⟨by simp,aj hb hb1⟩
   · have t1:(what==1)=false:=by simpa using h1
     have t2:(what==2)=false:=by simpa using h2
     have hd:Kp (((decide (what=1)||decide (what=2))&&res)=false):=⟨by simp[h1,h2]⟩
     generalize ((decide (what=1)||decide (what=2))&&res)=rr at *;obtain rfl:=hd.out;clear hV
     go_enter Tryz.func23,Tryz.ntmps23
     go_wp2;go_ret;exact ⟨rfl,hb⟩
theorem Nl (n:Nat) (hn:n<=10) (w:World):Calls Tryz.prog 133 #[.int .u64 1,.int .u64 n] w fun e w'=>e=.returned (.tuple #[.int .u64 0,.int .u64 n])/\w=w':=by
 rcases (show n=0∨n=1∨n=2∨n=3∨n=4∨n=5∨n=6∨n=7∨n=8∨n=9∨n=10 by omega) with rfl|rfl|rfl|rfl|rfl|rfl|rfl|rfl|rfl|rfl|rfl
 all_goals
  go_enter Tryz.func133,Tryz.ntmps133
  go_wp2
  go_ret2
  exact⟨rfl,rfl⟩
theorem Ql (n:Nat) (hn:n<=10) (w:World):Calls Tryz.prog 92 #[.int .u64 1,.int .u64 n] w fun e w'=>e=.returned (.tuple #[.int .u64 0,.int .u64 n])/\w=w':=by
 have h:=fun w0=>Nl n hn w0
 go_enter Tryz.func92,Tryz.ntmps92
 go_wp2_with fail;refine (h _).mono ?_;rintro _ _ ⟨rfl,rfl⟩;go_wp2
 go_ret2
 exact⟨rfl,rfl⟩
theorem Sv {P:Program} (w:World) (dT sT ty elem:TypeId) (size:Nat) (b o dLen dCap:Nat) (a:Addr) (sLen sCap:Nat) (cs:List Value)
 (hu:P.underlying dT=some (.slice elem)) (hs:(P.info? elem).map (·.size)=some size) (hn:cs.length=Nat.min sLen dLen*size)
 (hsrc:∀j v,cs[j]? = some v->w.cell? (a.add j)=some v) (hc:∀j,j<cs.length->(w.cell? ⟨b,o+j,none⟩).isSome=true) (hf:∀j,j<cs.length->w.frozen? ⟨b,o+j,none⟩=false) (h1:∀v∈cs,v.oneCell'=true) :
 (Builtin.copy_ #[dT,sT] ty #[.slice (some ⟨b,o,none⟩) dLen dCap,.slice (some a) sLen sCap]).run P w=.ok (goInt (Nat.min sLen dLen)) (w.setCells b o cs):=by
 have hl:=run_loadCells_list (P:=P) w a cs hsrc;have hst:=run_storeCells_cells (P:=P) b o cs 0 w (by simpa using hc) (by simpa using hf) h1
 cases hq:P.info? elem with
 | none=>simp[hq]at hs
 | some i =>
  have hi:i.size=size:=by simpa [hq] using hs
  rw[hn]at hl;simp [Builtin.copy_,run_underlying hu,Builtin.lenOf,Builtin.firstCells,sizeOf,typeInfo,hq,hi,hl,hst]
theorem XT:∃z:Array Value,z.size=2/\∀(n:Nat) (w:World),n<=1000->(Instr.makeSlice 93 (.int .i64 n) (.int .i64 n)).run Tryz.prog w=.ok (.slice (some ⟨w.heap.size,0,none⟩) n n) (w.alloc (.cells (madeCells z (n*2)) 51)):=by
 obtain⟨i,z,h1,h2,h3,h4,h5⟩:=PX;refine ⟨z.cells,h4,fun n w hn=>?_⟩;have h:=run_make (P:=Tryz.prog) w 93 51 i z Tryz.underlying93 h1 h2 .i64 .i64 n n (by omega) (by omega) (by rw[h5];omega) (by omega);rw [h3,Int.toNat_natCast]at h;exact h
def mM (a b:List UInt8) (k:Nat):List Value:=(List.replicate k (a,b)).flatMap nD
theorem mJ (a b:List UInt8) (k:Nat):(mM a b k).length=k*2:=by unfold mM;rw[je (f:=nD) (size:=2) (fun _=>rfl)];simp
theorem F5 (a b:List UInt8) (j k:Nat):mM a b j++mM a b k=mM a b (j+k):=by unfold mM;rw[←List.flatMap_append,List.replicate_append_replicate]
theorem CP (a b:List UInt8) {j k:Nat} (h:j<=k):(mM a b k).take (j*2)=mM a b j:=by
 obtain⟨m,rfl⟩:=Nat.exists_eq_add_of_le h;rw [←F5,List.take_append_of_le_length (by rw[mJ];exact Nat.le_refl _),List.take_of_length_le (by rw[mJ];exact Nat.le_refl _)]
theorem PU (a b:List UInt8) (k:Nat):∀v∈mM a b k,v.oneCell'=true:=by
 intro v hv
 unfold mM at hv
 obtain⟨p,-,hp⟩:=List.mem_flatMap.1 hv;simp only[nD,List.mem_cons,List.not_mem_nil,or_false]at hp
 rcases hp with rfl|rfl <;> rfl
theorem Sr (a b:List UInt8) {W:World} {g n k:Nat} {cells:Array Value} (hB:Bx W g 51 cells) (hs:cells.size=n*2) (hk:k<n) (hf:cells.toList.take (k*2)=mM a b k) :
 ∃(W':World) (cells':Array Value),(∀ty,(Builtin.copy_ #[93,93] ty #[.slice (some ⟨g,k*2,none⟩) (n-k) (n-k),.slice (some ⟨g,0,none⟩) k n]).run Tryz.prog W=.ok (.int .i64 ((Nat.min k (n-k):Nat):Int)) W') /\
  Bx W' g 51 cells'/\cells'.size=n*2/\cells'.toList.take ((k+Nat.min k (n-k))*2)=mM a b (k+Nat.min k (n-k))/\(∀B,B<=g->Below B W W'):=by
 have hm1:Nat.min k (n-k)<=k:=Nat.min_le_left _ _;have hm2:Nat.min k (n-k)<=n-k:=Nat.min_le_right _ _
 have hsz:(Tryz.prog.info? 51).map (·.size)=some 2:=by
  obtain⟨i,z,h1,h2,h3,h4,h5⟩:=PX;rw [h1,Option.map_some,h3]
 have hget:∀(j:Nat) (v:Value),(mM a b (Nat.min k (n-k)))[j]? = some v->cells[j]? = some v:=fun j v hj=>by
  have hlt:=(List.getElem?_eq_some_iff.1 hj).1;rw [mJ]at hlt;rw [←CP a b hm1,←hf,List.getElem?_take,if_pos hlt,List.getElem?_take,if_pos (by omega)]at hj;simpa using hj
 have hrun:=fun ty=>Sv (P:=Tryz.prog) W 93 93 ty 51 2 g (k*2) (n-k) (n-k) ⟨g,0,none⟩ k n (mM a b (Nat.min k (n-k))) Tryz.underlying93 hsz (mJ a b _) (fun j v hj=>by
  rw[Addr.add_lit,Nat.zero_add]
  exact hB.cell j (hget j v hj)) (fun j hj=>by
   rw[mJ]at hj
   rw[hB.cell (k*2+j) (v:=cells[k*2+j]'(by omega)) (by simp)];rfl) (fun j hj=>hB.frozen _) (PU a b _)
 obtain⟨cells',h1,h2,h3⟩:=hB.setCells (mM a b (Nat.min k (n-k))) (k*2) W cells (by rw[mJ];omega);refine ⟨_,cells',hrun,h1,by rw[h2,hs],?_,fun B hBg=>?_⟩
 · rw[mJ,hf,F5]at h3;rw [Nat.add_mul];exact h3
 · have:∀(vs:List Value) (o:Nat) (w':World),Below B W w'->Below B W (w'.setCells g o vs):=by
    intro vs
    induction vs with
    | nil=>intro o w' h;exact h
    | cons a l ih=>intro o w' h;exact ih _ _ (h.setCell hBg _)
   exact this _ _ _ (Below.refl _ _)
theorem Y8 (a b:List UInt8) {W:World} {g n:Nat} {cells:Array Value} (hB:Bx W g 51 cells) (hs:cells.size=n*2) (hf:cells.toList.take (n*2)=mM a b n):At 2 nD W W.heap.size (some ⟨g,0,none⟩) (List.replicate n (a,b)):=fun _ =>
 ⟨g,0,rfl,hB.lt,fun i c hi j u hj=>by
  have hj2:j<2:=(List.getElem?_eq_some_iff.1 hj).1;have hfl:=flat_get (f:=nD) (size:=2) (fun _=>rfl) (List.replicate n (a,b)) i j c hi hj2;have hil:=(List.getElem?_eq_some_iff.1 hi).1;rw [List.length_replicate]at hil;rw [Nat.zero_add];refine hB.cell _ ?_
  have e:cells[i*2+j]? = (cells.toList.take (n*2))[i*2+j]? := by
   rw[List.getElem?_take,if_pos (by omega)];simp
  rw[e,hf,show mM a b n=(List.replicate n (a,b)).flatMap nD from rfl,hfl,hj]⟩
def KR (B g n q:Nat) (a b:List UInt8) (w w':World):Prop:=Below B w w'/\w.heap.size<=w'.heap.size/\∀c,Bx w g 51 c->c.size=n*2->∃c',Bx w' g 51 c'/\c'.size=n*2/\∀p,p<=q->c.toList.take (p*2)=mM a b p->c'.toList.take (p*2)=mM a b p
theorem dB (B g n q:Nat) (a b:List UInt8):RS.Cls (KR B g n q a b) :=
 ⟨fun w=>⟨Below.refl _ _,Nat.le_refl _,fun c h hs=>⟨c,h,hs,fun p _ h=>h⟩⟩,
  fun h1 h2=>⟨h1.1.trans h2.1,Nat.le_trans h1.2.1 h2.2.1,fun c h hs=>by
   obtain⟨c1,a1,a2,a3⟩:=h1.2.2 c h hs;obtain ⟨c2,b1,b2,b3⟩:=h2.2.2 c1 a1 a2
   exact⟨c2,b1,b2,fun p hp h=>b3 p hp (a3 p hp h)⟩⟩,
  fun w n'=>⟨⟨rfl,rfl,rfl,Nat.le_refl _,fun _ _=>rfl⟩,Nat.le_refl _,fun c h hs=>⟨c,h,hs,fun p _ h=>h⟩⟩⟩
def CoR (g n q m:Nat) (a b:List UInt8):RS.Rl:=fun _ v w=>v=.int .i64 m/\∃c,Bx w g 51 c/\c.size=n*2/\c.toList.take (q*2)=mM a b q
theorem Uy (B g n q m:Nat) (a b:List UInt8):RS.eP (KR B g n q a b) (CoR g n q m a b):=fun x v w w' ⟨e,c,h1,h2,h3⟩ h=>by
 obtain⟨c',a1,a2,a3⟩:=h.2.2 c h1 h2;exact ⟨e,c',a1,a2,a3 q (Nat.le_refl _) h3⟩
theorem Jj (a b:List UInt8) (n cap:Nat) (A:Option Addr) (w:World) (h1:1<=n) (h10:n<=10) (hc:1<=cap) (hA:At 2 nD w w.heap.size A [(a,b)]) :
 Calls Tryz.prog 61 #[.slice A 1 cap,.int .i64 n] w fun e w'=>(∃A',e=.returned (.slice A' n n)/\At 2 nD w' w'.heap.size A' (List.replicate n (a,b)))/\Below w.heap.size w w':=by
 obtain⟨q,off,rfl,hq,hcell⟩:=hA (by simp);have c0:=hcell 0 _ rfl 0 _ rfl;have c1:=hcell 0 _ rfl 1 _ rfl;simp only[Nat.zero_mul,Nat.add_zero]at c0 c1;have hM:=fun w0=>Ql n h10 w0
 obtain⟨z,hz,hmk'⟩:=XT;have hmk:=hmk' n w (by omega);have B:=Bx.mk w 51 (madeCells z (n*2));have hb:=au w (.cells (madeCells z (n*2)) 51);have hcs:=size_madeCells z (n*2);generalize madeCells z (n*2)=cs0 at *
 have hsz:(Tryz.prog.info? 51).map (·.size)=some 2:=by
  obtain⟨i,z,h1,h2,h3,h4,h5⟩:=PX;rw [h1,Option.map_some,h3]
 have hcp:∀ty,(Builtin.copy_ #[93,93] ty #[.slice (some ⟨w.heap.size,0,none⟩) n n,.slice (some ⟨q,off,none⟩) 1 cap]).run Tryz.prog (w.alloc (.cells cs0 51))=.ok (.int .i64 1) (((w.alloc (.cells cs0 51)).setCell ⟨w.heap.size,0,none⟩ (.string ⟨a.toArray⟩)).setCell ⟨w.heap.size,1,none⟩ (.string ⟨b.toArray⟩)):=fun ty=>by
  have h:=Sv (P:=Tryz.prog) (w.alloc (.cells cs0 51)) 93 93 ty 51 2 w.heap.size 0 n n ⟨q,off,none⟩ 1 cap [.string ⟨a.toArray⟩,.string ⟨b.toArray⟩] Tryz.underlying93 hsz (by rw[show Nat.min 1 n=1 from Nat.min_eq_left h1];rfl) (fun j v hj=>by
   rw[Addr.add_lit]
   match j,hj with
   | 0,hj=>cases hj;exact (hb.cell (p:=⟨q,off,none⟩) hq).trans c0
   | 1,hj=>cases hj;exact (hb.cell (p:=⟨q,off+1,none⟩) hq).trans c1) (fun j hj=>by
    have hj2:j<2:=hj
    rw[B.cell (0+j) (v:=cs0[0+j]'(by omega)) (by simp)];rfl) (fun j hj=>B.frozen _) (by intro v hv;simp only[List.mem_cons,List.not_mem_nil,or_false]at hv;rcases hv with rfl|rfl <;> rfl)
  rw[show Nat.min 1 n=1 from Nat.min_eq_left h1]at h;exact h
 have hf1:((cs0.setIfInBounds 0 (.string ⟨a.toArray⟩)).setIfInBounds 1 (.string ⟨b.toArray⟩)).toList.take (1*2)=mM a b 1:=by
  obtain⟨L,rfl⟩:∃L:List Value,cs0=L.toArray:=⟨cs0.toList,by simp⟩
  match L,hcs with
  | [],h=>simp at h;omega
  | [_],h=>simp at h;omega
  | x :: y :: r,_=>simp[mM,nD]
 have hs1:((cs0.setIfInBounds 0 (.string ⟨a.toArray⟩)).setIfInBounds 1 (.string ⟨b.toArray⟩)).size=n*2:=by simpa using hcs
 clear hA hcell c0 c1 hsz B hb hmk'
 go_enter Tryz.func61,Tryz.ntmps61
 go_wp2_with fail;refine (hM _).mono ?_;rintro _ _ ⟨rfl,rfl⟩;have t9:decide ((9223372036854775807:Int)<(n:Int))=false:=by simp <;> omega
 go_wp2_with fail;clear hcp hM hmk;generalize (cs0.setIfInBounds 0 (.string ⟨a.toArray⟩)).setIfInBounds 1 (.string ⟨b.toArray⟩)=cs1 at *;have B1:=Bx.mk w 51 cs1;have hb1:=au w (.cells cs1 51)
 go_loopw [8] (fun s8 wr=>∃(k:Nat) (cells:Array Value),s8=.int .i64 k/\1<=k/\k<=n/\cells.size=n*2/\Kp (cells.toList.take (k*2)=mM a b k)/\Bx wr w.heap.size 51 cells/\Below w.heap.size w wr) (fun s8 _=>n-(intOf s8).toNat)
 case atStart=>exact⟨1,cs1,rfl,Nat.le_refl _,h1,hs1,⟨hf1⟩,B1,hb1⟩
 case round =>
  clear B1 hb1 hf1 hs1;obtain ⟨k,cells,rfl,hk1,hkn,hs,hf,B,hb⟩:=hrel;by_cases hlt:k<n
  · go_wp2_with fail;obtain ⟨m,hm⟩:∃m,m=Nat.min k (n-k):=⟨_,rfl⟩
    have hm1:m<=k:=by rw[hm];exact Nat.min_le_left _ _
    have hm2:m<=n-k:=by rw[hm];exact Nat.min_le_right _ _
    have Zj:0<m:=by
     rcases Nat.le_total k (n-k) with h|h
     · rw[hm,show Nat.min k (n-k)=k from Nat.min_eq_left h];omega
     · rw[hm,show Nat.min k (n-k)=n-k from Nat.min_eq_right h];omega
    refine RS.aA (dB w.heap.size w.heap.size n (k+m) a b) [] [RS.ak (.int .i64 k),RS.ak (.slice (some ⟨w.heap.size,0,none⟩) n n),RS.ak (.int .i64 k),RS.ak (.slice (some ⟨w.heap.size,k*2,none⟩) (n-k) (n-k)),RS.ak (.slice (some ⟨w.heap.size,0,none⟩) n n),RS.ak (.int .i64 k),RS.ak (.slice (some ⟨w.heap.size,0,none⟩) k n),CoR w.heap.size n (k+m) m a b,RS.ak (.int .i64 ((k+m:Nat):Int))] 9 48 (by kernel_rfl) rfl rfl (by kernel_rfl) (by kernel_rfl) ?_ ?_ ?_
    · simp only[RS.bV]
      and_intros <;> first|exact RS.aF _|exact Uy _ _ _ _ _ _ _|trivial
    · simp only[RS.bG,List.take,List.length];refine ⟨?_,?_,?_,?_,?_,?_,?_,?_,?_,trivial⟩;all_goals (intro vs w2 hb2 hd;simp only[RS.aQ,Act.put,List.nil_append,List.cons_append,List.setIfInBounds_toArray,List.set_cons_succ,List.set_cons_zero,Nat.reduceAdd])
      · clear hd hf B hm;go_wp2;first|exact⟨(dB _ _ _ _ _ _).refl _,rfl⟩|exact⟨(dB _ _ _ _ _ _).refl _,by simp[RS.ak]⟩|exact (dB _ _ _ _ _ _).refl _|(simp [RS.ak])|exact⟨(dB _ _ _ _ _ _).refl _,by simp[RS.ak] <;> omega⟩
      · clear hd hf B hm;go_wp2;first|exact⟨(dB _ _ _ _ _ _).refl _,rfl⟩|exact⟨(dB _ _ _ _ _ _).refl _,by simp[RS.ak]⟩|exact (dB _ _ _ _ _ _).refl _|(simp [RS.ak])|exact⟨(dB _ _ _ _ _ _).refl _,by simp[RS.ak] <;> omega⟩
      · clear hd hf B hm;go_wp2;first|exact⟨(dB _ _ _ _ _ _).refl _,rfl⟩|exact⟨(dB _ _ _ _ _ _).refl _,by simp[RS.ak]⟩|exact (dB _ _ _ _ _ _).refl _|(simp [RS.ak])|exact⟨(dB _ _ _ _ _ _).refl _,by simp[RS.ak] <;> omega⟩
      · have e0:vs 1=_:=hd 1 rfl;have e1:vs 2=_:=hd 2 rfl;clear hd hf B hm;rw[e0,e1];go_wp2;first|exact⟨(dB _ _ _ _ _ _).refl _,rfl⟩|exact⟨(dB _ _ _ _ _ _).refl _,by simp[RS.ak]⟩|exact (dB _ _ _ _ _ _).refl _|(simp [RS.ak])|exact⟨(dB _ _ _ _ _ _).refl _,by simp[RS.ak] <;> omega⟩
      · clear hd hf B hm;go_wp2;first|exact⟨(dB _ _ _ _ _ _).refl _,rfl⟩|exact⟨(dB _ _ _ _ _ _).refl _,by simp[RS.ak]⟩|exact (dB _ _ _ _ _ _).refl _|(simp [RS.ak])|exact⟨(dB _ _ _ _ _ _).refl _,by simp[RS.ak] <;> omega⟩
      · clear hd hf B hm;go_wp2;first|exact⟨(dB _ _ _ _ _ _).refl _,rfl⟩|exact⟨(dB _ _ _ _ _ _).refl _,by simp[RS.ak]⟩|exact (dB _ _ _ _ _ _).refl _|(simp [RS.ak])|exact⟨(dB _ _ _ _ _ _).refl _,by simp[RS.ak] <;> omega⟩
      · have e0:vs 4=_:=hd 4 rfl;have e1:vs 5=_:=hd 5 rfl;clear hd hf B hm;rw[e0,e1];go_wp2;first|exact⟨(dB _ _ _ _ _ _).refl _,rfl⟩|exact⟨(dB _ _ _ _ _ _).refl _,by simp[RS.ak]⟩|exact (dB _ _ _ _ _ _).refl _|(simp [RS.ak])|exact⟨(dB _ _ _ _ _ _).refl _,by simp[RS.ak] <;> omega⟩
      · have e0:vs 3=_:=hd 3 rfl;have e1:vs 6=_:=hd 6 rfl;obtain ⟨c2,hB2,hs2,hp2⟩:=hb2.2.2 cells B hs;have hf2:=hp2 k (by omega) hf.out;obtain ⟨W3,cells3,hrun,B3,hs3,hf3,hbl⟩:=Sr a b hB2 hs2 hlt hf2;rw [←hm]at hrun hf3;have hK:KR w.heap.size w.heap.size n (k+m) a b w2 W3:=⟨hbl _ (Nat.le_refl _),(hbl 0 (Nat.zero_le _)).size,fun c hc hcs=>⟨cells3,B3,hs3,fun p hp _=>by rw[←CP a b hp,←hf3,List.take_take,Nat.min_eq_left (by omega)]⟩⟩
        have hR:CoR w.heap.size n (k+m) m a b undef (.int .i64 m) W3:=⟨rfl,cells3,B3,hs3,hf3⟩
        clear hd hf B hp2 hf2 hB2 hs2 B3 hs3 hf3 hbl hb2 hm;rw [e0,e1];go_wp2;first|exact⟨hK,hR⟩|exact hR
      · have e0:vs 0=_:=hd 0 rfl;have e1:=hd 7 rfl;replace e1:vs 7=_:=e1.1;clear hd hf B hm;rw[e0,e1];go_wp2;first|exact⟨(dB _ _ _ _ _ _).refl _,rfl⟩|exact⟨(dB _ _ _ _ _ _).refl _,by simp[RS.ak]⟩|exact (dB _ _ _ _ _ _).refl _|(simp [RS.ak])|exact⟨(dB _ _ _ _ _ _).refl _,by simp[RS.ak] <;> omega⟩
    · intro vs wa hba hR2;simp only[RS.cZ,RS.ak]at hR2;obtain ⟨e0,e1,e2,e3,e4,e5,e6,⟨e7,cells3,B3,hs3,hf3⟩,e8,-⟩:=hR2;simp only[List.drop,List.take,List.map,RS.aQ,Act.put,List.setIfInBounds_toArray,List.set_cons_succ,List.set_cons_zero,Nat.reduceAdd];rw [e0,e1,e2,e3,e4,e5,e6,e7,e8];have hb3:=hb.trans hba.1;replace hf3:=Kp.mk hf3;clear e0 e1 e2 e3 e4 e5 e6 e7 e8 hba B hb hf hm;go_wp2;exact ⟨⟨k+m,cells3,rfl,by omega,by omega,hs3,hf3,B3,hb3⟩,by simp[intOf] <;> omega⟩
  · obtain rfl:k=n:=by omega
    have hat:=Y8 a b B hs hf.out;go_wp2;go_ret;exact ⟨⟨_,rfl,hat⟩,hb⟩
theorem WH (q:Rat):LQ q (iy q).1 (iy q).2:=⟨rfl,rfl⟩
theorem Qn {qs:List Rat} {k:Nat} (hk:k<qs.length) (h1:1<=k):Tf.iT (qs.take (k+1))=if qs[k]<Tf.iT (qs.take k) then qs[k] else Tf.iT (qs.take k):=by
 rw[List.take_add_one,List.getElem?_eq_getElem hk,Option.toList_some,Tf.CZ];intro h;have:=congrArg List.length h;rw [List.length_take,List.length_nil]at this;omega
theorem XR {qs:List Rat} (h:∀q∈qs,Rq.Fq q) {k:Nat} (h1:1<=k) (hk:k<=qs.length):Rq.Fq (Tf.iT (qs.take k)):=by
 have hne:qs.take k≠[]:=fun h=>by
  have:=congrArg List.length h;rw [List.length_take,List.length_nil]at this;omega
 exact h _ (List.mem_of_mem_take (Tf.rY hne).1)
theorem GK (qs:List Rat) (A:Option Addr) (cap:Nat) (ra rb:List UInt8) (w:World) (hA:At 2 nD w w.heap.size A (qs.map iy)) (hn:qs.length<=cap) (h1:1<=qs.length) (hl:qs.length<=1000) (hq:∀q∈qs,Rq.Fq q) (lr:LQ (Tf.iT qs) ra rb) (hE:Env w) :
 aW 93 #[.slice A qs.length cap,.func (.func 35) #[] #[]] w (.agg #[.string ⟨ra.toArray⟩,.string ⟨rb.toArray⟩]):=by
 obtain⟨b,off,rfl,hbB,hcell⟩:=hA (by rw[List.length_map];omega)
 have jB:Kp (∀(i:Nat) (hi:i<qs.length),w.cell? ⟨b,off+i*2,none⟩=some (.string ⟨(iy qs[i]).1.toArray⟩)/\w.cell? ⟨b,off+i*2+1,none⟩=some (.string ⟨(iy qs[i]).2.toArray⟩)):=⟨fun i hi=>by
  have hg:(qs.map iy)[i]? = some (iy qs[i]):=by rw[List.getElem?_map,List.getElem?_eq_getElem hi];rfl
  exact⟨hcell i _ hg 0 _ rfl,hcell i _ hg 1 _ rfl⟩⟩
 clear hcell hA;obtain ⟨z0,z1⟩:=jB.out 0 (by omega)
 have hq0:LQ (Tf.iT (qs.take 1)) (iy qs[0]).1 (iy qs[0]).2:=by
  rw[List.take_one];rw [List.head?_eq_getElem?,List.getElem?_eq_getElem (by omega)];exact WH _
 have hbq:=au w (.cells #[.string ⟨#[]⟩,.string ⟨#[]⟩] 51);have x0:=(hbq.cell (p:=⟨b,off+0*2,none⟩) hbB).trans z0;have x1:=(hbq.cell (p:=⟨b,off+0*2+1,none⟩) hbB).trans z1;simp only[Nat.zero_mul,Nat.add_zero]at x0 x1;generalize (iy qs[0]).1=a0 at *;generalize (iy qs[0]).2=b0 at *;have Q:=(Bx.mk w 51 #[.string ⟨#[]⟩,.string ⟨#[]⟩]).new (.cells #[.string ⟨a0.toArray⟩,.string ⟨b0.toArray⟩] 51);have M:=Bx.mk (w.alloc (.cells #[.string ⟨#[]⟩,.string ⟨#[]⟩] 51)) 51 #[.string ⟨a0.toArray⟩,.string ⟨b0.toArray⟩];rw [ah]at M;have hb:=bNew hbq (.cells #[.string ⟨a0.toArray⟩,.string ⟨b0.toArray⟩] 51);clear hbq z0 z1
 go_enter Tryz.func93,Tryz.ntmps93
 go_wp2_with fail;clear x0 x1
 go_loopw [6] (fun s6 wr=>∃(k:Nat) (ma mb:List UInt8),s6=.int .i64 k/\1<=k/\k<=qs.length/\LQ (Tf.iT (qs.take k)) ma mb/\Bx wr (w.heap.size+1) 51 #[.string ⟨ma.toArray⟩,.string ⟨mb.toArray⟩]/\Bx wr w.heap.size 51 #[.string ⟨#[]⟩,.string ⟨#[]⟩]/\Below w.heap.size w wr) (fun s6 _=>qs.length-(intOf s6).toNat)
 case atStart=>exact⟨1,a0,b0,rfl,Nat.le_refl _,h1,hq0,M,Q,hb⟩
 case round =>
  clear M Q hb hq0;obtain ⟨k,ma,mb,rfl,hk1,hkn,lm,M,Q,hb⟩:=hrel;by_cases hlt:k<qs.length
  · obtain⟨z0,z1⟩:=jB.out k hlt;have y0:=fun d os=>((gu hb d os).cell (p:=⟨b,off+k*2,none⟩) hbB).trans z0
    have y1:=fun d os=>((gu hb d os).cell (p:=⟨b,off+k*2+1,none⟩) hbB).trans z1
    have m0:=fun d os=>(M.again d os).cell 0 rfl
    have m1:=fun d os=>(M.again d os).cell 1 rfl
    have lk:=WH qs[k];obtain ⟨c,hc⟩:=jH (Rq.kY qs[k] (Tf.iT (qs.take k)));have kC:=fun d os=>jM (Sort.grow (redrawn wr d) os) lk lm (hq _ (List.getElem_mem hlt)) (XR hq hk1 hkn) (hE.below (gu hb d os)) hc
    have hst:=Qn hlt hk1
    have jA:(decide (c<0)=true/\LQ (Tf.iT (qs.take (k+1))) (iy qs[k]).1 (iy qs[k]).2)∨(decide (c<0)=false/\LQ (Tf.iT (qs.take (k+1))) ma mb):=by
     rw[hst,←hc.out]
     rcases Rq.iU qs[k] (Tf.iT (qs.take k)) with ⟨x,h⟩|⟨x,h⟩|⟨x,h⟩
     · left;rw[if_pos h,x];exact⟨rfl,lk⟩
     · right;rw[if_neg (by rw[h];exact Rat.lt_irrefl),x];exact⟨rfl,lm⟩
     · right;rw[if_neg (by grind),x];exact⟨rfl,lm⟩
    clear hst hc lk lm jB;generalize (iy qs[k]).1=pa at *;generalize (iy qs[k]).2=pb at *
    rcases jA with ⟨t1,hnx⟩|⟨t1,hnx⟩
    · go_wp2_with fail;refine wp_region_quiet_below (by kernel_rfl) (by kernel_rfl) ?_
      repeat (go_big_quiet_step (first|(go_at_call 35;with_reducible exact Calls.regrown_of (kC _ _))))
      refine wpQuiet_nil ?_;rintro _ ⟨z,rfl⟩;have hbz:=below_regrown wr z.d z.os;replace M:=M.call hbz;replace Q:=Q.call hbz;replace hb:=aj hb hbz;have q0:=(hb.cell (p:=⟨b,off+k*2,none⟩) hbB).trans z0;have q1:=(hb.cell (p:=⟨b,off+k*2+1,none⟩) hbB).trans z1;clear kC y0 y1 m0 m1 hbz z0 z1;generalize Sort.grow (redrawn wr z.d) z.os=W2 at *;have m0:=M.cell 0 rfl;have m1:=M.cell 1 rfl;have f0:=M.frozen 0;have f1:=M.frozen 1;have M4:=(M.set 0 (.string ⟨pa.toArray⟩)).set 1 (.string ⟨pb.toArray⟩);have Q4:=(Q.far (p:=⟨w.heap.size+1,0,none⟩) (by show w.heap.size≠w.heap.size+1;omega) (.string ⟨pa.toArray⟩)).far (p:=⟨w.heap.size+1,1,none⟩) (by show w.heap.size≠w.heap.size+1;omega) (.string ⟨pb.toArray⟩);have hb4:=aJ (aJ hb (p:=⟨w.heap.size+1,0,none⟩) (Nat.le_succ _) (.string ⟨pa.toArray⟩)) (p:=⟨w.heap.size+1,1,none⟩) (Nat.le_succ _) (.string ⟨pb.toArray⟩);clear M Q hb;go_wp2;exact ⟨⟨k+1,pa,pb,by go_num,by omega,by omega,hnx,M4,Q4,hb4⟩,by simp[intOf] <;> omega⟩
    · go_wp2_with fail;refine wp_region_quiet_below (by kernel_rfl) (by kernel_rfl) ?_
      repeat (go_big_quiet_step (first|(go_at_call 35;with_reducible exact Calls.regrown_of (kC _ _))))
      refine wpQuiet_nil ?_;rintro _ ⟨z,rfl⟩;have hbz:=below_regrown wr z.d z.os;replace M:=M.call hbz;replace Q:=Q.call hbz;replace hb:=aj hb hbz;clear kC y0 y1 m0 m1 hbz z0 z1;go_wp2;exact ⟨⟨k+1,ma,mb,by go_num,by omega,by omega,hnx,M,Q,hb⟩,by simp[intOf] <;> omega⟩
  · obtain rfl:k=qs.length:=by omega
    rw[List.take_length]at lm;obtain ⟨rfl,rfl⟩:=lm.same lr;have m0:=M.cell 0 rfl;have m1:=M.cell 1 rfl;have q0:=Q.cell 0 rfl;have q1:=Q.cell 1 rfl;have f0:=Q.frozen 0;have f1:=Q.frozen 1;clear jB lm lr hq;go_wp2;exact bodyPost_ret (eG rfl _ _ rfl ((Q.set 0 (.string ⟨ma.toArray⟩)).set 1 (.string ⟨mb.toArray⟩))) rfl ⟨rfl,aJ (aJ hb (p:=⟨w.heap.size,0,none⟩) (Nat.le_refl _) _) (p:=⟨w.heap.size,1,none⟩) (Nat.le_refl _) _⟩
theorem JU (qs:List Rat) (A:Option Addr) (cap:Nat) (ra rb:List UInt8) (w:World) (hA:At 2 nD w w.heap.size A (qs.map iy)) (hn:qs.length<=cap) (h1:1<=qs.length) (hl:qs.length<=1000) (hq:∀q∈qs,Rq.Fq q) (lr:LQ (Tf.iT qs) ra rb) (hE:Env w) :
 aW 62 #[.slice A qs.length cap,.func (.func 35) #[] #[]] w (.agg #[.string ⟨ra.toArray⟩,.string ⟨rb.toArray⟩]):=by
 have hb:=au w (.cells #[.string ⟨#[]⟩,.string ⟨#[]⟩] 51);have Q:=Bx.mk w 51 #[.string ⟨#[]⟩,.string ⟨#[]⟩];have hM:=GK qs A cap ra rb _ (hA.call hb) hn h1 hl hq lr (hE.below hb);clear hA hE hq lr
 go_enter Tryz.func62,Tryz.ntmps62
 go_wp2_with fail;refine hM.mono ?_;rintro _ w1 ⟨rfl,hb1⟩;clear hM;replace Q:=Q.call hb1;replace hb:=aj hb hb1;have q0:=Q.cell 0 rfl;have q1:=Q.cell 1 rfl;have f0:=Q.frozen 0;have f1:=Q.frozen 1;go_wp2;exact bodyPost_ret (eG rfl _ _ rfl ((Q.set 0 (.string ⟨ra.toArray⟩)).set 1 (.string ⟨rb.toArray⟩))) rfl ⟨rfl,aJ (aJ hb (p:=⟨w.heap.size,0,none⟩) (Nat.le_refl _) _) (p:=⟨w.heap.size,1,none⟩) (Nat.le_refl _) _⟩
open Go.RowKit
theorem En {P:Program} {w:World} {mty kt et:TypeId} {r clock:Nat} {es:Array MapEntry} (hm:P.underlying mty=some (.map kt et)) (hk:P.underlying kt=some (.int .i64)) (hb:w.heap[r]? = some (.map es clock)) (key:Int) (val:Value)
 (hf:Instr.findNow (.int .i64) (.int .i64 key) es.toList 0=some none) :
 (Instr.mapUpdate mty (.map (some r)) (.int .i64 key) val).run P w=.ok () (w.putObj r (.map (es.push { key:=.int .i64 key,val:=val,born:=clock }) (clock+1))):=by
 have hc:(Instr.checkKey false 10000 kt (.int .i64 key)).run P w=.ok () w:=MapKept.run_checkKey (k:=.int .i64 key) hk (by simp[MapKept.IsKey]) false 9999;simp [Instr.mapUpdate,run_underlying hm,MapKept.run_getObj_map hb,hc,MapKept.run_findKey hk hf,MapKept.run_setObj_map _ hb,Result.andThen]
 rfl
theorem Em {P:Program} {w:World} {mty kt et:TypeId} {r clock i:Nat} {es:Array MapEntry} (hm:P.underlying mty=some (.map kt et)) (hk:P.underlying kt=some (.int .i64)) (hb:w.heap[r]? = some (.map es clock)) (key:Int) {v:Value}
 (hf:Instr.findNow (.int .i64) (.int .i64 key) es.toList 0=some (some (i,v))) :
 (Instr.lookup mty (.map (some r)) (.int .i64 key) true).run P w=.ok (.tuple #[v,.bool true]) w:=by
 have hc:(Instr.checkKey es.isEmpty 10000 kt (.int .i64 key)).run P w=.ok () w:=MapKept.run_checkKey (k:=.int .i64 key) hk (by simp[MapKept.IsKey]) _ 9999;simp [Instr.lookup,run_underlying hm,MapKept.run_getObj_map hb,hc,MapKept.run_findKey hk hf,Result.andThen]
theorem zo {w:World} {r:Nat} {o o':Obj} (hb:w.heap[r]? = some o):(w.putObj r o').heap[r]? = some o':=World.putObj_heap_same (Array.getElem?_eq_some_iff.1 hb).1
end Go.Proofs.YtelljijajgiabaaGreatDoor

import Derived.Test.YtohgjenaclfegaaGreatDoorQI02
import Derived.Laws.MakeOwn
import Derived.Laws.EntriesVeiled
import Derived.Deep.RegionWith
set_option linter.unusedVariables false
set_option linter.unusedSimpArgs false
set_option maxRecDepth 100000
set_option maxHeartbeats 8000000
namespace Go.Proofs.YtohgjenaclfegaaGreatDoor
open Go.RowKit Go.Shelf
attribute [local go_sem] Oper.semAt_some
theorem intZ:∃i,Tryz.prog.info? 3=some i/\i.zero=some (.int .i64 0)/\i.size=1/\i.bytes=8:=by
 have h:(Tryz.prog.info? 3).map (fun i=>(i.size,i.bytes,i.zero))=some (1,8,some (.int .i64 0)):=by kernel_rfl
 cases hi:Tryz.prog.info? 3 with
 | none=>rw[hi]at h;cases h
 | some i =>
  rw[hi]at h;simp only[Option.map_some,Option.some.injEq,Prod.mk.injEq]at h;exact ⟨i,rfl,h.2.2,h.1,h.2.1⟩
theorem LZ (n:Nat) (hn:n<=1000000) (w:World):(Instr.makeSlice 297 (.int .i64 n) (.int .i64 n)).run Tryz.prog w=.ok (.slice (some ⟨w.heap.size,0,none⟩) n n) (w.alloc (.cells (madeCells #[.int .i64 0] n) 3)):=by
 obtain⟨i,h1,h2,h3,h4⟩:=intZ;have h:=run_make (P:=Tryz.prog) w 297 3 i (.int .i64 0) Tryz.underlying297 h1 h2 .i64 .i64 n n (by omega) (by omega) (by rw[h4];omega) (by omega);rw [h3,Nat.mul_one,Int.toNat_natCast]at h;exact h
theorem V3 {r d:Nat} (hd:d<10000):Ig.Gr ((d:Int) :: Ig.grp r):=fun g hg=>by
 rcases List.mem_cons.1 hg with h|h
 · subst h;omega
 · exact Ig.dO r g h
theorem KU {r d:Nat} (hd:d<10000):Ig.bK ((d:Int) :: Ig.grp r)=Ig.grp (d+10000*r):=by
 rw[Ig.jF (V3 hd)]
 have h:Ig.aP ((d:Int) :: Ig.grp r)=((d+10000*r:Nat):Int):=by
  show (d:Int)+10000*Ig.aP (Ig.grp r)=_
  rw[Ig.dH];omega
 rw[h,Int.toNat_natCast]
theorem C9 {r d m:Nat} (hd:d<10000) (h:(Ig.grp r).length<=m):(Ig.grp (d+10000*r)).length<=m+1:=by
 refine Ig.iZ ?_;have h1:=Nat.lt_of_lt_of_le (Ig.jQ r) (Nat.pow_le_pow_right (show 0<10000 by decide) h);rw [Nat.pow_succ];generalize 10000 ^ m=p at *;omega
theorem Dt {W:World} {g o B:Nat} {A:Option Addr} {p:List Int} (h:At 1 aZ W B A p) (hne:∀b off,A=some ⟨b,off,none⟩->b≠g) (u:Value):At 1 aZ (W.setCell ⟨g,o,none⟩ u) B A p:=fun h0=>by
 obtain⟨b,off,e,hb,hc⟩:=h h0;exact ⟨b,off,e,hb,fun i c hi j v hj=>(jV (Below.heap_setCell W ⟨g,o,none⟩ u b (hne b off e))).trans (hc i c hi j v hj)⟩
theorem Vg {W:World} {g o a n c b off:Nat} (h:aC W a (.slice (some ⟨b,off,none⟩) n c)) (hne:b≠g) (u:Value):aC (W.setCell ⟨g,o,none⟩ u) a (.slice (some ⟨b,off,none⟩) n c):=by
 obtain⟨A',cap,h1,h2,h3,h4⟩:=h.out;simp only[Value.slice.injEq]at h1;obtain ⟨rfl,rfl,rfl⟩:=h1;exact ⟨_,_,rfl,(Dt h2 (fun b' off' e=>by simp only[Option.some.injEq,Addr.mk.injEq]at e;omega) u).more (KeepsOthers.setCell W _ u).size,h3,h4⟩
def Iw (l:List Int) (b:Nat) (pre:List (Fin l.length)):List Int:=(List.range l.length).map fun t=>((dq l b pre t:Nat):Int)
theorem RQ (l:List Int) (b:Nat) (pre:List (Fin l.length)):(Iw l b pre).length=l.length:=by simp[Iw]
theorem LD {W:World} {g b:Nat} {l:List Int} {pre:List (Fin l.length)} (h:Bx W g 3 (jK l b pre)):At 1 aZ W W.heap.size (some ⟨g,0,none⟩) (Iw l b pre):=fun _=>by
 refine⟨g,0,rfl,h.lt,fun i c hi j u hj=>?_⟩
 obtain rfl:j=0:=by
  rcases j with _|j;· rfl
  · simp[aZ]at hj
 obtain rfl:u=.int .i64 c:=by simpa [aZ] using hj.symm
 rw[Nat.zero_add,Nat.mul_one,Nat.add_zero];refine h.cell i ?_
 unfold Iw at hi
 unfold jK
 rw[List.getElem?_map]at hi;rw [List.getElem?_toArray,List.getElem?_map]
 cases hr:(List.range l.length)[i]? with
 | none=>rw[hr]at hi;cases hi
 | some t=>rw[hr]at hi;simp only[Option.map_some,Option.some.injEq]at hi ⊢;rw[hi]
theorem XT (l:List Int) (b:Nat):∀(n:Nat) (pre:List (Fin l.length)),pre.length=n->∀t,dq l b pre t<10000
 | 0,pre,h,t=>by rw[List.length_eq_zero_iff.1 h,RI];decide
 | n+1,pre,h,t=>by
  rcases List.eq_nil_or_concat pre with h0|⟨m,x,h0⟩
  · rw[h0]at h;simp at h
  · obtain rfl:pre=m++[x]:=by simpa using h0
    rw[Di]
    split
    · exact Nat.mod_lt _ (by decide)
    · exact XT l b n m (by simpa using h) t
theorem MX (a:Nat) {b:Nat} (hb:0<b):Ig.bK (Iw (Ig.grp a) b (dF (Ig.grp a).length))=Ig.grp (a / b):=by
 rw[Ig.jF (fun g hg=>by
  obtain⟨t,_,rfl⟩:=List.mem_map.1 hg;have:=XT (Ig.grp a) b _ (dF (Ig.grp a).length) rfl t
  omega)]
 have h:=J9 (Ig.dO a) hb (Ig.grp a).length (Nat.le_refl _);rw [Nat.sub_self,List.drop_zero,Ig.lQ,Ig.dH,Int.toNat_natCast]at h
 unfold Iw
 rw[h,Int.toNat_natCast]
theorem xG {fn:Func} {t u:Tmp} {g g':Nat} {A A':Option Addr} {n n' c c':Nat} (h:fn.results=#[.cell t 297,.cell u 297]) (tmps:Array Value) (w:World) (ht:tmps.getD t undef=.pointer (some ⟨g,0,none⟩)) (hu:tmps.getD u undef=.pointer (some ⟨g',0,none⟩))
 (hB:Bx w g 297 #[.slice A n c]) (hB':Bx w g' 297 #[.slice A' n' c']) :
 (results fn tmps).run Tryz.prog w=.ok (.tuple #[.slice A n c,.slice A' n' c']) w:=by
 have h0:=hB.cell 0 rfl;have h0':=hB'.cell 0 rfl;have ht':tmps[t]?.getD undef=.pointer (some ⟨g,0,none⟩):=by simpa using ht
 have hu':tmps[u]?.getD undef=.pointer (some ⟨g',0,none⟩):=by simpa using hu
 simp only[results,h];simp [go_sem,ht',hu',h0,h0',loadVar]
theorem Ew (a b:Nat) (v1 v2:Value) (w:World) (h1:aC w a v1) (h2:aC w b v2) (hb0:0<b) (la:(Ig.grp a).length<=20000) (lb:(Ig.grp b).length<=15000) :
 Calls Tryz.prog 218 #[v1,v2] w fun e w'=>∃q r,e=.returned (.tuple #[q,r])/\aC w' (a / b) q/\aC w' (a % b) r/\Below w.heap.size w w':=by
 obtain⟨A1,c1,rfl,hA1,hn1,hm1⟩:=h1.out;obtain ⟨A2,c2,rfl,hA2,hn2,hm2⟩:=h2.out;have nH:(Ig.grp a).length<=20000:=la;refine (callsIn_wide (n:=3)).1 ?_;refine callsIn_of_wp_marks Tryz.func218 rfl trivial ?_ rfl;simp only[Tryz.ntmps218,List.size_toArray,List.length_cons,List.length_nil,Nat.reduceAdd,Nat.reduceSub,Array.replicate_succ,Array.replicate_zero,List.push_toArray,List.append_toArray,List.nil_append,List.cons_append];have hmk:=LZ (Ig.grp a).length (by omega)
 gi_wp2_with (refine ⟨trivial,?_⟩;gi_at_call 258;refine (wS Fence.wide 2 trivial rfl _ _ _ _).mono ?_;rintro e w' ⟨rfl,rfl⟩)
 obtain⟨W1,hW1⟩:∃W1,W1=w.alloc (.cells #[.slice A2 (Ig.grp b).length c2] 297):=⟨_,rfl⟩
 obtain⟨W2,hW2⟩:∃W2,W2=W1.alloc (.cells #[.slice (some ⟨w.heap.size+1+1+1,0,none⟩) (Ig.grp a).length (Ig.grp a).length] 297):=⟨_,rfl⟩
 obtain⟨W3,hW3⟩:∃W3,W3=W2.alloc (.cells #[.slice none 0 0] 297):=⟨_,rfl⟩
 obtain⟨W4,NS⟩:∃W4,W4=W3.alloc (.cells (madeCells #[.int .i64 0] (Ig.grp a).length) 3):=⟨_,rfl⟩
 obtain⟨W0,hW0⟩:∃W0,W0=W4.alloc (.cells #[.slice A1 (Ig.grp a).length c1] 297):=⟨_,rfl⟩
 rw[←hW1,←hW2,←hW3,←NS,←hW0];have s1:W1.heap.size=w.heap.size+1:=by rw[hW1,aj]
 have s2:W2.heap.size=w.heap.size+1+1:=by rw[hW2,aj,s1]
 have s3:W3.heap.size=w.heap.size+1+1+1:=by rw[hW3,aj,s2]
 have s4:W4.heap.size=w.heap.size+1+1+1+1:=by rw[NS,aj,s3]
 have hsz:W0.heap.size=w.heap.size+5:=by rw[hW0,aj,s4]
 have hb5:Below w.heap.size w W0:=by rw[hW0,NS,hW3,hW2,hW1];exact bNew (bNew (bNew (bNew (aA w _) _) _) _) _
 have b1:=Bx.mk w 297 #[.slice A2 (Ig.grp b).length c2];have b2:=Bx.mk W1 297 #[.slice (some ⟨w.heap.size+1+1+1,0,none⟩) (Ig.grp a).length (Ig.grp a).length];have b3:=Bx.mk W2 297 #[.slice none 0 0];have b4:=Bx.mk W3 3 (madeCells #[.int .i64 0] (Ig.grp a).length);have B7:=Bx.mk W4 297 #[.slice A1 (Ig.grp a).length c1];rw [←hW1]at b1;rw [←hW2,s1]at b2;rw [←hW3,s2]at b3;rw [←NS,s3,G9 (Ig.grp a) b]at b4;rw [←hW0,s4]at B7;have b4':=b4.new (.cells #[.slice A1 (Ig.grp a).length c1] 297);have b3':=(b3.new (.cells (madeCells #[.int .i64 0] (Ig.grp a).length) 3)).new (.cells #[.slice A1 (Ig.grp a).length c1] 297);have b2':=((b2.new (.cells #[.slice none 0 0] 297)).new (.cells (madeCells #[.int .i64 0] (Ig.grp a).length) 3)).new (.cells #[.slice A1 (Ig.grp a).length c1] 297);have b1':=(((b1.new (.cells #[.slice (some ⟨w.heap.size+1+1+1,0,none⟩) (Ig.grp a).length (Ig.grp a).length] 297)).new (.cells #[.slice none 0 0] 297)).new (.cells (madeCells #[.int .i64 0] (Ig.grp a).length) 3)).new (.cells #[.slice A1 (Ig.grp a).length c1] 297);rw [←hW0]at b4';rw [←NS,←hW0]at b3';rw [←hW3,←NS,←hW0]at b2';rw [←hW2,←hW3,←NS,←hW0]at b1';have hI0:F7 w a b (.slice A2 (Ig.grp b).length c2) [] W0:=⟨hb5,by omega,b1',b2',⟨_,b3',⟨none,0,by simp[hor,Ig.aW],by simp only[hor,List.foldl_nil,Nat.zero_mod,Ig.aW];exact At.nil,by simp[hor,Ig.aW],Nat.zero_le _⟩⟩,b4'⟩
 clear b1 b2 b3 b4 b1' b2' b3' b4' hW0 hW1 hW2 hW3 NS hmk s1 s2 s3 s4 hb5
 refine wpIn_rangeFunc_ownG rfl (by decide) (gf:=289) (lb:=#[.pointer (some ⟨w.heap.size+1+1+1+1,0,none⟩)]) rfl trivial (enters_of Tryz.func289 (by kernel_rfl) rfl)
  (ni Fence.wide 2 trivial rfl (by decide) (w.heap.size+1+1+1+1) w.heap.size A1 c1 (Ig.grp a) (by omega) W0 (by omega) (by omega) (B7.cell 0 rfl) (hA1.below hI0.hb)) ug.trans (JH (by omega) (by omega)) (Below.refl _ _) (fun _=>rfl)
  (fun pre W=>F7 w a b (.slice A2 (Ig.grp b).length c2) pre W) (fun _ _ _=>False)
  (fun pre W W' row hs hg hr=>hs.kept hg (fun r e=>⟨by have:=(hr r e).1;omega,(hr r e).2⟩))
  (fun _ _ _ _ _ hs _ _=>hs)
  hI0
  (fun x=>{ tmps:=#[.slice A1 (Ig.grp a).length c1,.slice A2 (Ig.grp b).length c2,undef,.pointer (some ⟨w.heap.size,0,none⟩),.pointer (some ⟨w.heap.size+1,0,none⟩),.pointer (some ⟨w.heap.size+1+1,0,none⟩),.int .i64 (x.1:Int),.int .i64 (Ig.grp a)[x.1],undef,undef,.slice A1 (Ig.grp a).length c1,.int .i64 ((Ig.grp a).length:Int),.slice (some ⟨w.heap.size+1+1+1,0,none⟩) (Ig.grp a).length (Ig.grp a).length,
   .slice A1 (Ig.grp a).length c1,.func (.func 289) #[] #[.pointer (some ⟨w.heap.size+1+1+1+1,0,none⟩)],.int .i64 (x.1:Int),.int .i64 (Ig.grp a)[x.1],undef,undef,undef,undef,undef,undef,undef,undef,undef,undef,undef,undef,undef,undef,undef,undef,undef,undef,undef,undef,undef,undef,undef,undef],defers:=[] }) ?assign ?body ?done ?stop
 case assign =>
  intro l x W K hK;simp only[handed]
  gi_wp2
  exact hK
 case body =>
  rintro l pre x W ⟨hb,hle,B3,Bq,⟨v,Br,hNr⟩,Bc⟩ hlt;have hgx:=Ig.dO a (Ig.grp a)[x.1] (List.getElem_mem x.2);obtain ⟨d,hd⟩:=Int.eq_ofNat_of_zero_le hgx.1;have hd9:d<10000:=by omega
  have hsn:Kp (hor (Ig.grp a) (pre++[x])=hor (Ig.grp a) pre*10000+d):=⟨by rw[lK,hd,Int.toNat_natCast]⟩
  simp only[hd];generalize hor (Ig.grp a) pre=y at *;obtain ⟨A5,c5,rfl,Ui,hn5,Y8⟩:=hNr.out;have hyl:(Ig.grp (y % b)).length<=15000:=Nat.le_trans (Ig.iZ (Nat.lt_of_lt_of_le (Nat.mod_lt y hb0) (Nat.le_of_lt (Ig.jQ b)))) lb;have B51:=Br.new (.cells #[.int .i64 d] 3);have hcell1:=B51.cell 0 rfl;have hP:Src Tryz.prog 1 297 (.slice A5 (Ig.grp (y % b)).length c5) (Ig.grp (y % b)).length ((Ig.grp (y % b)).flatMap aZ) (W.alloc (.cells #[.int .i64 d] 3)):=At.src (f:=aZ) (size:=1) (e:=3) (fun _=>rfl) (fun c u hu=>by simp[aZ]at hu;subst hu;rfl) Tryz.underlying297 (Ui.below (aA W _)) c5
  gi_wp2_with (gi_at_builtin;refine iw _ _ _ (by kernel_rfl) ?_;refine aF rfl (.tmp 18) (.tmp 19) rfl W.heap.size 1 1 (Ig.grp (y % b)).length [.int .i64 d] ((Ig.grp (y % b)).flatMap aZ) _ _ rfl rfl ⟨W.heap.size,_,rfl,Nat.le_refl _,Nat.le_refl _,Bx.mk _ _ _,rfl,rfl⟩ (by rw[aj];omega) hP (by decide) (by omega) ?_;intro v' w' cap' e1 e2 e3 e4)
  have hb7:=(aA W (.cells #[.int .i64 d] 3)).trans ((e2 trivial).mono (by rw[aj];omega));have hlen:1+(Ig.grp (y % b)).length=((d:Int) :: Ig.grp (y % b)).length:=by rw[List.length_cons];omega
  have hfl:[Value.int .i64 d]++(Ig.grp (y % b)).flatMap aZ=((d:Int) :: Ig.grp (y % b)).flatMap aZ:=rfl;rw [hlen,hfl]at e3;obtain ⟨g6,hv6,hg6⟩:∃g6,v'=.slice (some ⟨g6,0,none⟩) ((d:Int) :: Ig.grp (y % b)).length cap'/\W.heap.size<=g6:=by obtain⟨g7,_,h,h7,_⟩:=e3;exact⟨g7,h,h7⟩
  obtain⟨A6,VF,hA6,hcap6⟩:=dP.at (f:=aZ) (size:=1) (fun _=>rfl) e3;obtain rfl:A6=some ⟨g6,0,none⟩:=by rw[hv6]at VF;simp only[Value.slice.injEq]at VF;exact VF.1.symm
  subst hv6;clear VF;have hT:=iy ((d:Int) :: Ig.grp (y % b)) (some ⟨g6,0,none⟩) cap' w' hA6 hcap6 (by rw[←hlen];omega);have Br7:=Br.call hb7;have Zm:=Br7.cell 0 rfl;have Zh:=Br7.frozen 0;clear hlen hfl hP hcell1 B51 e1 e2;have XG:aC w' (d+10000*(y % b)) (.slice (some ⟨g6,0,none⟩) (Ig.bK ((d:Int) :: Ig.grp (y % b))).length cap'):=uJ hA6 hcap6 e4 ⟨KU hd9⟩;generalize (Ig.bK ((d:Int) :: Ig.grp (y % b))).length=n6 at *
  go_wp2_with (go_at_call 260;refine hT.mono ?_;rintro e w9 ⟨rfl,rfl⟩)
  have hb8:=aK (ah hb hb7) (p:=⟨w.heap.size+1+1,0,none⟩) (by show w.heap.size<=w.heap.size+1+1;omega) (.slice (some ⟨g6,0,none⟩) n6 cap');have Ux:=(B3.call hb7).far (p:=⟨w.heap.size+1+1,0,none⟩) (by simp;omega) (.slice (some ⟨g6,0,none⟩) n6 cap');have NI:=(Bq.call hb7).far (p:=⟨w.heap.size+1+1,0,none⟩) (by simp) (.slice (some ⟨g6,0,none⟩) n6 cap');have Jk:=(Bc.call hb7).far (p:=⟨w.heap.size+1+1,0,none⟩) (by simp) (.slice (some ⟨g6,0,none⟩) n6 cap');have Jj:Bx (w'.setCell ⟨w.heap.size+1+1,0,none⟩ (.slice (some ⟨g6,0,none⟩) n6 cap')) (w.heap.size+1+1) 297 #[.slice (some ⟨g6,0,none⟩) n6 cap']:=Br7.set 0 _;have VT:=iW Br7 XG (.slice (some ⟨g6,0,none⟩) n6 cap');have hkf8:=(eH hb7 W0.heap.size).trans ((KeepsOthers.setCell w' ⟨w.heap.size+1+1,0,none⟩ (.slice (some ⟨g6,0,none⟩) n6 cap')).from W0.heap.size);have Za:ug w.heap.size (w.heap.size+1+1+1+1) W (w'.setCell ⟨w.heap.size+1+1,0,none⟩ (.slice (some ⟨g6,0,none⟩) n6 cap')):=ug.trans ⟨hb7.mono (by omega),hb7.block _ (by omega)⟩ ⟨(Below.refl _ _).setCell (by show w.heap.size<=w.heap.size+1+1;omega) _,Below.heap_setCell _ _ _ _ (by simp;omega)⟩;clear hT Zm Zh Br7 hb7 XG hA6 hcap6 e3 e4;generalize w'.setCell ⟨w.heap.size+1+1,0,none⟩ (.slice (some ⟨g6,0,none⟩) n6 cap')=W8 at *;have hst:=Ig.yK (R:=y) hb0 hd9;have hsn2:Kp (hor (Ig.grp a) (pre++[x]) / b % 10000=(d+10000*(y % b)) / b):=⟨by rw[hsn.out,show y*10000+d=d+10000*y by omega,hst.2.1,Nat.add_mul_mod_self_left,Nat.mod_eq_of_lt hst.1]⟩
  have hsn3:Kp (hor (Ig.grp a) (pre++[x]) % b=(d+10000*(y % b))-b*((d+10000*(y % b)) / b)):=⟨by rw[hsn.out,show y*10000+d=d+10000*y by omega,hst.2.2];exact Nat.mod_eq_sub_mul_div⟩
  have hqle:b*((d+10000*(y % b)) / b)<=d+10000*(y % b):=Nat.mul_div_le _ _;have hq9:(d+10000*(y % b)) / b<=9999:=by have:=hst.1;omega
  have hRl:(Ig.grp (d+10000*(y % b))).length<=15000+1:=C9 hd9 hyl;have hdf:=fun e=>Ig.A_ (R:=d+10000*(y % b)) (d:=e) hb0
  clear hst hsn hyl;generalize d+10000*(y % b)=R at *;generalize R / b=q at *;have hbN:aC W8 b (.slice A2 (Ig.grp b).length c2):=⟨A2,c2,rfl,(hA2.below hb8).more hb8.size,hn2,hm2⟩
  have hs8:w.heap.size+1+1+1+1<W8.heap.size:=Nat.lt_of_lt_of_le (by omega) Za.1.size;obtain ⟨W9,hW9⟩:∃W9,W9=W8.alloc (.cells #[.func (.func 261) #[.slice A2 (Ig.grp b).length c2] #[]] 347):=⟨_,rfl⟩
  have hbn:=aA W8 (.cells #[.func (.func 261) #[.slice A2 (Ig.grp b).length c2] #[]] 347);have Ym:=Bx.mk W8 347 #[.func (.func 261) #[.slice A2 (Ig.grp b).length c2] #[]];rw [←hW9]at hbn Ym;have k3:=Ux.cell 0 rfl
  gi_wp2
  rw[←hW9];have aX:=ah hb8 hbn;have VH:=hkf8.trans (eH hbn W0.heap.size);have VG:ug w.heap.size (w.heap.size+1+1+1+1) W W9:=ug.trans Za ⟨hbn.mono (by omega),hbn.block _ hs8⟩;replace Ux:=Ux.call hbn;replace NI:=NI.call hbn;replace Jj:=Jj.call hbn;replace Jk:=Jk.call hbn;replace VT:=VT.call hbn;replace hbN:=hbN.call hbn;have h98:W8.heap.size<W9.heap.size:=by rw[hW9,aj];omega
  clear hb8 hkf8 Za k3 hbn hW9;generalize W8.heap.size=g8 at *;have hl3:∀e,e<10000->(Ig.grp (b*(e+1))).length<=90000:=fun e he=>Nat.le_trans (kR (n:=2) lb (Nat.lt_of_lt_of_le (show e+1<10002 by omega) (by decide))) (by omega)
  have hf:=fun (W':World) (e:Nat) (hW:Below W9.heap.size W9 W') (he:e<9999)=>LK b R e (.slice A2 (Ig.grp b).length c2) (.slice (some ⟨g6,0,none⟩) n6 cap') g8 (w.heap.size+1+1) W' (Ym.call hW) (Jj.call hW) (hbN.call hW) (VT.call hW) (by omega) (by omega) (by omega) (hl3 e (by omega))
  have XB:∀e,decide (R<b*(e+1))=decide (q<=e):=fun e=>by
   have:=hdf e
   rcases Nat.lt_or_ge e q with h|h
   · rw[decide_eq_false (by omega),decide_eq_false (by omega)]
   · rw[decide_eq_true (by omega),decide_eq_true (by omega)]
  simp only[XB]at hf;clear hl3 hdf XB;obtain ⟨v6,hv6⟩:∃v6,v6=Value.slice (some ⟨g6,0,none⟩) n6 cap':=⟨_,rfl⟩
  have hx20:x.1<(jK (Ig.grp a) b pre).size:=by simp[jK]
  have hxn:=x.2;have cq:=fun w1 (hb1:Below W9.heap.size W9 w1)=>(hb1.cell (p:=⟨w.heap.size+1,0,none⟩) NI.lt).trans (NI.cell 0 rfl)
  refine gW [ak (.slice (some ⟨w.heap.size+1+1+1,0,none⟩) (Ig.grp a).length (Ig.grp a).length),ak (.int .i64 (x.1:Int)),ak (.func (.func 262) #[] #[.pointer (some ⟨g8,0,none⟩),.pointer (some ⟨w.heap.size+1+1,0,none⟩)]),ak (.int .i64 (q:Int)),ak (.pointer (some ⟨w.heap.size+1+1+1,x.1,none⟩))] 5 41 (by kernel_rfl) (by kernel_rfl) rfl rfl (by kernel_rfl) ?_ ?_ ?_
  · simp only[aY]
    and_intros <;> first|exact aB _|trivial
  · simp only[Users,List.take,List.length];refine ⟨?_,?_,?_,?_,?_,trivial⟩;all_goals (intro vs w1 hb1 hd;have c3:=cq w1 hb1;clear cq;simp only[aJ,Act.put,List.nil_append,List.cons_append,List.setIfInBounds_toArray,List.set_cons_succ,List.set_cons_zero,Nat.reduceAdd])
    · clear hd hf;go_wp2;exact⟨Below.refl _ _,rfl⟩
    · clear hd hf;go_wp2;exact⟨Below.refl _ _,rfl⟩
    · clear hd hf;go_wp2;exact⟨Below.refl _ _,rfl⟩
    · have h2:vs 2=.func (.func 262) #[] #[.pointer (some ⟨g8,0,none⟩),.pointer (some ⟨w.heap.size+1+1,0,none⟩)]:=hd 2 rfl;have hC:=GN q g8 (w.heap.size+1+1) w1 hq9 (fun W' e hW he=>hf W' e (ah hb1 hW) he);clear hd hf;rw [h2];go_wp2_with fail;refine hC.mono ?_;clear hC;rintro _ w9 ⟨rfl,aX⟩;go_wp2;rfl
    · have h0:vs 0=.slice (some ⟨w.heap.size+1+1+1,0,none⟩) (Ig.grp a).length (Ig.grp a).length:=hd 0 rfl;have h1:vs 1=.int .i64 (x.1:Int):=hd 1 rfl;clear hd hf;rw [h0,h1];go_wp2;exact ⟨Below.refl _ _,rfl⟩
  · clear cq hf;intro vs wa hba hR;simp only[bP,ak]at hR;obtain ⟨-,-,-,e3,e4,-⟩:=hR;simp only[List.drop,List.take,List.map,aJ,Act.put,List.setIfInBounds_toArray,List.set_cons_succ,List.set_cons_zero,Nat.reduceAdd];rw [e3,e4];generalize vs 0=z0,vs 1=z1,vs 2=z2;clear e3 e4;replace Ux:=Ux.call hba;replace NI:=NI.call hba;replace Jj:=Jj.call hba;replace Jk:=Jk.call hba;replace Ym:=Ym.call hba;replace VT:=VT.call hba;replace hbN:=hbN.call hba;replace aX:=ah aX hba;replace VH:=VH.trans (eH hba W0.heap.size);replace VG:ug w.heap.size (w.heap.size+1+1+1+1) W wa:=VG.trans ⟨hba.mono (by have:=aX.size;omega),hba.block _ (by omega)⟩;have hce:=Jk.cell x.1 (Array.getElem?_eq_getElem hx20);have hfr:=Jk.frozen x.1;go_wp2;have Ie:=aK aX (p:=⟨w.heap.size+1+1+1,x.1,none⟩) (by show w.heap.size<=w.heap.size+1+1+1;omega) (.int .i64 (q:Int));have hkf10:=VH.trans ((KeepsOthers.setCell wa ⟨w.heap.size+1+1+1,x.1,none⟩ (.int .i64 (q:Int))).from W0.heap.size);have hkp10:ug w.heap.size (w.heap.size+1+1+1+1) W (wa.setCell ⟨w.heap.size+1+1+1,x.1,none⟩ (.int .i64 (q:Int))):=VG.trans ⟨(Below.refl _ _).setCell (by show w.heap.size<=w.heap.size+1+1+1;omega) _,Below.heap_setCell _ _ _ _ (by simp)⟩;have h810:g8<(wa.setCell ⟨w.heap.size+1+1+1,x.1,none⟩ (.int .i64 (q:Int))).heap.size:=Nat.lt_of_lt_of_le (Nat.lt_of_lt_of_le h98 hba.size) (KeepsOthers.setCell wa _ _).size;replace Ux:=Ux.far (p:=⟨w.heap.size+1+1+1,x.1,none⟩) (by simp;omega) (.int .i64 (q:Int));replace NI:=NI.far (p:=⟨w.heap.size+1+1+1,x.1,none⟩) (by simp) (.int .i64 (q:Int));replace Jj:=Jj.far (p:=⟨w.heap.size+1+1+1,x.1,none⟩) (by simp) (.int .i64 (q:Int));replace Ym:=Ym.far (p:=⟨w.heap.size+1+1+1,x.1,none⟩) (by simp;omega) (.int .i64 (q:Int));replace Jk:=Jk.set x.1 (.int .i64 (q:Int));replace VT:=Vg (g:=w.heap.size+1+1+1) (o:=x.1) VT (by omega) (.int .i64 (q:Int));have hbN2:aC (wa.setCell ⟨w.heap.size+1+1+1,x.1,none⟩ (.int .i64 (q:Int))) b (.slice A2 (Ig.grp b).length c2):=⟨A2,c2,rfl,(hA2.below Ie).more Ie.size,hn2,hm2⟩
    have hcx:=Jk.cell x.1 (v:=.int .i64 (q:Int)) (by rw[Array.getElem?_setIfInBounds_self_of_lt hx20]);rw [←hsn2.out,G8]at Jk;clear hbN aX VH VG hce hfr hba;rw [hsn2.out]at Jk;generalize wa.setCell ⟨w.heap.size+1+1+1,x.1,none⟩ (.int .i64 (q:Int))=Yb at *
    gi_wp2
    have hbl:(Ig.grp (b*q)).length<=15000+1:=Nat.le_trans (Rj hqle) hRl;have cq:=fun w1 (hb1:Below Yb.heap.size Yb w1)=>(hb1.cell (p:=⟨w.heap.size+1,0,none⟩) NI.lt).trans (NI.cell 0 rfl)
    have cr:=fun w1 (hb1:Below Yb.heap.size Yb w1)=>(hb1.cell (p:=⟨w.heap.size+1+1,0,none⟩) Jj.lt).trans (Jj.cell 0 rfl)
    have c9:=fun w1 (hb1:Below Yb.heap.size Yb w1)=>(hb1.cell (p:=⟨g8,0,none⟩) Ym.lt).trans (Ym.cell 0 rfl)
    have cx:=fun w1 (hb1:Below Yb.heap.size Yb w1)=>(hb1.cell (p:=⟨w.heap.size+1+1+1,x.1,none⟩) Jk.lt).trans hcx
    refine gW [ak (.slice (some ⟨g6,0,none⟩) n6 cap'),ak (.func (.func 261) #[.slice A2 (Ig.grp b).length c2] #[]),ak (.slice (some ⟨w.heap.size+1+1+1,0,none⟩) (Ig.grp a).length (Ig.grp a).length),ak (.int .i64 (x.1:Int)),ak (.pointer (some ⟨w.heap.size+1+1+1,x.1,none⟩)),ak (.int .i64 (q:Int)),(fun v W=>aC W (b*q) v),(fun v W=>aC W (R-b*q) v)] 8 41 (by kernel_rfl) (by kernel_rfl) rfl rfl (by kernel_rfl) ?_ ?_ ?_
    · simp only[aY]
      and_intros <;> first|exact aB _|exact fun v w w' h hb=>h.call hb|trivial
    · simp only[Users,List.take,List.length];refine ⟨?_,?_,?_,?_,?_,?_,?_,?_,trivial⟩;all_goals (intro vs w1 hb1 hd;have c2':=cq w1 hb1;have c3':=cr w1 hb1;have c4':=c9 w1 hb1;have c5':=cx w1 hb1;have Q7:=hbN2.call hb1;have XG:=VT.call hb1;clear cq cr c9 cx;simp only[aJ,Act.put,List.nil_append,List.cons_append,List.setIfInBounds_toArray,List.set_cons_succ,List.set_cons_zero,Nat.reduceAdd])
      · clear hd;go_wp2;exact⟨Below.refl _ _,rfl⟩
      · clear hd;go_wp2;exact⟨Below.refl _ _,rfl⟩
      · clear hd;go_wp2;exact⟨Below.refl _ _,rfl⟩
      · clear hd;go_wp2;exact⟨Below.refl _ _,rfl⟩
      · have h2:vs 2=.slice (some ⟨w.heap.size+1+1+1,0,none⟩) (Ig.grp a).length (Ig.grp a).length:=hd 2 rfl;have h3:vs 3=.int .i64 (x.1:Int):=hd 3 rfl;clear hd;rw [h2,h3];go_wp2;exact ⟨Below.refl _ _,rfl⟩
      · have h4:vs 4=.pointer (some ⟨w.heap.size+1+1+1,x.1,none⟩):=hd 4 rfl;clear hd;rw [h4];go_wp2;exact ⟨Below.refl _ _,rfl⟩
      · have h1':vs 1=.func (.func 261) #[.slice A2 (Ig.grp b).length c2] #[]:=hd 1 rfl;have h5:vs 5=.int .i64 (q:Int):=hd 5 rfl;clear hd;rw [h1',h5];have hC:=Dp b q _ _ Q7 (by omega) (by omega);go_wp2_with fail;refine hC.mono ?_;clear hC;rintro _ w9 ⟨v9,rfl,nH,aX⟩;go_wp2;exact nH
      · have h0:vs 0=.slice (some ⟨g6,0,none⟩) n6 cap':=hd 0 rfl;have h6:aC w1 (b*q) (vs 6):=hd 6 rfl;clear hd;rw [h0];have hC:=pR R (b*q) _ (vs 6) w1 XG h6 hqle (by omega);go_wp2_with fail;refine hC.mono ?_;clear hC;rintro _ w9 ⟨v9,rfl,nH,aX⟩;go_wp2;exact nH
    · clear cq cr c9 cx;intro vs wb hbb hR;simp only[bP,ak]at hR;obtain ⟨-,-,-,-,-,-,-,e7,-⟩:=hR;simp only[List.drop,List.take,List.map,aJ,Act.put,List.setIfInBounds_toArray,List.set_cons_succ,List.set_cons_zero,Nat.reduceAdd];replace Ux:=Ux.call hbb;replace NI:=NI.call hbb;replace Jj:=Jj.call hbb;replace Jk:=Jk.call hbb;have hb11:=ah Ie hbb;have hkf11:=hkf10.trans (eH hbb W0.heap.size);have Xy:ug w.heap.size (w.heap.size+1+1+1+1) W wb:=hkp10.trans ⟨hbb.mono (by have:=Ie.size;omega),hbb.block _ (by omega)⟩;generalize vs 7=z7 at *;generalize vs 0=z0,vs 1=z1,vs 2=z2,vs 3=z3,vs 4=z4,vs 5=z5,vs 6=z6;obtain ⟨A9,c9,rfl,hA9,hn9',zI⟩:=e7.out;have hce:=Jj.cell 0 rfl;have hfr:=Jj.frozen 0;clear hA9 hn9' zI VT hbN2 hcx;generalize (Ig.grp (R-b*q)).length=n9 at *;go_wp2;refine ⟨hkf11.trans ((KeepsOthers.setCell _ _ _).from _),Xy.trans ⟨(Below.refl _ _).setCell (by show w.heap.size<=w.heap.size+1+1;omega) _,Below.heap_setCell _ _ _ _ (by simp;omega)⟩,aK hb11 (by show w.heap.size<=w.heap.size+1+1;omega) _,Nat.le_trans hle (Nat.le_trans Xy.1.size (KeepsOthers.setCell _ _ _).size),Ux.far (by simp;omega) _,NI.far (by simp) _,⟨_,Jj.set 0 _,?_⟩,Jk.far (by simp) _⟩;rw [hsn3.out];exact iW Jj e7 _
 case done =>
  rintro D ys W hD rfl ⟨hb,hle,B3,Bq,⟨v,Br,hNr⟩,Bc⟩ hK;rw [JM]at hNr;have hdl:=RQ (Ig.grp a) b (dF (Ig.grp a).length);have hda:=fun w1 (hb1:Below W.heap.size W w1)=>LD (Bc.call hb1)
  have hdt:=MX a hb0;have cq:=fun w1 (hb1:Below W.heap.size W w1)=>(hb1.cell (p:=⟨w.heap.size+1,0,none⟩) Bq.lt).trans (Bq.cell 0 rfl)
  have cr:=fun w1 (hb1:Below W.heap.size W w1)=>(hb1.cell (p:=⟨w.heap.size+1+1,0,none⟩) Br.lt).trans (Br.cell 0 rfl)
  generalize Iw (Ig.grp a) b (dF (Ig.grp a).length)=ds at *;obtain ⟨A5,c5,rfl,Ui,hn5,Y8⟩:=hNr.out
  gi_wp2
  refine wpIn_wide.2 ?_;have hT:=fun w1 (hb1:Below W.heap.size W w1)=>iy ds (some ⟨w.heap.size+1+1+1,0,none⟩) (Ig.grp a).length w1 (hda w1 hb1) (by rw[hdl];omega) (by rw[hdl];omega)
  rw[hdl]at hT;have hNq:aC W (a / b) (.slice (some ⟨w.heap.size+1+1+1,0,none⟩) (Ig.bK ds).length (Ig.grp a).length):=uJ (hda W (Below.refl _ _)) (by rw[hdl];omega) (by unfold maxLen;omega) ⟨hdt⟩;clear hdt hda hdl cq cr;generalize (Ig.bK ds).length=n6 at *;generalize (Ig.grp (a % b)).length=n7 at *;have hq0:=Bq.cell 0 rfl;have YX:=Bq.frozen 0;have hr0:=Br.cell 0 rfl;have hrf:=Br.frozen 0;have Bq2:=Bq.set 0 (.slice (some ⟨w.heap.size+1+1+1,0,none⟩) n6 (Ig.grp a).length);have Br2:=Br.far (p:=⟨w.heap.size+1,0,none⟩) (by simp) (.slice (some ⟨w.heap.size+1+1+1,0,none⟩) n6 (Ig.grp a).length);have hNq2:=iW Bq hNq (.slice (some ⟨w.heap.size+1+1+1,0,none⟩) n6 (Ig.grp a).length);have hNr2:=iW Bq hNr (.slice (some ⟨w.heap.size+1+1+1,0,none⟩) n6 (Ig.grp a).length);have hb2:=aK hb (p:=⟨w.heap.size+1,0,none⟩) (by show w.heap.size<=w.heap.size+1;omega) (.slice (some ⟨w.heap.size+1+1+1,0,none⟩) n6 (Ig.grp a).length);have Bq3:=Bq2.far (p:=⟨w.heap.size+1+1,0,none⟩) (by simp) (.slice A5 n7 c5);have Br3:=Br2.set 0 (.slice A5 n7 c5);have ZC:=iW Br2 hNq2 (.slice A5 n7 c5);have ZB:=iW Br2 hNr2 (.slice A5 n7 c5);have hb3:=aK hb2 (p:=⟨w.heap.size+1+1,0,none⟩) (by show w.heap.size<=w.heap.size+1+1;omega) (.slice A5 n7 c5);have hr4:=Br2.cell 0 rfl;have hrf4:=Br2.frozen 0;have hK1:=(Below.heap_setCell W ⟨w.heap.size+1,0,none⟩ (.slice (some ⟨w.heap.size+1+1+1,0,none⟩) n6 (Ig.grp a).length) D (by show D≠w.heap.size+1;omega)).trans hK;have hK2:=(Below.heap_setCell (W.setCell ⟨w.heap.size+1,0,none⟩ (.slice (some ⟨w.heap.size+1+1+1,0,none⟩) n6 (Ig.grp a).length)) ⟨w.heap.size+1+1,0,none⟩ (.slice A5 n7 c5) D (by show D≠w.heap.size+1+1;omega)).trans hK1;clear hb hle B3 Bq Br hNr Bc hNq hb2 hNq2 hNr2 Bq2 Br2 Ui hn5 Y8 hK1;have hdr:=(Below.refl ((W.setCell ⟨w.heap.size+1,0,none⟩ (.slice (some ⟨w.heap.size+1+1+1,0,none⟩) n6 (Ig.grp a).length)).setCell ⟨w.heap.size+1+1,0,none⟩ (.slice A5 n7 c5)).heap.size ((W.setCell ⟨w.heap.size+1,0,none⟩ (.slice (some ⟨w.heap.size+1+1+1,0,none⟩) n6 (Ig.grp a).length)).setCell ⟨w.heap.size+1+1,0,none⟩ (.slice A5 n7 c5))).drew;replace ZC:=ZC.call hdr;replace ZB:=ZB.call hdr;replace Bq3:=Bq3.call hdr;replace Br3:=Br3.call hdr;replace hb3:=ah hb3 hdr;clear hdr;replace hK2:(((W.setCell ⟨w.heap.size+1,0,none⟩ (.slice (some ⟨w.heap.size+1+1+1,0,none⟩) n6 (Ig.grp a).length)).setCell ⟨w.heap.size+1+1,0,none⟩ (.slice A5 n7 c5)).drew).heap[D]? = some (.deferred (some [])):=hK2;have hT1:=hT W.drew ((Below.refl _ _).drew);clear hT
  go_region_with (refine hT1.mono ?_;rintro _ _ ⟨rfl,rfl⟩)
  all_goals (
   gi_wp2
   clear hT1 hq0 hr0 YX hrf hr4 hrf4;generalize ((W.setCell ⟨w.heap.size+1,0,none⟩ (.slice (some ⟨w.heap.size+1+1+1,0,none⟩) n6 (Ig.grp a).length)).setCell ⟨w.heap.size+1+1,0,none⟩ (.slice A5 n7 c5)).drew=W5 at *;refine ⟨by simp,.inl ⟨_,_,rfl,run_takeDeferred hK2,?_⟩⟩;have hg:=grownBy_putObj' W5 D (.deferred none);have hr:∀r,some D=some r->∃o:Obj,W5.heap[r]? = some o/\o.isCells=false:=fun r e=>by cases e;exact⟨_,hK2,rfl⟩
   exact⟨_,xG rfl _ _ rfl rfl (eU Bq3 hg hr) (eU Br3 hg hr),_,_,rfl,nY ZC hg hr,nY ZB hg hr,hb3.trans (belowK_b (w:=w) (Nat.le_refl _) W5 D _ _ (by omega) hK2 rfl rfl)⟩)
 case stop =>
  rintro D c pre W _ _ h _;exact h.elim
end Go.Proofs.YtohgjenaclfegaaGreatDoor
namespace Ig
theorem Hw:∀(b:List UInt8) (n:Nat),b.foldl (fun n c=>10*n+(c.toNat-48)) n=n*10 ^ b.length+nv b
 | [],n=>by simp[nv]
 | c :: b,n=>by
  have h1:=Hw b (10*n+(c.toNat-48));have h2:=Hw b (10*0+(c.toNat-48))
  unfold nv at h1 h2 ⊢
  rw[List.foldl_cons,List.foldl_cons,h1,h2,List.length_cons,Nat.pow_succ,Nat.add_mul,Nat.add_mul,Nat.mul_comm 10 n,Nat.mul_assoc,Nat.mul_comm 10 (10 ^ b.length)];omega
theorem YH (a b:List UInt8):nv (a++b)=nv a*10 ^ b.length+nv b:=by
 rw[←Hw]
 unfold nv
 rw[List.foldl_append]
theorem Xi:∀(k:Nat) {s:List UInt8},s.length=k->s.all Aw=true->nv s<10 ^ k
 | 0,s,h,_=>by rw[List.length_eq_zero_iff.1 h];decide
 | k+1,s,h,hd=>by
  rcases List.eq_nil_or_concat s with h0|⟨m,c,h0⟩
  · rw[h0]at h;simp at h
  · obtain rfl:s=m++[c]:=by simpa using h0
    rw[List.all_append,Bool.and_eq_true]at hd;have ih:=Xi k (s:=m) (by simpa using h) hd.1;have hc:c.toNat<=57:=by have:=hd.2;simp[Aw]at this;omega
    rw[wH,Nat.pow_succ];omega
structure uf (D:List UInt8) (a m:Nat) (out:List Int):Prop where
 le:m<=D.length
 gr:Gr out
 eq:aP out+10000 ^ out.length*(nv (D.take m):Int)=a
 lo:out.length+m<=D.length
theorem Et (a:Nat):uf (Go.Lib.decDigits a) a (Go.Lib.decDigits a).length []:=⟨Nat.le_refl _,(fun g h=>by cases h),by rw[List.take_length,Hu];simp[aP],by simp⟩
theorem FH {D:List UInt8} (hD:D.all Aw=true) {m:Nat}:nv ((D.take m).drop (m-4))<10000:=by
 have h1:((D.take m).drop (m-4)).all Aw=true:=List.all_eq_true.2 fun c hc=>List.all_eq_true.1 hD c (List.mem_of_mem_take (List.mem_of_mem_drop hc))
 have h2:=Xi _ rfl h1;have h3:((D.take m).drop (m-4)).length<=4:=by simp;omega
 exact Nat.lt_of_lt_of_le h2 (Nat.pow_le_pow_right (n:=10) (by decide) h3)
theorem Hr {D:List UInt8} {a m:Nat} {out:List Int} (hD:D.all Aw=true) (h:uf D a m out) (hm:0<m):uf D a (m-4) (out++[(nv ((D.take m).drop (m-4)):Int)]):=by
 have hlt:=FH hD (m:=m);refine ⟨by have:=h.le;omega,fun g hg=>?_,?_,by have:=h.lo;simp;omega⟩
 · rcases List.mem_append.1 hg with hg|hg
   · exact h.gr g hg
   · obtain rfl:g=_:=by simpa using hg
     omega
 · have hs:D.take m=D.take (m-4)++(D.take m).drop (m-4):=by
    conv=>lhs;rw[←List.take_append_drop (m-4) (D.take m),List.take_take,Nat.min_eq_left (by omega)]
   have hv:nv (D.take m)=nv (D.take (m-4))*10000+nv ((D.take m).drop (m-4)):=by
    conv=>lhs;rw[hs,YH]
    by_cases h4:4<=m
    · have:((D.take m).drop (m-4)).length=4:=by have:=h.le;simp;omega
      rw[this]
    · rw[show m-4=0 by omega];simp[nv]
   rw[←h.eq,hv,dI,List.length_append,List.length_singleton,Int.pow_succ];generalize nv ((D.take m).drop (m-4))=n;generalize nv (D.take (m-4))=q;generalize (10000:Int) ^ out.length=p;simp only[aP];rw [Int.natCast_add,Int.natCast_mul,Int.mul_add,Int.mul_add,Int.mul_assoc];rw [show ((10000:Nat):Int)=10000 from rfl,Int.mul_comm 10000 (q:Int)];omega
theorem LH {D:List UInt8} {a:Nat} {out:List Int} (h:uf D a 0 out):bK out=grp a:=by
 rw[jF h.gr];have:=h.eq;simp [nv]at this
 rw[this,Int.toNat_natCast]
end Ig
namespace Go.Proofs.YtohgjenaclfegaaGreatDoor
open Go.RowKit Go.Shelf
theorem YB {W:World} {B:Nat} {v:Value} {out:List Int} (h:W.ownsRow B 3 1 v out.length (out.flatMap aZ)):∃A cap,v=.slice A out.length cap/\At 1 aZ W W.heap.size A out/\out.length<=cap/\cap<=maxLen/\∀b off,A=some ⟨b,off,none⟩->B<=b:=by
 rcases h.2 with ⟨rfl,h0⟩|⟨g,cap,cur,rfl,h2,h3,h4,h5,h6,h7⟩
 · obtain rfl:out=[]:=List.length_eq_zero_iff.1 h0;exact ⟨none,0,rfl,At.nil,Nat.le_refl _,Nat.zero_le _,fun b off h=>by cases h⟩
 · obtain⟨A,e,hA,hc⟩:=dP.at (f:=aZ) (size:=1) (fun _=>rfl) (show dP 3 1 B cap out.length (out.flatMap aZ) (.slice (some ⟨g,0,none⟩) out.length cap) W from ⟨g,cur,rfl,h2,h4,h3,h6,h7⟩);refine ⟨A,cap,e,hA,hc,h5,fun b off hb=>?_⟩;rw [hb]at e;simp only[Value.slice.injEq,Option.some.injEq,Addr.mk.injEq]at e;omega
theorem Ak {e:TypeId} {B n size:Nat} {v:Value} {bs:List Value} {w w':World} (h:w.ownsRow B e size v n bs) (hb:Below w.heap.size w w'):w'.ownsRow B e size v n bs:=by
 refine⟨h.1,?_⟩
 rcases h.2 with h1|⟨g,cap,cur,h1,h2,h3,h4⟩
 · exact .inl h1
 · exact .inr ⟨g,cap,cur,h1,h2,(hb.block g (Array.getElem?_eq_some_iff.1 h3).1).trans h3,h4⟩
theorem Pm {e:TypeId} {B n size:Nat} {v:Value} {bs:List Value} {w:World} (h:w.ownsRow B e size v n bs) {p:Addr} (hp:p.block<B) (u:Value):(w.setCell p u).ownsRow B e size v n bs:=by
 refine⟨h.1,?_⟩
 rcases h.2 with h1|⟨g,cap,cur,h1,h2,h3,h4⟩
 · exact .inl h1
 · exact .inr ⟨g,cap,cur,h1,h2,(Below.heap_setCell w p u g (by omega)).trans h3,h4⟩
theorem E_ {e t:TypeId} {B n size g:Nat} {v:Value} {bs:List Value} {cs:Array Value} {w w':World} (ho:w.ownsRow B e size v n bs) (hg:w.grownBy w' v.ownBlock) (hB:Bx w g t cs) (hlt:g<B):Bx w' g t cs :=
 (hg.block g hB.lt (fun h=>by have:=(ho.lt g h.symm).1;omega)).trans hB
theorem Wx {s:List UInt8} (h:s.all Ig.Aw=true):∀c∈s,48<=c.toNat/\c.toNat<=57:=fun c hc=>by
 have:=List.all_eq_true.1 h c hc;simpa [Ig.Aw] using this
def lenOf:Value->Nat
 | .string b=>b.size
 | _=>0
theorem iK {fn:Func} {t:Tmp} {g:Nat} {neg:Bool} {A:Option Addr} {n c:Nat} (h:fn.results=#[.cell t 299]) (tmps:Array Value) (w:World) (ht:tmps.getD t undef=.pointer (some ⟨g,0,none⟩)) (hB:Bx w g 299 #[.bool neg,.slice A n c]) :
 (results fn tmps).run Tryz.prog w=.ok (.agg #[.bool neg,.slice A n c]) w:=by
 have h0:=hB.cell 0 rfl;have h1:=hB.cell 1 rfl;have ht':tmps[t]?.getD undef=.pointer (some ⟨g,0,none⟩):=by simpa using ht
 simp only[results,h];simp [go_sem,ht',h0,h1,loadVar]
theorem parse_any (z:Int) (w:World) (hz:Ig.fits z) :
 Calls Tryz.prog 256 #[.string ⟨(Lib.itoa z).toArray⟩] w fun e w'=>∃v,e=.returned (.agg #[.bool (decide (z<0)),v])/\aC w' z.natAbs v/\Below w.heap.size w w':=by
 have hT:=fun w0=>jY (Lib.itoa z) w0
 have hlen:(decide ((Lib.decDigits z.natAbs).length<(Lib.itoa z).length))=decide (z<0):=by
  by_cases h:0<=z
  · rw[Ig.itoa_nonneg h,decide_eq_false (by omega),decide_eq_false (by omega)]
  · rw[Ig.itoa_neg (by omega),decide_eq_true (by rw[List.length_cons];omega),decide_eq_true (by omega)]
 have hD:=Ig.qO z.natAbs;have hst:=Ig.Et z.natAbs;have hDl:(Lib.decDigits z.natAbs).length<=200:=by rw[Ig.jv];exact (Ig.lS z).1 hz
 rw[Ig.oQ]at hT;generalize decide (z<0)=neg at *;generalize z.natAbs=a at *;generalize Lib.itoa z=s at *;generalize Lib.decDigits a=D at *
 go_enter Tryz.func256,Tryz.ntmps256
 go_wp2_with (go_at_call 212;refine (hT _).mono ?_;rintro _ _ ⟨rfl,rfl⟩)
 have hb0:=bNew (aA w (.cells #[.bool false,.slice none 0 0] 299)) (.cells #[.bool neg,.slice none 0 0] 299);have B1:=(Bx.mk w 299 #[.bool false,.slice none 0 0]).new (.cells #[.bool neg,.slice none 0 0] 299);have B2:=Bx.mk (w.alloc (.cells #[.bool false,.slice none 0 0] 299)) 299 #[.bool neg,.slice none 0 0];have hsz:((w.alloc (.cells #[.bool false,.slice none 0 0] 299)).alloc (.cells #[.bool neg,.slice none 0 0] 299)).heap.size=w.heap.size+2:=by rw[aj,aj]
 rw[aj]at B2;generalize ((w.alloc (.cells #[.bool false,.slice none 0 0] 299)).alloc (.cells #[.bool neg,.slice none 0 0] 299))=W0 at *;clear hT hlen
 go_loopw [3,5,6,7] (fun s3 s5 s6 s7 wr=>∃(m:Nat) (out:List Int) (v:Value),s3=.string ⟨(D.take m).toArray⟩/\Kp (Ig.uf D a m out)/\m<=D.length/\out.length<=200/\Bx wr w.heap.size 299 #[.bool false,.slice none 0 0]/\Bx wr (w.heap.size+1) 299 #[.bool neg,v]/\wr.ownsRow (w.heap.size+2) 3 1 v out.length (out.flatMap aZ)/\w.heap.size+2<=wr.heap.size/\Below w.heap.size w wr)
  (fun s3 s5 s6 s7 _=>lenOf s3)
 case atStart=>exact⟨D.length,[],.slice none 0 0,by rw[List.take_length],⟨hst⟩,Nat.le_refl _,by simp,B1,B2,World.ownsRow_nil _ _ _ _,by omega,hb0⟩
 case round =>
  clear hb0 B1 B2 hsz hst;obtain ⟨m,out,v,rfl,hp,hmD,hol,B1,B2,hown,hle,hb⟩:=hrel;by_cases h0:0<m
  · have hnext:=Kp.mk (Ig.Hr hD hp.out h0);have hch:=Ig.FH hD (m:=m);have hlo:=hp.out.lo;have hdig:((D.take m).drop (m-4)).all Ig.Aw=true:=List.all_eq_true.2 fun c hc=>List.all_eq_true.1 hD c (List.mem_of_mem_take (List.mem_of_mem_drop hc))
    have hcl:((D.take m).drop (m-4)).length<=4:=by simp;omega
    have hcn:(D.take m).drop (m-4)≠[]:=by
     intro h;have:=congrArg List.length h;simp at this;omega
    have hA:=fun w0=>T_ ((D.take m).drop (m-4)) (Ig.nv ((D.take m).drop (m-4)):Int) w0 (by omega) (FT _ (Wx hdig) hcn (by omega))
    have htk:(D.take m).take (m-4)=D.take (m-4):=by rw[List.take_take,Nat.min_eq_left (by omega)]
    have htl:(D.take m).length=m:=by simp;omega
    clear hdig hcl hcn;generalize Ig.nv ((D.take m).drop (m-4))=n at *;generalize hch2:(D.take m).drop (m-4)=ch at *;have hmx:max (0:Int) ((m:Int)-4)=((m-4:Nat):Int):=by omega
    have hm4:m-4<=m:=by omega
    clear hp;generalize D.take m=t at *;generalize ht':D.take (m-4)=t' at *;generalize hk:m-4=k at *;have c1:=B2.cell 1 rfl;have htc:List.take (m-k) ch=ch:=by rw[←hch2];exact List.take_of_length_le (by rw[List.length_drop,htl];omega)
    go_wp2_with fail;refine (hA _).mono ?_;rintro _ w1 ⟨rfl,hb1⟩;clear c1 hA htc;replace B1:=B1.call hb1;replace B2:=B2.call hb1;replace hown:=Ak hown hb1;replace hb:=ah hb hb1;replace hle:=Nat.le_trans hle hb1.size;have c1:=B2.cell 1 rfl;obtain ⟨i0,z0,hi,hz,hs1,hz1,hby⟩:=Qq;have hBt:=Bx.mk w1 3 #[.int .i64 (n:Int)]
    go_wp2_with (at_builtin;refine wpList_append_own _ rfl (.tmp 31) (.tmp 33) 297 rfl (w.heap.size+2) 3 i0 z0 1 8 Tryz.underlying297 hi hz hs1 hby hz1 (by decide) _ _ _ rfl (hown.alloc _) ⟨w1.heap.size,0,none⟩ 1 1 [.int .i64 (n:Int)] rfl rfl ?c1 ?c2 ?c3 ?c4 ?c5 ?_)
    case c1 =>
     intro j u hj
     match j,hj with
     | 0,hj=>simp at hj;subst hj;simp[Addr.add]
    case c2=>intro u hu;simp at hu;subst hu;rfl
    case c3=>unfold maxLen;omega
    case c4=>omega
    case c5=>rw[aj];omega
    intro v' w2 hown' hgrow _;have hbn:=aA w1 (.cells #[.int .i64 (n:Int)] 3);have hown1:=Ak hown hbn;have TY:=E_ hown1 hgrow (B1.call hbn) (by omega);have B2':=E_ hown1 hgrow (B2.call hbn) (by omega);have hb':=(ah hb hbn).grown hgrow (by rw[aj];omega) (fun k hk=>by have:=(hown1.lt k hk).1;omega);have hle':w.heap.size+2<=w2.heap.size:=Nat.le_trans (Nat.le_trans hle hbn.size) hgrow.size
    obtain⟨ao,n',cap,rfl⟩:∃ao n' cap,v'=.slice ao n' cap:=by
     rcases hown'.2 with ⟨hv,_⟩|⟨g,cap,cur,hv,_⟩
     · exact⟨_,_,_,hv⟩
     · exact⟨_,_,_,hv⟩
    have d1:=B2'.cell 1 rfl;have f1:=B2'.frozen 1;clear c1 hBt hgrow hown hown1 B1 B2 hbn hb hle hi hz hs1 hz1 hby;go_wp2;refine ⟨⟨k,out++[(n:Int)],.slice ao n' cap,?_,hnext,by omega,by rw[List.length_append,List.length_singleton];omega,TY.far (by simp) _,B2'.set 1 _,?_,?_,aK hb' (by show w.heap.size<=w.heap.size+1;omega) _⟩,?_⟩
    · rw[ht']
    · rw[List.length_append,List.length_singleton,List.flatMap_append];exact Pm hown' (by show w.heap.size+1<w.heap.size+2;omega) _
    · exact Nat.le_trans hle' (KeepsOthers.setCell w2 _ _).size
    · simp only[lenOf]
      show t'.length<t.length
      rw[←htk,List.length_take,htl];omega
  · obtain rfl:m=0:=by omega
    have hfin:=Ig.LH hp.out;clear hp hD hmD;obtain ⟨A,cap,rfl,hA,hcap,hcm,hAB⟩:=YB hown;have hT:=iy out A cap wr hA hcap (by omega);have hN:=uJ hA hcap hcm ⟨hfin⟩;have hAt:At 1 aZ wr wr.heap.size A (Ig.bK out):=by rw[←oU];exact hA.take _
    clear hown hA hN;have hlk:Kp ((Ig.grp a).length=(Ig.bK out).length):=⟨by rw[hfin]⟩
    have htl:=Kp.mk (show (Ig.bK out).length<=cap by rw[←oU,List.length_take];omega);rw [hfin]at hAt;clear hfin;generalize (Ig.bK out).length=n at *;have c0:=B2.cell 0 rfl;have c1:=B2.cell 1 rfl;have f1:=B2.frozen 1;have B2':=B2.set 1 (.slice A n cap);have TY:=B1.far (p:=⟨w.heap.size+1,1,none⟩) (by simp) (.slice A n cap);have hb':=aK hb (p:=⟨w.heap.size+1,1,none⟩) (by show w.heap.size<=w.heap.size+1;omega) (.slice A n cap);have hAt':=Dt (g:=w.heap.size+1) (o:=1) hAt (fun b off h=>by have:=hAB b off h;omega) (.slice A n cap);clear B1 hb hAt;go_wp2_with fail;refine hT.mono ?_;rintro _ _ ⟨rfl,rfl⟩;clear hT;have d0:=B2'.cell 0 rfl;have d1:=B2'.cell 1 rfl;have e0:=TY.cell 0 rfl;have e1:=TY.cell 1 rfl;have g0:=TY.frozen 0;have g1:=TY.frozen 1;have B1s:=(TY.set 0 (.bool neg)).set 1 (.slice A n cap);have hbs:=aK (aK hb' (p:=⟨w.heap.size,0,none⟩) (Nat.le_refl _) (.bool neg)) (p:=⟨w.heap.size,1,none⟩) (Nat.le_refl _) (.slice A n cap);have hAs:=Dt (g:=w.heap.size) (o:=1) (Dt (g:=w.heap.size) (o:=0) hAt' (fun b off h=>by have:=hAB b off h;omega) (.bool neg)) (fun b off h=>by have:=hAB b off h;omega) (.slice A n cap);go_wp2;refine bodyPost_ret (iK rfl _ _ rfl B1s) rfl ⟨_,rfl,⟨A,cap,by rw[hlk.out],hAs.more ?_,by rw[hlk.out];exact htl.out,hcm⟩,hbs⟩;exact Nat.le_trans (KeepsOthers.setCell wr _ _).size (Nat.le_trans (KeepsOthers.setCell _ _ _).size (KeepsOthers.setCell _ _ _).size)
theorem bJ {z:Int} (h:Ig.fits z):(Lib.itoa z).length<=1000000:=by
 have h1:=(Ig.lS z).1 h;have h2:=Ig.jv z.natAbs;by_cases hz:0<=z
 · rw[Ig.itoa_nonneg hz];omega
 · rw[Ig.itoa_neg (by omega),List.length_cons];omega
theorem Cc {fn:Func} {t u s:Tmp} {g g':Nat} {n n':Bool} {v v':Value} {A A':Option Addr} {l l' c c':Nat} (hv:v=.slice A l c) (hv':v'=.slice A' l' c') (h:fn.results=#[.cell t 299,.cell u 299,.tmp s]) (tmps:Array Value) (w:World) (ht:tmps.getD t undef=.pointer (some ⟨g,0,none⟩)) (hu:tmps.getD u undef=.pointer (some ⟨g',0,none⟩))
 (hB:Bx w g 299 #[.bool n,v]) (hB':Bx w g' 299 #[.bool n',v']) :
 (results fn tmps).run Tryz.prog w=.ok (.tuple #[.agg #[.bool n,v],.agg #[.bool n',v'],tmps.getD s undef]) w:=by
 subst hv hv';have h0:=hB.cell 0 rfl;have h1:=hB.cell 1 rfl;have h0':=hB'.cell 0 rfl;have h1':=hB'.cell 1 rfl;have ht':tmps[t]?.getD undef=.pointer (some ⟨g,0,none⟩):=by simpa using ht
 have hu':tmps[u]?.getD undef=.pointer (some ⟨g',0,none⟩):=by simpa using hu
 simp only[results,h];simp [go_sem,ht',hu',h0,h0',h1,h1',loadVar]
theorem Wn {W:World} {g o:Nat} {neg:Bool} {A A':Option Addr} {n c B:Nat} {p:List Int} (hB:Bx W g 299 #[.bool neg,.slice A n c]) (h:At 1 aZ W B A' p) (u:Value):At 1 aZ (W.setCell ⟨g,o,none⟩ u) B A' p:=fun h0=>by
 obtain⟨b,off,e,hb,hc⟩:=h h0
 have hne:b≠g:=by
  rintro rfl;have h1:=hc 0 p[0] (List.getElem?_eq_getElem h0) 0 (.int .i64 p[0]) rfl
  unfold Bx at hB
  rw[World.cell?,hB]at h1
  rcases Nat.eq_zero_or_pos off with h2|h2
  · subst h2;simp at h1
  · obtain⟨k,rfl⟩:=Nat.exists_eq_succ_of_ne_zero (Nat.ne_of_gt h2)
    rcases k with _|k <;> simp at h1
 exact⟨b,off,e,hb,fun i c hi j v hj=>(jV (Below.heap_setCell W ⟨g,o,none⟩ u b hne)).trans (hc i c hi j v hj)⟩
theorem eG {W:World} {g o:Nat} {neg:Bool} {A:Option Addr} {n c a:Nat} {v:Value} (hB:Bx W g 299 #[.bool neg,.slice A n c]) (h:aC W a v) (u:Value):aC (W.setCell ⟨g,o,none⟩ u) a v:=by
 obtain⟨A',cap,h1,h2,h3,h4⟩:=h.out;exact ⟨A',cap,h1,(Wn hB h2 u).more (KeepsOthers.setCell W _ u).size,h3,h4⟩
theorem both_any (x y:Int) (w:World) (hx:Ig.fits x) (hy:Ig.fits y) :
 Calls Tryz.prog 214 #[.string ⟨(Lib.itoa x).toArray⟩,.string ⟨(Lib.itoa y).toArray⟩] w fun e w'=>∃u v,e=.returned (.tuple #[.agg #[.bool (decide (x<0)),u],.agg #[.bool (decide (y<0)),v],.bool true])/\aC w' x.natAbs u/\aC w' y.natAbs v/\Below w.heap.size w w':=by
 have hb0:=bNew (aA w (.cells #[.bool false,.slice none 0 0] 299)) (.cells #[.bool false,.slice none 0 0] 299);have B1:=(Bx.mk w 299 #[.bool false,.slice none 0 0]).new (.cells #[.bool false,.slice none 0 0] 299);have B2:=Bx.mk (w.alloc (.cells #[.bool false,.slice none 0 0] 299)) 299 #[.bool false,.slice none 0 0];have hsz:((w.alloc (.cells #[.bool false,.slice none 0 0] 299)).alloc (.cells #[.bool false,.slice none 0 0] 299)).heap.size=w.heap.size+2:=by rw[aj,aj]
 rw[aj]at B2;have hV1:=fun w0=>kN (Lib.itoa x) (bJ hx) w0
 have hV2:=fun w0=>kN (Lib.itoa y) (bJ hy) w0
 rw[Ig.eX hx]at hV1;rw [Ig.eX hy]at hV2;have hP1:=fun w0=>parse_any x w0 hx
 have hP2:=fun w0=>parse_any y w0 hy
 generalize decide (x<0)=nx at *;generalize decide (y<0)=ny at *;generalize x.natAbs=ax at *;generalize y.natAbs=ay at *;generalize Lib.itoa x=sx at *;generalize Lib.itoa y=sy at *;clear hx hy
 go_enter Tryz.func214,Tryz.ntmps214
 go_wp2_with fail;generalize ((w.alloc (.cells #[.bool false,.slice none 0 0] 299)).alloc (.cells #[.bool false,.slice none 0 0] 299))=W0 at *;refine (hV1 _).mono ?_;rintro _ w1 ⟨rfl,hb1⟩;go_wp2_with fail;refine (hV2 _).mono ?_;rintro _ w2 ⟨rfl,hb2⟩;go_wp2_with fail;refine (hP1 _).mono ?_;rintro _ w3 ⟨u,rfl,hu,hb3⟩;go_wp2_with fail;refine (hP2 _).mono ?_;rintro _ w4 ⟨v,rfl,hv,hb4⟩;replace hu:=hu.call hb4;replace hb1:=ah (ah (ah hb1 hb2) hb3) hb4;clear hV1 hV2 hP1 hP2 hb2 hb3 hb4;obtain ⟨A1,c1,rfl,-⟩:=id hu.out;obtain ⟨A2,c2,rfl,-⟩:=id hv.out;replace B1:=B1.call hb1;replace B2:=B2.call hb1;have B1a:=B1.set 0 (.bool nx);have u1:=eG (o:=0) B1 hu (.bool nx);have v1:=eG (o:=0) B1 hv (.bool nx);have u2:=eG (o:=1) B1a u1 (.slice A1 (Ig.grp ax).length c1);have v2:=eG (o:=1) B1a v1 (.slice A1 (Ig.grp ax).length c1);have B1s:=B1a.set 1 (.slice A1 (Ig.grp ax).length c1);have B2r:=(B2.far (p:=⟨w.heap.size,0,none⟩) (by simp) (.bool nx)).far (p:=⟨w.heap.size,1,none⟩) (by simp) (.slice A1 (Ig.grp ax).length c1);have B2a:=B2r.set 0 (.bool ny);have u3:=eG (o:=0) B2r u2 (.bool ny);have v3:=eG (o:=0) B2r v2 (.bool ny);have u4:=eG (o:=1) B2a u3 (.slice A2 (Ig.grp ay).length c2);have v4:=eG (o:=1) B2a v3 (.slice A2 (Ig.grp ay).length c2);have B2s:=B2a.set 1 (.slice A2 (Ig.grp ay).length c2);have B1t:=(B1s.far (p:=⟨w.heap.size+1,0,none⟩) (by simp) (.bool ny)).far (p:=⟨w.heap.size+1,1,none⟩) (by simp) (.slice A2 (Ig.grp ay).length c2);have hbs:=aK (aK (aK (aK (ah hb0 hb1) (p:=⟨w.heap.size,0,none⟩) (Nat.le_refl _) (.bool nx)) (p:=⟨w.heap.size,1,none⟩) (Nat.le_refl _) (.slice A1 (Ig.grp ax).length c1)) (p:=⟨w.heap.size+1,0,none⟩) (Nat.le_succ _) (.bool ny)) (p:=⟨w.heap.size+1,1,none⟩) (Nat.le_succ _) (.slice A2 (Ig.grp ay).length c2);have c0:=B1.cell 0 rfl;have c1:=B1.cell 1 rfl;have d0:=B2.cell 0 rfl;have d1:=B2.cell 1 rfl;have f0:=B1.frozen 0;have f1:=B1.frozen 1;have g0:=B2.frozen 0;have g1:=B2.frozen 1;clear u1 u2 u3 v1 v2 v3 hu hv;generalize (Ig.grp ax).length=lx at *;generalize (Ig.grp ay).length=ly at *;go_wp2;refine bodyPost_ret (Cc rfl rfl rfl _ _ rfl rfl B1t B2s) rfl ⟨_,_,rfl,u4,v4,hbs⟩
end Go.Proofs.YtohgjenaclfegaaGreatDoor

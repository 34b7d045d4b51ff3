import Derived.Test.YtohgjenaclfegaaGreatDoorQA05
import Derived.BigQuiet
import Derived.Laws.BitsAllLaws
set_option linter.unusedVariables false
set_option linter.unusedSimpArgs false
set_option maxRecDepth 100000
set_option maxHeartbeats 8000000
namespace Go.Proofs.YtohgjenaclfegaaGreatDoor
open Go.RowKit Go.Shelf
theorem t_ (m:List UInt8) (w:World):Calls Tryz.prog 141 #[.string ⟨m.toArray⟩] w fun e w'=>e=.returned (.func (.func 191) #[] #[.pointer (some ⟨w.heap.size,0,none⟩)])/\w'=w.alloc (.cells #[.string ⟨m.toArray⟩] 9):=by
 go_enter Tryz.func141,Tryz.ntmps141
 go_wp2;go_ret;exact ⟨rfl,rfl⟩
theorem qN (m:List UInt8) (xs:List (List UInt8)) (gm g:Nat) (w:World) (Bm:Bx w gm 9 #[.string ⟨m.toArray⟩]) (Bs:Bx w g 9 (xs.map fun x=>Value.string ⟨x.toArray⟩).toArray) (hN:xs.length<=100) (hl:m.length+xs.flatten.length<=1000000) (hR:Rnd w) :
 bP 191 #[.slice (some ⟨g,0,none⟩) xs.length xs.length,.pointer (some ⟨gm,0,none⟩)] w (.string ⟨(Sh.IE (m++xs.flatten)).toArray⟩):=by
 have hl2:m.length+(List.map List.length xs).sum<=1000000:=by rw[←List.length_flatten];exact hl
 have hl3:¬ 9223372036854775807<m.length+(List.map List.length xs).sum:=by omega
 go_enter Tryz.func191,Tryz.ntmps191
 go_wp2_with fail;refine RS.au (RS.dX (w.heap.size) 4 #[] #[]) [] [RS.ak (.string ⟨m.toArray⟩),RS.ak (.slice (some ⟨g,0,none⟩) xs.length xs.length),RS.ak (.string ⟨xs.flatten.toArray⟩),RS.ak (.string ⟨(m++xs.flatten).toArray⟩),RS.ak (.string ⟨(Sh.IE (m++xs.flatten)).toArray⟩),RS.ak (.string ⟨(Sh.IE (m++xs.flatten)).toArray⟩)] 6 9 (by kernel_rfl) rfl rfl (by kernel_rfl) (by kernel_rfl) ?_ ?_ ?_
 · simp only[RS.aY]
   and_intros <;> first|exact RS.aI _|trivial
 · simp only[RS.aT,List.take,List.length];refine ⟨?_,?_,?_,?_,?_,?_,trivial⟩;all_goals (intro vs w2 hb2 hd;simp only[RS.aN,Act.put,List.nil_append,List.cons_append,List.setIfInBounds_toArray,List.set_cons_succ,List.set_cons_zero,Nat.reduceAdd])
   · have q0:=(Bm.call hb2.bl).cell 0 (v:=.string ⟨m.toArray⟩) rfl;clear hd;go_wp2;exact aO
   · clear hd;go_wp2;exact aO
   · have e0:vs 1=_:=hd 1 rfl;have hC:=KE xs g xs.length w2 (fun j x hx=>(Bs.call hb2.bl).cell j (by simp[hx])) (Bs.call hb2.bl).lt hN (Nat.le_refl _) (by omega);clear hd;rw [e0];go_wp2_with fail;refine hC.mono ?_;rintro _ w9 ⟨rfl,aX⟩;clear hC;have hK9:=hb2.call (Nat.le_refl _) aX;go_wp2;first|exact⟨hK9,rfl⟩|exact hK9|rfl
   · have e0:vs 0=_:=hd 0 rfl;have e1:vs 2=_:=hd 2 rfl;clear hd;rw [e0,e1];go_wp2;exact aO
   · have e0:vs 3=_:=hd 3 rfl;have hC:=MO (m++xs.flatten) w2 (by rw[List.length_append];omega) (hR.below hb2.bl);clear hd;rw [e0];go_wp2_with fail;refine hC.mono ?_;rintro _ w9 ⟨rfl,aX⟩;clear hC;have hK9:=hb2.call (Nat.le_refl _) aX;go_wp2;first|exact⟨hK9,rfl⟩|exact hK9|rfl
   · have e0:vs 4=_:=hd 4 rfl;clear hd;rw [e0];go_wp2;exact aO
 · intro vs wa hba hR2;simp only[RS.bV,RS.ak]at hR2;obtain ⟨e0,e1,e2,e3,e4,e5,-⟩:=hR2;simp only[List.drop,List.take,List.map,RS.aN,Act.put,List.setIfInBounds_toArray,List.set_cons_succ,List.set_cons_zero,Nat.reduceAdd];rw [e0,e1,e2,e3,e4,e5];clear e0 e1 e2 e3 e4 e5;go_wp2;go_ret;exact ⟨rfl,hba.bl⟩
theorem Kz (s:List UInt8) (w:World) (hl:s.length<=100000) (hR:Rnd w) :
 bP 88 #[.string ⟨s.toArray⟩] w (.string ⟨(Sh.leaf s).toArray⟩):=by
 have hb:=bNew (bY w (.cells #[.string ⟨#[0]⟩] 9)) (.cells #[.string ⟨s.toArray⟩] 9);have B1:=(Bx.mk w 9 #[.string ⟨#[0]⟩]).new (.cells #[.string ⟨s.toArray⟩] 9);have B2:=Bx.mk (w.alloc (.cells #[.string ⟨#[0]⟩] 9)) 9 #[.string ⟨s.toArray⟩];have hC:=qN [0] [s] w.heap.size (w.heap.size+1) ((w.alloc (.cells #[.string ⟨#[0]⟩] 9)).alloc (.cells #[.string ⟨s.toArray⟩] 9)) B1 (by rw[World.size_alloc]at B2;exact B2) (by simp) (by simp;omega) (hR.below hb);simp only[List.flatten_cons,List.flatten_nil,List.append_nil,List.length_cons,List.length_nil,Nat.reduceAdd]at hC;clear B1 B2
 go_enter Tryz.func88,Tryz.ntmps88
 go_wp2_with (go_at_call 141;refine (t_ [0] _).mono ?_;rintro _ _ ⟨rfl,rfl⟩)
 refine hC.mono ?_;rintro _ w1 ⟨rfl,hb1⟩;replace hb:=ah hb hb1;clear hC;go_wp2;go_ret;exact ⟨rfl,hb⟩
theorem J3 (a b:List UInt8) (w:World) (ha:a.length<=100000) (hbl:b.length<=100000) (hR:Rnd w) :
 bP 87 #[.string ⟨a.toArray⟩,.string ⟨b.toArray⟩] w (.string ⟨(Sh.node a b).toArray⟩):=by
 have hb:=bNew (bY w (.cells #[.string ⟨#[1]⟩] 9)) (.cells #[.string ⟨a.toArray⟩,.string ⟨b.toArray⟩] 9);have B1:=(Bx.mk w 9 #[.string ⟨#[1]⟩]).new (.cells #[.string ⟨a.toArray⟩,.string ⟨b.toArray⟩] 9);have B2:=Bx.mk (w.alloc (.cells #[.string ⟨#[1]⟩] 9)) 9 #[.string ⟨a.toArray⟩,.string ⟨b.toArray⟩];have hC:=qN [1] [a,b] w.heap.size (w.heap.size+1) ((w.alloc (.cells #[.string ⟨#[1]⟩] 9)).alloc (.cells #[.string ⟨a.toArray⟩,.string ⟨b.toArray⟩] 9)) B1 (by rw[World.size_alloc]at B2;exact B2) (by simp) (by simp;omega) (hR.below hb);simp only[List.flatten_cons,List.flatten_nil,List.append_nil,List.length_cons,List.length_nil,Nat.reduceAdd]at hC;clear B1 B2
 go_enter Tryz.func87,Tryz.ntmps87
 go_wp2_with (go_at_call 141;refine (t_ [1] _).mono ?_;rintro _ _ ⟨rfl,rfl⟩)
 refine hC.mono ?_;rintro _ w1 ⟨rfl,hb1⟩;replace hb:=ah hb hb1;clear hC;go_wp2;go_ret;exact ⟨rfl,hb⟩
theorem wW (c l:Int) (s ct key:List UInt8) (w:World) (hc:ct.length<=100000) (hk:key.length<=100000) (hR:Rnd w) :
 bP 46 #[.agg #[.int .i64 c,.int .i64 l,.string ⟨s.toArray⟩,.string ⟨ct.toArray⟩],.string ⟨key.toArray⟩] w (.string ⟨(Sh.sg key ct).toArray⟩):=by
 have hb:=bY w (.cells #[.int .i64 c,.int .i64 l,.string ⟨s.toArray⟩,.string ⟨ct.toArray⟩] 106);have hC:=Kz ct _ hc (hR.below hb);have Hf:=Kp.mk hR
 go_enter Tryz.func46,Tryz.ntmps46
 go_wp2_with fail;refine hC.mono ?_;rintro _ w1 ⟨rfl,hb1⟩;replace hb:=ah hb hb1;have hD:=J3 key (Sh.leaf ct) w1 hk (by rw[show (Sh.leaf ct).length=32 from Sh.xU _];omega) (Hf.out.below hb);clear hC hb1;go_wp2_with fail;refine hD.mono ?_;rintro _ w2 ⟨rfl,hb2⟩;replace hb:=ah hb hb2;clear hD hb2;go_wp2;go_ret;exact ⟨rfl,hb⟩
theorem DI (ks:List (List UInt8)) (K:Option Addr) (kc:Nat) (d:Sh.Dl) (hs:List Sh.Hn) (i:Nat) (h:Sh.Hn) (w:World) (hK:At 1 h_ w w.heap.size K ks) (h8:ks.length=8) (hkc:8<=kc) (hks:∀k∈ks,k.length<=1000) (hc:h.c<8) (hi:i<=100) (hh:ql h) (hdl:vW d) (hk:∀x∈hs,ql x) (hR:Rnd w) :
 bP 38 #[.agg (rU d hs i h),.slice K 8 kc] w (.bool (EF ks d hs i h)):=by
 unfold rU
 have hcl:=rY (i:=i) (hs:=hs) hdl hh hi hk;obtain ⟨c,hcn⟩:=Int.eq_ofNat_of_zero_le hh.c.1;have hck:c<ks.length:=by omega
 obtain⟨pk,ok,rfl,hpk,hkc⟩:=hK (by omega);obtain ⟨key,hkey⟩:∃key,ks[c]? = some key:=⟨_,List.getElem?_eq_getElem hck⟩
 have WL:=hks key (List.mem_of_getElem? hkey);have hsh:Kp (EF ks d hs i h=((key != [])&&(h.s==Sh.sg key (Sh.cont d i h.c h.l (bf hs i))))):=⟨by unfold EF;rw[hcn,Int.toNat_natCast,List.getD_eq_getElem?_getD,hkey];rfl⟩
 have VQ:w.cell? ⟨pk,ok+c,none⟩=some (.string ⟨key.toArray⟩):=by
  have h9:=hkc c key hkey 0 _ rfl
  rwa [Nat.mul_one,Nat.add_zero]at h9
 generalize Sh.cont d i h.c h.l (bf hs i)=ct at *;rw [hsh.out,hcn];have hb:=bY w (.cells #[.int .i64 (c:Int),.int .i64 h.l,.string ⟨h.s.toArray⟩,.string ⟨ct.toArray⟩] 106);have k0:=(hb.cell (p:=⟨pk,ok+c,none⟩) hpk).trans VQ;have hS:=fun w0 hR0=>wW c h.l h.s ct key w0 hcl (by omega) hR0
 have BH:=Bx.mk w 106 #[.int .i64 (c:Int),.int .i64 h.l,.string ⟨h.s.toArray⟩,.string ⟨ct.toArray⟩];have hR0:=hR.below hb;have b0:=BH.cell 0 (v:=.int .i64 (c:Int)) rfl;have Hf:=Kp.mk hR;clear hkc hsh hk hks hkey hcn hh hdl WL hcl VQ hR;obtain ⟨eq,heq⟩:∃eq,Kp ((h.s==Sh.sg key ct)=eq):=⟨_,⟨rfl⟩⟩
 rw[heq.out]
 have VZ:((key != [])=false/\(key==[])=true/\decide (key=[])=true)∨((key != [])=true/\(key==[])=false/\decide (key=[])=false):=by
  by_cases hke:key=[]
  · exact .inl (by simp[hke])
  · exact .inr (by simp[hke])
 obtain⟨res,hres⟩:∃res,Kp (((key != [])&&eq)=res):=⟨_,⟨rfl⟩⟩
 rw[hres.out]
 go_enter Tryz.func38,Tryz.ntmps38
 go_wp2_with fail;generalize w.alloc (.cells #[.int .i64 (c:Int),.int .i64 h.l,.string ⟨h.s.toArray⟩,.string ⟨ct.toArray⟩] 106)=W at *;have kE:=fun d os=>hS (Sort.grow (redrawn W d) os) (hR0.below (below_regrown W d os))
 have r0:=fun d os=>(BH.again d os).cell 0 (v:=.int .i64 (c:Int)) rfl
 have r1:=fun d os=>(BH.again d os).cell 1 (v:=.int .i64 h.l) rfl
 have r2:=fun d os=>(BH.again d os).cell 2 (v:=.string ⟨h.s.toArray⟩) rfl
 have r3:=fun d os=>(BH.again d os).cell 3 (v:=.string ⟨ct.toArray⟩) rfl
 rcases VZ with ⟨z0,z1,z2⟩|⟨z0,z1,z2⟩
 · rw[z0,Bool.false_and]at hres;refine wp_region_quiet_below (by kernel_rfl) (by kernel_rfl) ?_
   repeat (go_big_quiet_step (first
    | (go_at_call 46;with_reducible exact Calls.regrown_of (kE _ _))))
   refine wpQuiet_nil ?_;rintro _ ⟨q,rfl⟩;have hb1:=below_regrown W q.d q.os;replace hb:=ah hb hb1;go_wp2;go_ret;exact ⟨by rw[←hres.out];rfl,hb⟩
 · rw[z0,Bool.true_and]at hres;refine wp_region_quiet_below (by kernel_rfl) (by kernel_rfl) ?_
   repeat (go_big_quiet_step (first
    | (go_at_call 46;with_reducible exact Calls.regrown_of (kE _ _))))
   refine wpQuiet_nil ?_;rintro _ ⟨q,rfl⟩;have hb1:=below_regrown W q.d q.os;replace hb:=ah hb hb1;go_wp2;go_ret;exact ⟨by rw[←hres.out,←heq.out];rfl,hb⟩
def vP (p:Nat->Bool) (n:Nat):Option Nat:=(List.range n).find? p
def jG (ks:List (List UInt8)) (d:Sh.Dl) (hs:List Sh.Hn) (i:Nat):Bool:=match hs[i]? with
 | some h=>EF ks d hs i h
 | none=>false
def Po (hs:List Sh.Hn):Option Nat->Int
 | some i=>(hs[i]?.map (·.l)).getD 0
 | none=>0
def Tn:Option Nat->Int
 | some i=>i
 | none=> -1
def qZ (ks:List (List UInt8)) (d:Sh.Dl) (hs:List Sh.Hn):Int:=Po hs (vP (jG ks d hs) hs.length)
def c0 (hs:List Sh.Hn):Int:=(hs[0]?.map (·.c)).getD 0
def l0 (hs:List Sh.Hn):Int:=(hs[0]?.map (·.l)).getD 0
theorem kH {p:Nat->Bool} {n i:Nat}:vP p n=some i↔p i=true/\i<n/\∀j,j<i->p j=false:=by
 unfold vP
 rw[List.find?_range_eq_some];simp
theorem E_ {p:Nat->Bool} {n:Nat}:vP p n=none↔∀j,j<n->p j=false:=by
 unfold vP
 rw[List.find?_range_eq_none];simp
theorem EN {d:Sh.Dl} {kn:List Nat} {hs:List Sh.Hn} (hm:yY d kn hs):∀(k i:Nat) (g h:Sh.Hn),hs[i]? = some g->hs[i+k]? = some h->h.l<=g.l:=by
 intro k
 induction k with
 | zero=>intro i g h hg hh;rw[Nat.add_zero,hg]at hh;cases hh;exact Int.le_refl _
 | succ k ih =>
  intro i g h hg hh;have hlt:i+k<hs.length:=by have:=(List.getElem?_eq_some_iff.1 hh).1;omega
  obtain⟨m,vJ⟩:∃m,hs[i+k]? = some m:=⟨_,List.getElem?_eq_getElem hlt⟩
  have h1:=ih i g m hg vJ;have h2:=(hm.fm.next (i+k) m h vJ (by rw[Nat.add_assoc];exact hh)).2;omega
theorem CW {d:Sh.Dl} {kn:List Nat} {hs:List Sh.Hn} {set i:Nat} {h:Sh.Hn} (hm:yY d kn hs) (hi:hs[i]? = some h):jG (f_ keysA set) d hs i=set.testBit h.c.toNat:=by
 unfold jG
 rw[hi,Nat.testBit_eq_decide_div_mod_eq];exact sU (hm.fm.hand i h hi).1 (hm.sl i h hi)
theorem Pn {d:Sh.Dl} {kn:List Nat} {hs:List Sh.Hn} {s m:Nat} (hm:yY d kn hs) (h:qZ (f_ keysA s) d hs=3):qZ (f_ keysA (s ||| m)) d hs=3:=by
 unfold qZ at h ⊢
 cases hf:vP (jG (f_ keysA s) d hs) hs.length with
 | none=>rw[hf]at h;cases h
 | some i =>
  rw[hf]at h;obtain ⟨hp,hi,-⟩:=kH.1 hf;obtain ⟨g,hg⟩:∃g,hs[i]? = some g:=⟨_,List.getElem?_eq_getElem hi⟩
  rw[CW hm hg]at hp
  have hg3:g.l=3:=by
   simp only[Po,hg,Option.map_some,Option.getD_some]at h;exact h
  have hq:jG (f_ keysA (s ||| m)) d hs i=true:=by rw[CW hm hg,Nat.testBit_or,hp];rfl
  cases hf2:vP (jG (f_ keysA (s ||| m)) d hs) hs.length with
  | none=>have:=E_.1 hf2 i hi;rw[hq]at this;cases this
  | some j =>
   obtain⟨hp2,hj,hall⟩:=kH.1 hf2
   have hji:j<=i:=by
    rcases Nat.lt_or_ge i j with h9|h9
    · have:=hall i h9;rw[hq]at this;cases this
    · exact h9
   obtain⟨b,hb⟩:∃b,hs[j]? = some b:=⟨_,List.getElem?_eq_getElem hj⟩
   have h1:=EN hm (i-j) j b g hb (by rw[Nat.add_sub_cancel' hji];exact hg);have h2:=((hm.fm.hand j b hb).2.1).2;simp only[Po,hb,Option.map_some,Option.getD_some];omega
theorem Kv {d:Sh.Dl} {kn:List Nat} {hs:List Sh.Hn} {s:Nat} (hm:yY d kn hs) (h3:l0 hs=3) (hk:(f_ keysA s).getD (c0 hs).toNat []≠[]):qZ (f_ keysA s) d hs=3:=by
 obtain⟨g,hg⟩:∃g,hs[0]? = some g:=⟨_,List.getElem?_eq_getElem hm.fm.len.1⟩
 simp only[l0,c0,hg,Option.map_some,Option.getD_some]at h3 hk;have hc:=(hm.fm.hand 0 g hg).1
 have hp:jG (f_ keysA s) d hs 0=true:=by
  rw[CW hm hg,Nat.testBit_eq_decide_div_mod_eq];rw [zZ (show g.c.toNat<8 by omega)]at hk;by_cases hb:s / 2 ^ g.c.toNat % 2=1
  · exact decide_eq_true hb
  · rw[if_neg hb]at hk;exact absurd rfl hk
 have hf:vP (jG (f_ keysA s) d hs) hs.length=some 0:=kH.2 ⟨hp,hm.fm.len.1,fun j hj=>absurd hj (Nat.not_lt_zero _)⟩
 unfold qZ
 rw[hf];simp only[Po,hg,Option.map_some,Option.getD_some,h3]
def N9 (ks:List (List UInt8)) (x:(Sh.Dl × List Sh.Hn) × Int):Bool:=decide (qZ ks x.1.1 x.1.2=3)&&decide (c0 x.1.2≠x.2)
def cnL (ks:List (List UInt8)) (x:(Sh.Dl × List Sh.Hn) × Int):Bool:=decide (c0 x.1.2≠x.2)&&(decide (l0 x.1.2=3)&&(ks.getD (c0 x.1.2).toNat [] != []))
def cnt {α:Type} (f:α->Bool) (l:List α) (k:Nat):Nat:=(l.take k).countP f
theorem AZ {α:Type} {f:α->Bool} {l:List α} {k:Nat} {x:α} (h:l[k]? = some x):cnt f l (k+1)=cnt f l k+if f x then 1 else 0:=by
 unfold cnt
 rw[List.take_add_one,h,List.countP_append];simp [List.countP_cons]
theorem cnt_le {α:Type} {f:α->Bool} {l:List α} {k:Nat}:cnt f l k<=k:=by
 unfold cnt
 exact Nat.le_trans List.countP_le_length (by rw[List.length_take];omega)
theorem cnt_mono {α:Type} {f g:α->Bool} {l:List α} {k:Nat} (h:∀x∈l,f x=true->g x=true):cnt f l k<=cnt g l k :=
 List.countP_mono_left fun x hx hf=>h x (List.mem_of_mem_take hx) hf
theorem Qd {s m:Nat} {x:(Sh.Dl × List Sh.Hn) × Int} {kn:List Nat} (hm:yY x.1.1 kn x.1.2) (h:N9 (f_ keysA s) x=true):N9 (f_ keysA (s ||| m)) x=true:=by
 unfold N9 at h ⊢
 rw[Bool.and_eq_true,decide_eq_true_eq]at h ⊢;exact ⟨Pn hm h.1,h.2⟩
theorem M_ {s:Nat} {x:(Sh.Dl × List Sh.Hn) × Int} {kn:List Nat} (hm:yY x.1.1 kn x.1.2) (h:cnL (f_ keysA s) x=true):N9 (f_ keysA s) x=true:=by
 unfold cnL at h
 unfold N9
 rw[Bool.and_eq_true,Bool.and_eq_true,decide_eq_true_eq]at h;rw [Bool.and_eq_true,decide_eq_true_eq];exact ⟨Kv hm (of_decide_eq_true h.2.1) (by simpa using h.2.2),decide_eq_true h.1⟩
attribute [local go_sem] Oper.semAt_some
theorem nH {α:Type} {n:Nat} {P:Program} {g:Operand} {ps:Array Tmp} {assign body:Code} {Q:Exit->Act->World->Prop} {a:Act} {w:World} {Kw:World->Prop} (h1:1<=n) {gf:Nat} {lb:Array Value} (hg:a.eval g=.func (.func gf) #[] lb)
 (eg:∀args w,(callFunc gf args).run P w=.ok (.enter gf args) w) {encs:α->Array Value} {R:List α->α->Prop} {S G:List α->Prop} (hseq:UR (n-1) P gf lb encs R S G Kw) (hb0:∀X,Below w.heap.size w X->Kw X) (hps:∀x,(encs x).size=ps.size)
 (I:List α->World->Prop) (Ix:Code->List α->World->Prop) (hI:uU I) (yE:BI w.heap.size I) (hIx:∀c,uU (Ix c)) (kD:∀c,BI w.heap.size (Ix c)) (rV:∀s X,I s X->Kw X) (hG:∀s X,I s X->G s) (hz:I [] w) (tb tc:Tmp) (val:α->Value) (T:TypeId) (cells:α->Array Value)
 (hassign:∀(l:Nat) (x:α) (W:World) (K:Act->World->Prop),(∀b W',Below W.heap.size W W'->Bx W' b T (cells x)->K { tmps:=(((ps.zip (encs x)).foldl (fun t (p,v)=>t.setIfInBounds p v) a.tmps).setIfInBounds tb (val x)).setIfInBounds tc (.pointer (some ⟨b,0,none⟩)),defers:=[] } W') ->
  assign.wpIn (Fence.wide.inRound l) (n-1-1) P (Exit.then K (fun _ _ _=>False)) { tmps:=(ps.zip (encs x)).foldl (fun t (p,v)=>t.setIfInBounds p v) a.tmps,defers:=[] } W)
 (hbody:∀(l:Nat) (pre:List α) (x:α) (b:Nat) (W:World),I pre W->Bx W b T (cells x)->R pre x->body.wpIn (Fence.wide.inRound l) (n-1-1) P (RH w.heap.size I Ix (pre++[x]) W) { tmps:=(((ps.zip (encs x)).foldl (fun t (p,v)=>t.setIfInBounds p v) a.tmps).setIfInBounds tb (val x)).setIfInBounds tc (.pointer (some ⟨b,0,none⟩)),defers:=[] } W)
 (hdone:∀(D:Nat) (xs:List α) (W:World),w.heap.size<=D->S xs->I xs W->W.heap[D]? = some (.deferred (some []))->Q .normal { a with defers:={ target:=.collected D,args:=#[] } :: a.defers } W)
 (hstop:∀(D:Nat) (c:Code) (pre:List α) (W:World),w.heap.size<=D->Ix c pre W->W.heap[D]? = some (.deferred (some []))->c.wpIn Fence.wide n P Q { a with defers:={ target:=.collected D,args:=#[] } :: a.defers } W) :
 (Code.rangeFunc g ps assign body).wpIn Fence.wide n P Q a w :=
 vC h1 hg eg hseq hb0 hps I Ix hI yE hIx kD rV hG hz
  (fun x a' X=>∃b,a'={ tmps:=(((ps.zip (encs x)).foldl (fun t (p,v)=>t.setIfInBounds p v) a.tmps).setIfInBounds tb (val x)).setIfInBounds tc (.pointer (some ⟨b,0,none⟩)),defers:=[] }/\Bx X b T (cells x))
  (fun x a' X l o o' ⟨b,e,hB⟩ ho hc=>⟨b,e,dG hB ho hc⟩)
  (fun l x W K hK=>hassign l x W K fun b W' hb hB=>hK _ _ hb ⟨b,rfl,hB⟩)
  (fun l pre x a' W hi ⟨b,e,hB⟩ hR=>by subst e;exact hbody l pre x b W hi hB hR)
  hdone hstop
theorem Nq (ks:List (List UInt8)) (K:Option Addr) (kc gk:Nat) (d:Sh.Dl) (hs:List Sh.Hn) (i:Nat) (h:Sh.Hn) (w:World) (Bk:Bx w gk 34 #[.slice K 8 kc]) (hK:At 1 h_ w w.heap.size K ks) (h8:ks.length=8) (hkc:8<=kc) (hks:∀k∈ks,k.length<=1000) (hc:h.c<8) (hi:i<=100) (hh:ql h) (hdl:vW d) (hk:∀x∈hs,ql x) (hR:Rnd w) :
 bP 37 #[.agg (rU d hs i h),.pointer (some ⟨gk,0,none⟩)] w (.bool (EF ks d hs i h)):=by
 have hb:=bY w (.cells (rU d hs i h) 106);have BH:=Bx.mk w 106 (rU d hs i h);have hS:=fun w0 (hb0:Below w.heap.size w w0)=>DI ks K kc d hs i h w0 (hK.aU hb0) h8 hkc hks hc hi hh hdl hk (hR.below hb0)
 replace Bk:=Bk.call hb;have hS1:=hS _ hb
 unfold rU at hb BH hS1 Bk ⊢
 clear hK hR hS
 go_enter Tryz.func37,Tryz.ntmps37
 have k0:=Bk.cell 0 rfl;obtain ⟨b0,b1,b2,b3⟩:=BH.p4;go_wp2_with fail;refine hS1.mono ?_;rintro _ w1 ⟨rfl,hb1⟩;replace hb:=ah hb hb1;clear hS1 b0 b1 b2 b3 k0;go_wp2;go_ret;exact ⟨rfl,hb⟩
attribute [local go_sem] Oper.semAt_some
def z4:Array Value:=#[.int .i64 0,.int .i64 0,.string ⟨#[]⟩,.string ⟨#[]⟩]
def YM (d:Sh.Dl) (hs:List Sh.Hn):Option Nat->Array Value
 | some i=>match hs[i]? with
  | some h=>rU d hs i h
  | none=>#[]
 | none=>z4
theorem Fr.sc {B:Nat} {W X:World} {p:Addr} {u:Value} (h:Fr B W X) (hp:p.block<B):Fr B W (X.setCell p u):=⟨by rw[World.size_setCell];exact h.size,fun b o hb ho=>(Below.heap_setCell X p u b (by omega)).trans (h.keep b o hb ho)⟩
theorem Fr.dr {B:Nat} {W X:World} (h:Fr B W X):Fr B W X.drew:=⟨h.size,h.keep⟩
theorem yK (w:World) (p:Addr) (u:Value):w.drew.setCell p u=(w.setCell p u).drew:=rfl
theorem EY {X:World} {D:Nat} {o:Obj} (h:X.heap[D]? = some o):X.drew.heap[D]? = some o:=h
theorem Bx.dr {w:World} {g:Nat} {t:TypeId} {cs:Array Value} (h:Bx w g t cs):Bx w.drew g t cs:=h
theorem nT {fn:Func} {t u:Tmp} {g g':Nat} {i a b c e:Value} (hf:fn.results=#[.cell t 3,.cell u 106]) (tmps:Array Value) (w:World) (ht:tmps.getD t undef=.pointer (some ⟨g,0,none⟩)) (hu:tmps.getD u undef=.pointer (some ⟨g',0,none⟩)) (hI:Bx w g 3 #[i]) (hB:Bx w g' 106 #[a,b,c,e]) :
 (results fn tmps).run Tryz.prog w=.ok (.tuple #[i,.agg #[a,b,c,e]]) w:=by
 have k0:=hI.cell 0 rfl;obtain ⟨h0,h1,h2,h3⟩:=hB.p4;have ht':tmps[t]?.getD undef=.pointer (some ⟨g,0,none⟩):=by simpa using ht
 have hu':tmps[u]?.getD undef=.pointer (some ⟨g',0,none⟩):=by simpa using hu
 simp only[results,hf];simp [go_sem,ht',hu',k0,h0,h1,h2,h3,loadVar]
structure Og (p:Nat->Bool) (w:World) (fv:Value) (pre:List (Nat × Sh.Hn)) (X:World):Prop where
 bl:Below w.heap.size w X
 b3:Bx X w.heap.size 112 #[fv]
 b4:Bx X (w.heap.size+1) 3 #[.int .i64 0]
 b5:Bx X (w.heap.size+1+1) 106 z4
 no:∀j,j<pre.length->p j=false
variable {p:Nat->Bool} {w:World} {fv:Value} {d:Sh.Dl} {hs:List Sh.Hn}
theorem Og.grow:uU (Og p w fv):=fun s X Y h hb=>⟨ah h.bl hb,h.b3.call hb,h.b4.call hb,h.b5.call hb,h.no⟩
theorem Og.put {B:Nat} (hB:w.heap.size<=B):BI B (Og p w fv):=fun s X l o o' h hl ho hc=>⟨h.bl.trans (bF (by omega) ho),dG h.b3 ho hc,dG h.b4 ho hc,dG h.b5 ho hc,h.no⟩
structure UY (p:Nat->Bool) (d:Sh.Dl) (hs:List Sh.Hn) (w:World) (c:Code) (pre:List (Nat × Sh.Hn)) (X:World):Prop where
 c:c=.ret
 bl:Below w.heap.size w X
 ex:∃i h,hs[i]? = some h/\vP p hs.length=some i/\Bx X (w.heap.size+1) 3 #[.int .i64 (i:Nat)]/\Bx X (w.heap.size+1+1) 106 (rU d hs i h)
theorem UY.grow (c:Code):uU (UY p d hs w c):=fun s X Y h hb=>by
 obtain⟨h1,h2,i,g,h3,h4,h5,h6⟩:=h;exact ⟨h1,ah h2 hb,i,g,h3,h4,h5.call hb,h6.call hb⟩
theorem UY.put {B:Nat} (hB:w.heap.size<=B) (c:Code):BI B (UY p d hs w c):=fun s X l o o' h hl ho hc=>by
 obtain⟨h1,h2,i,g,h3,h4,h5,h6⟩:=h;exact ⟨h1,h2.trans (bF (by omega) ho),i,g,h3,h4,dG h5 ho hc,dG h6 ho hc⟩
theorem Ht (ks:List (List UInt8)) (K:Option Addr) (kc gk gB:Nat) (d:Sh.Dl) (hs:List Sh.Hn) (A:Option Addr) (cap:Nat) (w:World) (Bk:Bx w gk 34 #[.slice K 8 kc]) (hK:At 1 h_ w w.heap.size K ks) (h8:ks.length=8) (hkc:8<=kc) (hks:∀k∈ks,k.length<=1000)
 (BA:Bx w gB 32 (dD d (.slice A hs.length cap))) (hA:At 3 dw w w.heap.size A hs) (hcap:hs.length<=cap) (hf:iK d hs) (hR:Rnd w) :
 Calls Tryz.prog 35 #[.func (.func 81) #[] #[.pointer (some ⟨gB,0,none⟩)],.func (.func 37) #[] #[.pointer (some ⟨gk,0,none⟩)]] w
  fun e w'=>e=.returned (.tuple #[.int .i64 (Tn (vP (jG ks d hs) hs.length)),.agg (YM d hs (vP (jG ks d hs) hs.length))])/\Below w.heap.size w w':=by
 have ZT:=hf.len.2;have hdl:=hf.dl;have hhn:=hf.hn;have NZ:∀X,Below w.heap.size w X->Bx X gB 32 (dD d (.slice A hs.length cap))/\At 3 dw X X.heap.size A hs:=fun X hX=>⟨BA.call hX,hA.aU hX⟩
 have jH:=fun (i:Nat) (h:Sh.Hn) (hi:hs[i]? = some h) X (hX:Below w.heap.size w X)=>Nq ks K kc gk d hs i h X (Bk.call hX) (hK.aU hX) h8 hkc hks (by have:=(hf.hand i h hi).1;omega) (by have:=(List.getElem?_eq_some_iff.1 hi).1;omega) (hhn h (List.mem_of_getElem? hi)) hdl hhn (hR.below hX)
 have hsh:∀(i:Nat) (h:Sh.Hn),hs[i]? = some h->EF ks d hs i h=jG ks d hs i:=fun i h hi=>by unfold jG;rw[hi]
 have hbW:=bNew (bNew (bY w (.cells #[.func (.func 37) #[] #[.pointer (some ⟨gk,0,none⟩)]] 112)) (.cells #[.int .i64 0] 3)) (.cells z4 106);have B3:=((Bx.mk w 112 #[.func (.func 37) #[] #[.pointer (some ⟨gk,0,none⟩)]]).new (.cells #[.int .i64 0] 3)).new (.cells z4 106);have B4:=(Bx.mk (w.alloc (.cells #[.func (.func 37) #[] #[.pointer (some ⟨gk,0,none⟩)]] 112)) 3 #[.int .i64 0]).new (.cells z4 106);have B5:=Bx.mk ((w.alloc (.cells #[.func (.func 37) #[] #[.pointer (some ⟨gk,0,none⟩)]] 112)).alloc (.cells #[.int .i64 0] 3)) 106 z4;simp only[World.size_alloc]at B4 B5;have hseq:=wY 3 (by decide) d hs A cap gB hdl hhn (by omega) hcap;generalize jG ks d hs=p at *;refine (callsIn_wide (n:=4)).1 ?_;refine callsIn_of_wp_marks Tryz.func35 rfl trivial ?_ rfl;simp only[Tryz.ntmps35,List.size_toArray,List.length_cons,List.length_nil,Nat.reduceAdd,Nat.reduceSub,Array.replicate_succ,Array.replicate_zero,List.push_toArray,List.append_toArray,List.nil_append,List.cons_append];refine wpIn_wide.2 ?_
 unfold z4 at *
 go_wp2_with fail;generalize ((w.alloc (.cells #[.func (.func 37) #[] #[.pointer (some ⟨gk,0,none⟩)]] 112)).alloc (.cells #[.int .i64 0] 3)).alloc (.cells #[.int .i64 0,.int .i64 0,.string ⟨#[]⟩,.string ⟨#[]⟩] 106)=W3 at *;have hw3:=hbW.size;have l5:=B5.lt;have hz:Og p w (.func (.func 37) #[] #[.pointer (some ⟨gk,0,none⟩)]) [] W3:=⟨hbW,B3,B4,B5,fun j hj=>absurd hj (Nat.not_lt_zero _)⟩
 clear B3 B4 B5 hK hA hR hks Bk BA;refine (wpIn_wide (n:=4)).1 ?_
 refine nH (by decide) (gf:=81) (lb:=#[.pointer (some ⟨gB,0,none⟩)]) rfl (enters_of Tryz.func81 (by kernel_rfl) rfl) hseq (fun X hX=>NZ X (ah hbW hX)) (fun _=>rfl)
  (Og p w (.func (.func 37) #[] #[.pointer (some ⟨gk,0,none⟩)])) (UY p d hs w) Og.grow (Og.put (by omega)) UY.grow (UY.put (by omega)) (fun s X h=>NZ X h.bl) (fun _ _ _=>trivial) hz 6 7 (fun x=>.int .i64 x.1) 106 (fun x=>rU d hs x.1 x.2) ?assign ?body ?done ?stop
 case assign =>
  rintro lp ⟨k,h⟩ W K hK;simp only[hdE,rU,iy]at hK ⊢
  gi_wp2
  have hk9:=hK _ _ (bY W _) (Bx.mk W _ _);simp only[List.setIfInBounds_toArray,List.set_cons_succ,List.set_cons_zero]at hk9;exact hk9
 case body =>
  rintro lp pre ⟨k,h⟩ gb W hI HB ⟨hk,hgo⟩;dsimp only at hk hgo HB;subst hk;simp only[hdE,iy,List.setIfInBounds_toArray,List.set_cons_succ,List.set_cons_zero];have hC:=jH pre.length h hgo W hI.bl;have hpk:=hsh pre.length h hgo
  unfold rU at HB hC ⊢
  have c3:=hI.b3.cell 0 rfl;have h0:=HB.cell 0 (v:=.int .i64 h.c) rfl;have h1:=HB.cell 1 (v:=.int .i64 h.l) rfl;have h2:=HB.cell 2 (v:=.string ⟨h.s.toArray⟩) rfl;have h3:=HB.cell 3 rfl;rw [hpk]at hC;have hCs:rU d hs pre.length h=#[.int .i64 h.c,.int .i64 h.l,.string ⟨h.s.toArray⟩,.string ⟨(Sh.cont d pre.length h.c h.l (bf hs pre.length)).toArray⟩]:=rfl;generalize Sh.cont d pre.length h.c h.l (bf hs pre.length)=ct at *;clear jH hsh NZ
  gi_wp2_with fail
  refine⟨trivial,((callsIn_wide.2 hC).inRound _).mono ?_⟩;rintro _ W5 ⟨rfl,hb5⟩;have IL:=Og.grow _ _ _ hI hb5;have Vh:=HB.call hb5;obtain ⟨b,hbk⟩:∃b,Kp (p pre.length=b):=⟨_,⟨rfl⟩⟩
  rw[hbk.out];clear h0 h1 h2 h3 c3 hC hpk HB hI
  cases b with
  | false =>
   have Xx:Og p w (.func (.func 37) #[] #[.pointer (some ⟨gk,0,none⟩)]) (pre++[(pre.length,h)]) W5:=⟨IL.bl,IL.b3,IL.b4,IL.b5,fun j hj=>by
    rw[List.length_append,List.length_singleton]at hj
    rcases Nat.lt_or_ge j pre.length with h9|h9
    · exact IL.no j h9
    · rw[show j=pre.length by omega];exact hbk.out⟩
   gi_wp2_with fail
   exact⟨Fr.below hb5,Xx⟩
  | true =>
   have hfs:vP p hs.length=some pre.length:=kH.2 ⟨hbk.out,(List.getElem?_eq_some_iff.1 hgo).1,fun j hj=>IL.no j (by omega)⟩;obtain ⟨bl5,b3,b4,b5,no5⟩:=IL
   have hne:gb≠w.heap.size+1:=by
    rintro rfl;have h9:=(show W5.heap[w.heap.size+1]? = _ from b4).symm.trans Vh;exact absurd (Obj.cells.inj (Option.some.inj h9)).2.1 (by decide)
   have h0:=Vh.cell 0 (v:=.int .i64 h.c) rfl;have h1:=Vh.cell 1 (v:=.int .i64 h.l) rfl;have h2:=Vh.cell 2 (v:=.string ⟨h.s.toArray⟩) rfl;have h3:=Vh.cell 3 rfl;have HS:=Vh.far (p:=⟨w.heap.size+1,0,none⟩) hne (.int .i64 (pre.length:Nat));have y0:=HS.cell 0 (v:=.int .i64 h.c) rfl;have y1:=HS.cell 1 (v:=.int .i64 h.l) rfl;have y2:=HS.cell 2 (v:=.string ⟨h.s.toArray⟩) rfl;have y3:=HS.cell 3 rfl;have e4:=b4.cell 0 rfl;have f4:=b4.frozen 0;obtain ⟨e50,e51,e52,e53⟩:=b5.p4;have f50:=fun i=>b5.frozen i
   have hfr:=(((((Fr.below (B:=W3.heap.size) hb5).sc (p:=⟨w.heap.size+1,0,none⟩) (u:=.int .i64 (pre.length:Nat)) (by dsimp only;omega)).sc (p:=⟨w.heap.size+1+1,0,none⟩) (u:=.int .i64 h.c) (by dsimp only;omega)).sc (p:=⟨w.heap.size+1+1,1,none⟩) (u:=.int .i64 h.l) (by dsimp only;omega)).sc (p:=⟨w.heap.size+1+1,2,none⟩) (u:=.string ⟨h.s.toArray⟩) (by dsimp only;omega)).sc (p:=⟨w.heap.size+1+1,3,none⟩) (u:=.string ⟨ct.toArray⟩) (by dsimp only;omega) |>.dr
   have hbl:=(aQ (aQ (aQ (aQ (aQ bl5 (p:=⟨w.heap.size+1,0,none⟩) (by dsimp only;omega) (.int .i64 (pre.length:Nat))) (p:=⟨w.heap.size+1+1,0,none⟩) (by dsimp only;omega) (.int .i64 h.c)) (p:=⟨w.heap.size+1+1,1,none⟩) (by dsimp only;omega) (.int .i64 h.l)) (p:=⟨w.heap.size+1+1,2,none⟩) (by dsimp only;omega) (.string ⟨h.s.toArray⟩)) (p:=⟨w.heap.size+1+1,3,none⟩) (by dsimp only;omega) (.string ⟨ct.toArray⟩)).drew;have h4':=Bx.dr (Bx.far (Bx.far (Bx.far (Bx.far (b4.set 0 (.int .i64 (pre.length:Nat))) (p:=⟨w.heap.size+1+1,0,none⟩) (by dsimp only;omega) (.int .i64 h.c)) (p:=⟨w.heap.size+1+1,1,none⟩) (by dsimp only;omega) (.int .i64 h.l)) (p:=⟨w.heap.size+1+1,2,none⟩) (by dsimp only;omega) (.string ⟨h.s.toArray⟩)) (p:=⟨w.heap.size+1+1,3,none⟩) (by dsimp only;omega) (.string ⟨ct.toArray⟩));have h5':=Bx.dr ((((((b5.far (p:=⟨w.heap.size+1,0,none⟩) (by dsimp only;omega) (.int .i64 (pre.length:Nat))).set 0 (.int .i64 h.c)).set 1 (.int .i64 h.l)).set 2 (.string ⟨h.s.toArray⟩)).set 3 (.string ⟨ct.toArray⟩)))
   gi_upto_region 5 with fail
   gi_region
   all_goals (
    gi_wp2_with fail
    try simp only[yK]
    exact⟨hfr,rfl,hbl,pre.length,h,hgo,hfs,h4',by rw[hCs];exact h5'⟩)
 case done =>
  rintro D xs W hD hlen hI hk;have hfs:vP p hs.length=none:=E_.2 fun j hj=>hI.no j (by omega)
  obtain⟨bl,b3,b4,b5,no⟩:=hI;have hlt:=(Array.getElem?_eq_some_iff.1 hk).1;have hbn:=bY W (.cells #[.int .i64 0,.int .i64 0,.string ⟨#[]⟩,.string ⟨#[]⟩] 106);have BZ:=Bx.mk W 106 #[.int .i64 0,.int .i64 0,.string ⟨#[]⟩,.string ⟨#[]⟩];have hkn:=(hbn.block _ hlt).trans hk;replace bl:=ah bl hbn;replace b4:=b4.call hbn;replace b5:=b5.call hbn;have hsz:=hbn.size;have hgl:w.heap.size+1+1<W.heap.size:=by omega
  obtain⟨WA,Xq⟩:∃WA,Kp (W.alloc (.cells #[.int .i64 0,.int .i64 0,.string ⟨#[]⟩,.string ⟨#[]⟩] 106)=WA):=⟨_,⟨rfl⟩⟩
  rw[Xq.out]at BZ hkn bl b4 b5;clear hbn hsz b3 no hseq hz NZ jH hsh;have hbl:=(aQ (aQ (aQ (aQ (aQ bl (p:=⟨w.heap.size+1,0,none⟩) (by dsimp only;omega) (.int .i64 (-1))) (p:=⟨w.heap.size+1+1,0,none⟩) (by dsimp only;omega) (.int .i64 0)) (p:=⟨w.heap.size+1+1,1,none⟩) (by dsimp only;omega) (.int .i64 0)) (p:=⟨w.heap.size+1+1,2,none⟩) (by dsimp only;omega) (.string ⟨#[]⟩)) (p:=⟨w.heap.size+1+1,3,none⟩) (by dsimp only;omega) (.string ⟨#[]⟩)).drew;have h4':=Bx.dr (Bx.far (Bx.far (Bx.far (Bx.far (b4.set 0 (.int .i64 (-1))) (p:=⟨w.heap.size+1+1,0,none⟩) (by dsimp only;omega) (.int .i64 0)) (p:=⟨w.heap.size+1+1,1,none⟩) (by dsimp only;omega) (.int .i64 0)) (p:=⟨w.heap.size+1+1,2,none⟩) (by dsimp only;omega) (.string ⟨#[]⟩)) (p:=⟨w.heap.size+1+1,3,none⟩) (by dsimp only;omega) (.string ⟨#[]⟩));have h5':=Bx.dr ((((((b5.far (p:=⟨w.heap.size+1,0,none⟩) (by dsimp only;omega) (.int .i64 (-1))).set 0 (.int .i64 0)).set 1 (.int .i64 0)).set 2 (.string ⟨#[]⟩)).set 3 (.string ⟨#[]⟩)));have hkd:=(Below.heap_setCell _ ⟨w.heap.size+1+1,3,none⟩ (.string ⟨#[]⟩) D (by dsimp only;omega)).trans ((Below.heap_setCell _ ⟨w.heap.size+1+1,2,none⟩ (.string ⟨#[]⟩) D (by dsimp only;omega)).trans ((Below.heap_setCell _ ⟨w.heap.size+1+1,1,none⟩ (.int .i64 0) D (by dsimp only;omega)).trans ((Below.heap_setCell _ ⟨w.heap.size+1+1,0,none⟩ (.int .i64 0) D (by dsimp only;omega)).trans ((Below.heap_setCell WA ⟨w.heap.size+1,0,none⟩ (.int .i64 (-1)) D (by dsimp only;omega)).trans hkn))));have hne:W.heap.size≠w.heap.size+1:=by omega
  obtain⟨z0,z1,z2,z3⟩:=BZ.p4;have ZS:=BZ.far (p:=⟨w.heap.size+1,0,none⟩) hne (.int .i64 (-1));obtain ⟨y0,y1,y2,y3⟩:=ZS.p4;have e4:=b4.cell 0 rfl;have f4:=b4.frozen 0;obtain ⟨e50,e51,e52,e53⟩:=b5.p4;have f50:=fun i=>b5.frozen i
  go_upto_region 7 with fail;rw [Xq.out]
  go_region
  all_goals (
   go_wp2
   try simp only[yK]
   have Hg:=(Marks.nil W3.heap.size W3.heap.size _).push hD (Nat.le_refl _) (EY hkd);refine Hg.leave fun W' hb' hB'=>⟨_,nT rfl _ _ rfl rfl (hB' _ _ _ h4') (hB' _ _ _ h5'),?_,hbl.trans (hb'.mono (by omega))⟩
   rw[hfs]
   rfl)
 case stop =>
  rintro D cd pre W hD ⟨rfl,bl,i,h,hgo,hfs,k4,k5⟩ hk;have Hg:=(Marks.nil W3.heap.size W3.heap.size W).push hD (Nat.le_refl _) hk;clear hseq hz NZ jH hsh
  gi_wp2
  refine Hg.leave fun W' hb' hB'=>⟨_,nT rfl _ _ rfl rfl (hB' _ _ _ k4) (hB' _ _ _ k5),?_,bl.trans (hb'.mono (by omega))⟩
  rw[hfs];simp only[YM,Tn,hgo];rfl
theorem TR (d:Sh.Dl) (hs:List Sh.Hn) (o:Option Nat) (h:∀i,o=some i->i<hs.length):∃(c:Int) (s ct:ByteArray),YM d hs o=#[.int .i64 c,.int .i64 (Po hs o),.string s,.string ct]:=by
 cases o with
 | none=>exact⟨0,⟨#[]⟩,⟨#[]⟩,rfl⟩
 | some i =>
  obtain⟨g,hg⟩:∃g,hs[i]? = some g:=⟨_,List.getElem?_eq_getElem (h i rfl)⟩
  refine⟨g.c,⟨g.s.toArray⟩,⟨(Sh.cont d i g.c g.l (bf hs i)).toArray⟩,?_⟩;simp only[YM,Po,hg,rU,Option.map_some,Option.getD_some]
theorem uK (ks:List (List UInt8)) (K:Option Addr) (kc:Nat) (d:Sh.Dl) (hs:List Sh.Hn) (A:Option Addr) (cap:Nat) (w:World) (hK:At 1 h_ w w.heap.size K ks) (h8:ks.length=8) (hkc:8<=kc) (hks:∀k∈ks,mg k)
 (hA:At 3 dw w w.heap.size A hs) (hcap:hs.length<=cap) (hf:iK d hs) (hR:Rnd w) :
 bP 11 #[.slice K 8 kc,.agg (dD d (.slice A hs.length cap))] w (.tuple #[.int .i64 (qZ ks d hs),.int .i64 (Tn (vP (jG ks d hs) hs.length)),.int .i64 0]):=by
 have Lm:∀k∈ks,k.length<=1000:=fun k hk=>by rcases hks k hk with h|h <;> simp[h]
 have hF:=fun w0 (hb0:Below w.heap.size w w0)=>xg d hs A cap w0 (hA.aU hb0) hcap hf
 have hKn:=fun w0 (hb0:Below w.heap.size w w0)=>qQ ks K kc w0 (hK.aU hb0) h8 hkc hks
 have Rj:=fun gk gB w0 (hb0:Below w.heap.size w w0) Bk BA=>Ht ks K kc gk gB d hs A cap w0 Bk (hK.aU hb0) h8 hkc Lm BA (hA.aU hb0) hcap hf (hR.below hb0)
 have PV:=TR d hs (vP (jG ks d hs) hs.length) (fun i h=>(kH.1 h).2.1);have hb:=bNew (bY w (.cells #[.slice K 8 kc] 34)) (.cells (dD d (.slice A hs.length cap)) 32);have BK:=(Bx.mk w 34 #[.slice K 8 kc]).new (.cells (dD d (.slice A hs.length cap)) 32);have BA:=Bx.mk (w.alloc (.cells #[.slice K 8 kc] 34)) 32 (dD d (.slice A hs.length cap));rw [World.size_alloc]at BA;have hHd:=fun w0=>Af 4 d (.slice A hs.length cap) w0 ⟨_,_,_,rfl⟩
 unfold qZ
 generalize vP (jG ks d hs) hs.length=o at *;obtain ⟨c9,s9,ct9,PV⟩:=PV;rw [PV]at Rj;generalize Po hs o=lv at *;generalize Tn o=ix at *
 unfold dD at *
 clear hK hA hks Lm PV hf hR;have hF1:=hF _ hb;have a0:=BA.cell 0 (v:=.int .i64 d.r) rfl;have a1:=BA.cell 1 (v:=.int .i64 d.d) rfl;have a2:=BA.cell 2 (v:=.int .i64 d.t) rfl;have a3:=BA.cell 3 (v:=.int .i64 d.n) rfl;have a4:=BA.cell 4 (v:=.slice A hs.length cap) rfl
 go_enter Tryz.func11,Tryz.ntmps11
 go_wp2_with fail;refine hF1.mono ?_;rintro _ w1 ⟨rfl,hb1⟩;replace hb:=ah hb hb1;replace BK:=BK.call hb1;replace BA:=BA.call hb1;have k0:=BK.cell 0 rfl;have hK1:=hKn _ hb;clear hF1 hF hKn a0 a1 a2 a3 a4 hb1;go_wp2_with fail;refine hK1.mono ?_;rintro _ w2 ⟨rfl,hb1⟩;replace hb:=ah hb hb1;replace BK:=BK.call hb1;replace BA:=BA.call hb1;have a0:=BA.cell 0 (v:=.int .i64 d.r) rfl;have a1:=BA.cell 1 (v:=.int .i64 d.d) rfl;have a2:=BA.cell 2 (v:=.int .i64 d.t) rfl;have a3:=BA.cell 3 (v:=.int .i64 d.n) rfl;have a4:=BA.cell 4 (v:=.slice A hs.length cap) rfl;clear hK1 k0 hb1;go_wp2_with fail;refine ((callsIn_wide (n:=4)).1 (hHd _)).mono ?_;rintro _ _ ⟨rfl,rfl⟩;have hbn:=bY w2 (.cells #[.int .i64 d.r,.int .i64 d.d,.int .i64 d.t,.int .i64 d.n,.slice A hs.length cap] 32);have BB:=Bx.mk w2 32 #[.int .i64 d.r,.int .i64 d.d,.int .i64 d.t,.int .i64 d.n,.slice A hs.length cap];replace hb:=ah hb hbn;replace BK:=BK.call hbn;have Xy:=Rj _ _ _ hb BK BB;clear hHd Rj a0 a1 a2 a3 a4 BA hbn BB BK;go_wp2_with fail;refine Xy.mono ?_;rintro _ w3 ⟨rfl,hb1⟩;replace hb:=ah hb hb1;clear Xy hb1;have hbn:=bY w3 (.cells #[.int .i64 c9,.int .i64 lv,.string s9,.string ct9] 106);have BH:=Bx.mk w3 106 #[.int .i64 c9,.int .i64 lv,.string s9,.string ct9];replace hb:=ah hb hbn;have h1:=BH.cell 1 (v:=.int .i64 lv) rfl;clear hbn;go_wp2_with fail
 go_ret3
 exact⟨rfl,hb⟩
attribute [local go_sem] Oper.semAt_some
theorem Qm (n:Nat) (h:n<9223372036854775808):bits .and .i64 (n:Int) 1=((n % 2:Nat):Int):=by
 have h1:(BitVec.ofInt 64 (n:Int)).toNat=n:=ofInt_u64 n (by omega);have h2:(BitVec.ofInt 64 (1:Int)).toNat=1:=by decide
 show IntKind.i64.wrap ((BitVec.ofInt 64 (n:Int) &&& BitVec.ofInt 64 (1:Int)).toNat:Int)=_
 rw[BitVec.toNat_and,h1,h2,Nat.and_one_is_mod];simp [IntKind.wrap,IntKind.bits,IntKind.signed]
 omega
def qO (d:Sh.Dl) (hs:List Sh.Hn):Nat->Array Value
 | 0=>#[.int .i64 (-1),.int .i64 0,.string ⟨#[]⟩,.string ⟨#[]⟩]
 | i+1=>match hs[i]? with
  | some g=>rU d hs i g
  | none=>#[]
structure Wr (g:Nat) (w w':World):Prop where
 bl:Below g w w'
 size:w.heap.size<=w'.heap.size
 keep:∀b o,b≠g->w.heap[b]? = some o->w'.heap[b]? = some o
theorem Wr.of {g:Nat} {w w':World} (hg:g<=w.heap.size) (h:Below w.heap.size w w'):Wr g w w':=⟨h.mono hg,h.size,fun b o _ ho=>(h.block b (Array.getElem?_eq_some_iff.1 ho).1).trans ho⟩
theorem Wr.trans {g:Nat} {a b c:World} (h:Wr g a b) (k:Wr g b c):Wr g a c:=⟨h.bl.trans k.bl,Nat.le_trans h.size k.size,fun b o hb ho=>k.keep b o hb (h.keep b o hb ho)⟩
theorem Wr.set {g i:Nat} {w:World} (u:Value):Wr g w (w.setCell ⟨g,i,none⟩ u):=⟨(Below.refl g w).setCell (p:=⟨g,i,none⟩) (Nat.le_refl _) u,by rw[World.size_setCell];exact Nat.le_refl _,fun b o hb ho=>(Below.heap_setCell w ⟨g,i,none⟩ u b hb).trans ho⟩
theorem Wr.bx {g b:Nat} {t:TypeId} {cs:Array Value} {w w':World} (h:Wr g w w') (hb:b≠g) (hB:Bx w b t cs):Bx w' b t cs:=h.keep b _ hb hB
set_option maxHeartbeats 16000000 in
theorem Iq (jk:List Nat) (N:Option Addr) (nc:Nat) (K:Option Addr) (kc gL gk gn:Nat) (d:Sh.Dl) (hs:List Sh.Hn) (i:Nat) (h:Sh.Hn) (w:World) (BL:Bx w gL 106 (qO d hs i)) (Bk:Bx w gk 34 #[.slice K 8 kc]) (Bn:Bx w gn 23 #[.slice N 8 nc])
 (hK:At 1 h_ w gL K keysA) (hN:At 1 jo w gL N jk) (DJ:jk.length=8) (hkc:8<=kc) (hnc:8<=nc) (hnl:∀k∈jk,k<=1000000) (hi:hs[i]? = some h) (hm:yY d jk hs) (hgk:gk<gL) (hgn:gn<gL) (hR:Rnd w) (YP:0<gL) :
 Calls Tryz.prog 45 #[.agg (rU d hs i h),.pointer (some ⟨gL,0,none⟩),.pointer (some ⟨gk,0,none⟩),.pointer (some ⟨gn,0,none⟩)] w fun e w'=>e=.returned (.bool false)/\Wr gL w w'/\Bx w' gL 106 (rU d hs i h):=by
 have hlt:=(List.getElem?_eq_some_iff.1 hi).1;have ZT:=hm.fm.len.2;have hh:=hm.fm.hand i h hi;have hcl:=rY (i:=i) (hs:=hs) hm.fm.dl (hm.fm.hn h (List.mem_of_getElem? hi)) (by omega) hm.fm.hn;obtain ⟨c,hcn⟩:=Int.eq_ofNat_of_zero_le hh.1.1;have hc8:c<8:=by have:=hh.1.2;omega
 obtain⟨pk,ok,rfl,hpk,Lr⟩:=hK (by rw[cu];decide);obtain ⟨pn,VE,rfl,hpn,K_⟩:=hN (by omega);obtain ⟨kn,hkn⟩:∃kn,jk[c]? = some kn:=⟨_,List.getElem?_eq_getElem (by omega)⟩
 have k0:w.cell? ⟨pk,ok+c,none⟩=some (.string ⟨(key1 c).toArray⟩):=by
  have h9:=Lr c _ (lJ hc8) 0 _ rfl
  rwa [Nat.mul_one,Nat.add_zero]at h9
 have n0:w.cell? ⟨pn,VE+c,none⟩=some (.int .i64 (kn:Int)):=by
  have h9:=K_ c kn hkn 0 _ rfl
  rwa [Nat.mul_one,Nat.add_zero]at h9
 have hsl:=hm.sl i h hi
 unfold oq at hsl
 rw[hcn,Int.toNat_natCast]at hsl;have hh0:=hm.fm.dl
 obtain⟨bc,bl,bs,X8,hLC,hcase⟩:∃(bc bl:Int) (bs X8:ByteArray),qO d hs i=#[.int .i64 bc,.int .i64 bl,.string bs,.string X8]/\((bc= -1)∨(∃bN:Nat,bc=(bN:Int)/\bN<8/\h.l=if kn / 2 ^ bN % 2=1 then bl else min bl 1)):=by
  cases i with
  | zero=>exact⟨-1,0,⟨#[]⟩,⟨#[]⟩,rfl,.inl rfl⟩
  | succ j =>
   obtain⟨g,hg⟩:∃g,hs[j]? = some g:=⟨_,List.getElem?_eq_getElem (by omega)⟩
   have hgh:=hm.fm.hand j g hg;obtain ⟨bN,hbN⟩:=Int.eq_ofNat_of_zero_le hgh.1.1;refine ⟨g.c,g.l,⟨g.s.toArray⟩,⟨(Sh.cont d j g.c g.l (bf hs j)).toArray⟩,by simp only[qO,hg,rU],.inr ⟨bN,hbN,by have:=hgh.1.2;omega,?_⟩⟩;have h9:=hm.lv j g h hg hi;rw [hcn,Int.toNat_natCast,hbN,Int.toNat_natCast,List.getD_eq_getElem?_getD,hkn]at h9;exact h9
 rw[hLC]at BL;have hg0:gL<w.heap.size:=BL.lt
 unfold rU
 rw[hcn];rw [hcn]at hcl;generalize hct:Sh.cont d i (c:Int) h.l (bf hs i)=ct at *;have hS:=fun w0 hR0=>wW c h.l h.s ct (key1 c) w0 hcl (by rw[jM];omega) hR0
 rw[←hsl]at hS;have knl:kn<=1000000:=hnl kn (List.mem_of_getElem? hkn);clear Lr K_ hsl hct hcl hkn hnl hm hh hi hLC hcn DJ hh0;have hbn:=bY w (.cells #[.int .i64 (c:Int),.int .i64 h.l,.string ⟨h.s.toArray⟩,.string ⟨ct.toArray⟩] 106);have B4:=Bx.mk w 106 #[.int .i64 (c:Int),.int .i64 h.l,.string ⟨h.s.toArray⟩,.string ⟨ct.toArray⟩];replace BL:=BL.call hbn;obtain ⟨m0,m1,m2,m3⟩:=BL.p4
 go_enter Tryz.func45,Tryz.ntmps45
 go_upto_region 2 with fail;have yD:=bY (w.alloc (.cells #[.int .i64 (c:Int),.int .i64 h.l,.string ⟨h.s.toArray⟩,.string ⟨ct.toArray⟩] 106)) (.cells #[.int .i64 bc,.int .i64 bl,.string bs,.string X8] 106);have B6:=Bx.mk (w.alloc (.cells #[.int .i64 (c:Int),.int .i64 h.l,.string ⟨h.s.toArray⟩,.string ⟨ct.toArray⟩] 106)) 106 #[.int .i64 bc,.int .i64 bl,.string bs,.string X8];rw [World.size_alloc]at B6;replace B4:=B4.call yD;replace BL:=BL.call yD;have hb4:=ah hbn yD;clear m0 m1 m2 m3 hbn yD;generalize (w.alloc (.cells #[.int .i64 (c:Int),.int .i64 h.l,.string ⟨h.s.toArray⟩,.string ⟨ct.toArray⟩] 106)).alloc (.cells #[.int .i64 bc,.int .i64 bl,.string bs,.string X8] 106)=W4 at *;obtain ⟨b0,b1,b2,b3⟩:=B4.p4;obtain ⟨m0,m1,m2,m3⟩:=BL.p4;have f0:=BL.frozen 0;have f1:=BL.frozen 1;have f2:=BL.frozen 2;have f3:=BL.frozen 3;have hwr:Wr gL w ((((W4.setCell ⟨gL,0,none⟩ (.int .i64 (c:Int))).setCell ⟨gL,1,none⟩ (.int .i64 h.l)).setCell ⟨gL,2,none⟩ (.string ⟨h.s.toArray⟩)).setCell ⟨gL,3,none⟩ (.string ⟨ct.toArray⟩)):=((((Wr.of (Nat.le_of_lt hg0) hb4).trans (Wr.set _)).trans (Wr.set _)).trans (Wr.set _)).trans (Wr.set _);have B5:Bx ((((W4.setCell ⟨gL,0,none⟩ (.int .i64 (c:Int))).setCell ⟨gL,1,none⟩ (.int .i64 h.l)).setCell ⟨gL,2,none⟩ (.string ⟨h.s.toArray⟩)).setCell ⟨gL,3,none⟩ (.string ⟨ct.toArray⟩)) gL 106 #[.int .i64 (c:Int),.int .i64 h.l,.string ⟨h.s.toArray⟩,.string ⟨ct.toArray⟩]:=(((BL.set 0 (.int .i64 (c:Int))).set 1 (.int .i64 h.l)).set 2 (.string ⟨h.s.toArray⟩)).set 3 (.string ⟨ct.toArray⟩);have hk4:Wr gL W4 ((((W4.setCell ⟨gL,0,none⟩ (.int .i64 (c:Int))).setCell ⟨gL,1,none⟩ (.int .i64 h.l)).setCell ⟨gL,2,none⟩ (.string ⟨h.s.toArray⟩)).setCell ⟨gL,3,none⟩ (.string ⟨ct.toArray⟩)):=(((Wr.set _).trans (Wr.set _)).trans (Wr.set _)).trans (Wr.set _);replace B4:=hk4.bx (by omega) B4;replace B6:=hk4.bx (by omega) B6;replace Bk:=hwr.bx (by omega) Bk;replace Bn:=hwr.bx (by omega) Bn;have U9:Rnd ((((W4.setCell ⟨gL,0,none⟩ (.int .i64 (c:Int))).setCell ⟨gL,1,none⟩ (.int .i64 h.l)).setCell ⟨gL,2,none⟩ (.string ⟨h.s.toArray⟩)).setCell ⟨gL,3,none⟩ (.string ⟨ct.toArray⟩)):=hR.below2 hwr.bl YP;have Wj:=(hwr.bl.cell (p:=⟨pk,ok+c,none⟩) hpk).trans k0;have Wi:=(hwr.bl.cell (p:=⟨pn,VE+c,none⟩) hpn).trans n0;clear hk4 BL hb4 k0 n0 hR;go_upto_region 3 with fail;generalize (((W4.setCell ⟨gL,0,none⟩ (.int .i64 (c:Int))).setCell ⟨gL,1,none⟩ (.int .i64 h.l)).setCell ⟨gL,2,none⟩ (.string ⟨h.s.toArray⟩)).setCell ⟨gL,3,none⟩ (.string ⟨ct.toArray⟩)=W5 at *;clear b0 b1 b2 b3 f0 f1 f2 f3 m0 m1 m2 m3;have Zx:=hwr.size;have kE:=fun d os=>hS (Sort.grow (redrawn W5 d) os) (U9.below (below_regrown W5 d os))
 have r0:=fun d os=>(B4.again d os).cell 0 rfl
 have r1:=fun d os=>(B4.again d os).cell 1 rfl
 have r2:=fun d os=>(B4.again d os).cell 2 rfl
 have r3:=fun d os=>(B4.again d os).cell 3 rfl
 have rk:=fun d os=>(Bk.again d os).cell 0 rfl
 have rp:=fun d os=>((below_regrown W5 d os).cell (p:=⟨pk,ok+c,none⟩) (by show pk< _;omega)).trans Wj
 refine wp_region_quiet_below (by kernel_rfl) (by kernel_rfl) ?_
 repeat (go_big_quiet_step (first
  | (go_at_call 46;with_reducible exact Calls.regrown_of (kE _ _))))
 refine wpQuiet_nil ?_;rintro _ ⟨q,rfl⟩;have hb1:=below_regrown W5 q.d q.os;have hw6:=hwr.trans (Wr.of (Nat.le_trans (Nat.le_of_lt hg0) Zx) hb1);replace B5:=B5.call hb1;replace B4:=B4.call hb1;replace B6:=B6.call hb1;replace Bn:=Bn.call hb1;have ZG:=(hb1.cell (p:=⟨pn,VE+c,none⟩) (by show pn< _;omega)).trans Wi;generalize Sort.grow (redrawn W5 q.d) q.os=W6 at *;clear kE r0 r1 r2 r3 rk rp hb1 Wj Wi U9;have l0:=B6.cell 0 (v:=.int .i64 bc) rfl;have l1:=B6.cell 1 (v:=.int .i64 bl) rfl
 rcases hcase with rfl|⟨bN,rfl,hbN,hlv⟩
 · go_wp2_with fail;go_ret;exact ⟨rfl,hw6,B5⟩
 · have t0:decide ((bN:Int)<0)=false:=decide_eq_false (by omega);have TG:=Kp.mk hlv;clear hlv;go_upto_region 8 with fail;have s0:=fun d os=>(B6.again d os).cell 0 (v:=.int .i64 (bN:Int)) rfl
   have r0:=fun d os=>(B4.again d os).cell 0 (v:=.int .i64 (c:Int)) rfl
   have rn:=fun d os=>(Bn.again d os).cell 0 (v:=.slice (some ⟨pn,VE,none⟩) 8 nc) rfl
   have rp:=fun d os=>((below_regrown W6 d os).cell (p:=⟨pn,VE+c,none⟩) (by have:=hw6.size;show pn< _;omega)).trans ZG
   have hand:bits .and .i64 ((kn:Int) / 2 ^ bN) 1=((kn / 2 ^ bN % 2:Nat):Int):=by
    have h9:=Qm (kn / 2 ^ bN) (Nat.lt_of_le_of_lt (Nat.div_le_self _ _) (by omega));rw [←h9]
    congr 1
   have ways:((bits .and .i64 ((kn:Int) / 2 ^ bN) 1==0)=false/\Kp (h.l=bl))∨((bits .and .i64 ((kn:Int) / 2 ^ bN) 1==0)=true/\Kp (h.l=min bl 1)):=by
    rw[hand];by_cases h1:kn / 2 ^ bN % 2=1
    · exact .inl ⟨by rw[h1];rfl,⟨by rw[TG.out,if_pos h1]⟩⟩
    · exact .inr ⟨by rw[show kn / 2 ^ bN % 2=0 by omega];rfl,⟨by rw[TG.out,if_neg h1]⟩⟩
   clear hand TG;have hfin:∀W7:World,Below W6.heap.size W6 W7->Wr gL w W7/\Bx W7 gL 106 #[.int .i64 (c:Int),.int .i64 h.l,.string ⟨h.s.toArray⟩,.string ⟨ct.toArray⟩]:=fun W7 h7=>⟨hw6.trans (Wr.of (Nat.le_trans (Nat.le_of_lt hg0) hw6.size) h7),B5.call h7⟩
   rcases ways with ⟨t1,hl⟩|⟨t1,hl⟩
   all_goals
    refine wp_region_quiet_below (by kernel_rfl) (by kernel_rfl) ?_
    repeat (go_big_quiet_step (fail))
    refine wpQuiet_nil ?_;rintro _ ⟨q2,rfl⟩;have hb2:=below_regrown W6 q2.d q2.os;obtain ⟨hw7,B7⟩:=hfin _ hb2;have b1:=(B4.call hb2).cell 1 (v:=.int .i64 h.l) rfl;have hne:(h.l != bl)=false∨(h.l != min bl 1)=false:=by rw[hl.out];simp
    generalize Sort.grow (redrawn W6 q2.d) q2.os=W7 at *;clear s0 r0 rn rp hb2;go_wp2_with fail;go_ret;refine ⟨?_,hw7,B7⟩
    show Ending.returned (Value.bool (h.l != _))=_
    rw[hl.out];simp
attribute [local go_sem] Oper.semAt_some
theorem Wr.sc {g:Nat} {w X:World} (h:Wr g w X) {p:Addr} (hp:w.heap.size<=p.block) (hg:g<=w.heap.size) (u:Value):Wr g w (X.setCell p u) :=
 ⟨h.bl.trans ((Below.refl g X).setCell (by omega) u),by rw[World.size_setCell];exact h.size,fun b o hb ho=>(Below.heap_setCell X p u b (by have:=(Array.getElem?_eq_some_iff.1 ho).1;omega)).trans (h.keep b o hb ho)⟩
theorem Wr.put {g:Nat} {w X:World} (h:Wr g w X) {l:Nat} {o o':Obj} (hl:w.heap.size<=l) (hg:g<=w.heap.size) (ho:X.heap[l]? = some o):Wr g w (X.putObj l o') :=
 ⟨h.bl.trans (bF (by omega) ho),by simp;exact h.size,fun b o9 hb h9=>(World.putObj_heap_other (by have:=(Array.getElem?_eq_some_iff.1 h9).1;omega)).trans (h.keep b o9 hb h9)⟩
theorem Wr.dr {g:Nat} {w X:World} (h:Wr g w X):Wr g w X.drew:=⟨h.bl.drew,h.size,h.keep⟩
theorem Wr.fr {g B:Nat} {w X:World} (h:Wr g w X) (hB:g<B):Fr B w X:=⟨h.size,fun b o hb ho=>h.keep b o (by omega) ho⟩
theorem Wr.low {g B:Nat} {w X Y:World} (h:Wr g w X) (hb:Below B X Y) (hw:w.heap.size<=B) (hg:g<=B):Wr g w Y:=⟨h.bl.trans (hb.mono hg),Nat.le_trans h.size hb.size,fun b o h1 ho=>(hb.block b (by have:=(Array.getElem?_eq_some_iff.1 ho).1;omega)).trans (h.keep b o h1 ho)⟩
structure Qs (d:Sh.Dl) (hs:List Sh.Hn) (gL:Nat) (w:World) (fv:Value) (pre:List (Nat × Sh.Hn)) (X:World):Prop where
 bl:Wr gL w X
 b3:Bx X w.heap.size 112 #[fv]
 b4:Bx X (w.heap.size+1) 3 #[.int .i64 0]
 b5:Bx X (w.heap.size+1+1) 106 z4
 la:Bx X gL 106 (qO d hs pre.length)
variable {w:World} {fv:Value} {d:Sh.Dl} {hs:List Sh.Hn} {gL:Nat}
theorem Qs.grow (hg:gL<=w.heap.size):uU (Qs d hs gL w fv):=fun s X Y h hb=>⟨h.bl.trans (Wr.of (Nat.le_trans hg h.bl.size) hb),h.b3.call hb,h.b4.call hb,h.b5.call hb,h.la.call hb⟩
theorem Qs.put (hg:gL<=w.heap.size) {B:Nat} (hB:w.heap.size<=B):BI B (Qs d hs gL w fv):=fun s X l o o' h hl ho hc=>⟨h.bl.put (by omega) hg ho,dG h.b3 ho hc,dG h.b4 ho hc,dG h.b5 ho hc,dG h.la ho hc⟩
theorem Hu (jk:List Nat) (N:Option Addr) (nc:Nat) (K:Option Addr) (kc gL gk gn gB:Nat) (d:Sh.Dl) (hs:List Sh.Hn) (A:Option Addr) (cap:Nat) (w:World) (BL:Bx w gL 106 (qO d hs 0)) (Bk:Bx w gk 34 #[.slice K 8 kc]) (Bn:Bx w gn 23 #[.slice N 8 nc])
 (hK:At 1 h_ w gL K keysA) (hN:At 1 jo w gL N jk) (DJ:jk.length=8) (hkc:8<=kc) (hnc:8<=nc) (hnl:∀k∈jk,k<=1000000) (BA:Bx w gB 32 (dD d (.slice A hs.length cap))) (hA:At 3 dw w gL A hs) (hcap:hs.length<=cap) (hm:yY d jk hs) (hgk:gk<gL) (hgn:gn<gL) (hgB:gB≠gL) (hR:Rnd w) (YP:0<gL) :
 Calls Tryz.prog 35 #[.func (.func 81) #[] #[.pointer (some ⟨gB,0,none⟩)],.func (.func 45) #[] #[.pointer (some ⟨gL,0,none⟩),.pointer (some ⟨gk,0,none⟩),.pointer (some ⟨gn,0,none⟩)]] w
  fun e w'=>e=.returned (.tuple #[.int .i64 (-1),.agg z4])/\Wr gL w w':=by
 have hf:=hm.fm;have ZT:=hf.len.2;have hdl:=hf.dl;have hhn:=hf.hn;have yC:=BL.lt;have NZ:∀X,Wr gL w X->Bx X gB 32 (dD d (.slice A hs.length cap))/\At 3 dw X X.heap.size A hs:=fun X hX=>⟨hX.bx hgB BA,(hA.below hX.bl).more (by have:=hX.size;omega)⟩
 have jH:=fun (i:Nat) (h:Sh.Hn) (hi:hs[i]? = some h) X (hX:Wr gL w X) (hL:Bx X gL 106 (qO d hs i))=>Iq jk N nc K kc gL gk gn d hs i h X hL (hX.bx (by omega) Bk) (hX.bx (by omega) Bn) (hK.below hX.bl) (hN.below hX.bl) DJ hkc hnc hnl hi hm hgk hgn (hR.below2 hX.bl YP) YP
 have hbW:=bNew (bNew (bY w (.cells #[.func (.func 45) #[] #[.pointer (some ⟨gL,0,none⟩),.pointer (some ⟨gk,0,none⟩),.pointer (some ⟨gn,0,none⟩)]] 112)) (.cells #[.int .i64 0] 3)) (.cells z4 106);have B3:=((Bx.mk w 112 #[.func (.func 45) #[] #[.pointer (some ⟨gL,0,none⟩),.pointer (some ⟨gk,0,none⟩),.pointer (some ⟨gn,0,none⟩)]]).new (.cells #[.int .i64 0] 3)).new (.cells z4 106);have B4:=(Bx.mk (w.alloc (.cells #[.func (.func 45) #[] #[.pointer (some ⟨gL,0,none⟩),.pointer (some ⟨gk,0,none⟩),.pointer (some ⟨gn,0,none⟩)]] 112)) 3 #[.int .i64 0]).new (.cells z4 106);have B5:=Bx.mk ((w.alloc (.cells #[.func (.func 45) #[] #[.pointer (some ⟨gL,0,none⟩),.pointer (some ⟨gk,0,none⟩),.pointer (some ⟨gn,0,none⟩)]] 112)).alloc (.cells #[.int .i64 0] 3)) 106 z4;simp only[World.size_alloc]at B4 B5;have hseq:=wY 3 (by decide) d hs A cap gB hdl hhn (by omega) hcap;refine (callsIn_wide (n:=4)).1 ?_;refine callsIn_of_wp_marks Tryz.func35 rfl trivial ?_ rfl;simp only[Tryz.ntmps35,List.size_toArray,List.length_cons,List.length_nil,Nat.reduceAdd,Nat.reduceSub,Array.replicate_succ,Array.replicate_zero,List.push_toArray,List.append_toArray,List.nil_append,List.cons_append];refine wpIn_wide.2 ?_
 unfold z4 at *
 go_wp2_with fail;generalize ((w.alloc (.cells #[.func (.func 45) #[] #[.pointer (some ⟨gL,0,none⟩),.pointer (some ⟨gk,0,none⟩),.pointer (some ⟨gn,0,none⟩)]] 112)).alloc (.cells #[.int .i64 0] 3)).alloc (.cells #[.int .i64 0,.int .i64 0,.string ⟨#[]⟩,.string ⟨#[]⟩] 106)=W3 at *;have hw3:=hbW.size;have l5:=B5.lt;have hz:Qs d hs gL w (.func (.func 45) #[] #[.pointer (some ⟨gL,0,none⟩),.pointer (some ⟨gk,0,none⟩),.pointer (some ⟨gn,0,none⟩)]) [] W3:=⟨Wr.of (Nat.le_of_lt yC) hbW,B3,B4,B5,BL.call hbW⟩
 clear B3 B4 B5 hK hA hR Bk Bn BL BA hN;refine (wpIn_wide (n:=4)).1 ?_
 refine nH (by decide) (gf:=81) (lb:=#[.pointer (some ⟨gB,0,none⟩)]) rfl (enters_of Tryz.func81 (by kernel_rfl) rfl) hseq (fun X hX=>NZ X (Wr.of (Nat.le_of_lt yC) (ah hbW hX))) (fun _=>rfl)
  (Qs d hs gL w (.func (.func 45) #[] #[.pointer (some ⟨gL,0,none⟩),.pointer (some ⟨gk,0,none⟩),.pointer (some ⟨gn,0,none⟩)])) (fun _ _ _=>False) (Qs.grow (Nat.le_of_lt yC)) (Qs.put (Nat.le_of_lt yC) (by omega)) (fun _ _ _ _ h _=>h) (fun _ _ _ _ _ _ h _ _ _=>h) (fun s X h=>NZ X h.bl) (fun _ _ _=>trivial) hz 6 7 (fun x=>.int .i64 x.1) 106 (fun x=>rU d hs x.1 x.2) ?assign ?body ?done ?stop
 case assign =>
  rintro lp ⟨k,h⟩ W K hK;simp only[hdE,rU,iy]at hK ⊢
  gi_wp2
  have hk9:=hK _ _ (bY W _) (Bx.mk W _ _);simp only[List.setIfInBounds_toArray,List.set_cons_succ,List.set_cons_zero]at hk9;exact hk9
 case body =>
  rintro lp pre ⟨k,h⟩ gb W hI HB ⟨hk,hgo⟩;dsimp only at hk hgo HB;subst hk;simp only[hdE,iy,List.setIfInBounds_toArray,List.set_cons_succ,List.set_cons_zero];have hC:=jH pre.length h hgo W hI.bl hI.la
  have hnx:qO d hs (pre++[(pre.length,h)]).length=rU d hs pre.length h:=by
   rw[List.length_append,List.length_singleton];simp only[qO,hgo]
  have Wu:=Kp.mk hnx
  unfold rU at HB hC Wu ⊢
  have c3:=hI.b3.cell 0 rfl;have h0:=HB.cell 0 (v:=.int .i64 h.c) rfl;have h1:=HB.cell 1 (v:=.int .i64 h.l) rfl;have h2:=HB.cell 2 (v:=.string ⟨h.s.toArray⟩) rfl;have h3:=HB.cell 3 rfl;generalize Sh.cont d pre.length h.c h.l (bf hs pre.length)=ct at *;clear jH NZ hnx
  gi_wp2_with fail
  refine⟨trivial,((callsIn_wide.2 hC).inRound _).mono ?_⟩;rintro _ W5 ⟨rfl,hw5,BL5⟩;have Xx:Qs d hs gL w (.func (.func 45) #[] #[.pointer (some ⟨gL,0,none⟩),.pointer (some ⟨gk,0,none⟩),.pointer (some ⟨gn,0,none⟩)]) (pre++[(pre.length,h)]) W5:=⟨hI.bl.trans hw5,hw5.bx (by omega) hI.b3,hw5.bx (by omega) hI.b4,hw5.bx (by omega) hI.b5,by rw[Wu.out];exact BL5⟩
  clear h0 h1 h2 h3 c3 hC HB hI
  gi_wp2_with fail
  exact⟨hw5.fr (by omega),Xx⟩
 case done =>
  rintro D xs W hD hlen hI hk;obtain ⟨bl,b3,b4,b5,la⟩:=hI;have hlt:=(Array.getElem?_eq_some_iff.1 hk).1;have hbn:=bY W (.cells #[.int .i64 0,.int .i64 0,.string ⟨#[]⟩,.string ⟨#[]⟩] 106);have BZ:=Bx.mk W 106 #[.int .i64 0,.int .i64 0,.string ⟨#[]⟩,.string ⟨#[]⟩];have hkn:=(hbn.block _ hlt).trans hk;have hsw:=bl.size;replace bl:=bl.trans (Wr.of (by omega) hbn);replace b4:=b4.call hbn;replace b5:=b5.call hbn;have hsz:=hbn.size;have hgl:w.heap.size+1+1<W.heap.size:=by omega
  obtain⟨WA,Xq⟩:∃WA,Kp (W.alloc (.cells #[.int .i64 0,.int .i64 0,.string ⟨#[]⟩,.string ⟨#[]⟩] 106)=WA):=⟨_,⟨rfl⟩⟩
  rw[Xq.out]at BZ hkn bl b4 b5;clear hbn hsz b3 la hseq hz NZ jH;have hbl:=(((((bl.sc (p:=⟨w.heap.size+1,0,none⟩) (by dsimp only;omega) (Nat.le_of_lt yC) (.int .i64 (-1))).sc (p:=⟨w.heap.size+1+1,0,none⟩) (by dsimp only;omega) (Nat.le_of_lt yC) (.int .i64 0)).sc (p:=⟨w.heap.size+1+1,1,none⟩) (by dsimp only;omega) (Nat.le_of_lt yC) (.int .i64 0)).sc (p:=⟨w.heap.size+1+1,2,none⟩) (by dsimp only;omega) (Nat.le_of_lt yC) (.string ⟨#[]⟩)).sc (p:=⟨w.heap.size+1+1,3,none⟩) (by dsimp only;omega) (Nat.le_of_lt yC) (.string ⟨#[]⟩)).dr;have h4':=Bx.dr (Bx.far (Bx.far (Bx.far (Bx.far (b4.set 0 (.int .i64 (-1))) (p:=⟨w.heap.size+1+1,0,none⟩) (by dsimp only;omega) (.int .i64 0)) (p:=⟨w.heap.size+1+1,1,none⟩) (by dsimp only;omega) (.int .i64 0)) (p:=⟨w.heap.size+1+1,2,none⟩) (by dsimp only;omega) (.string ⟨#[]⟩)) (p:=⟨w.heap.size+1+1,3,none⟩) (by dsimp only;omega) (.string ⟨#[]⟩));have h5':=Bx.dr ((((((b5.far (p:=⟨w.heap.size+1,0,none⟩) (by dsimp only;omega) (.int .i64 (-1))).set 0 (.int .i64 0)).set 1 (.int .i64 0)).set 2 (.string ⟨#[]⟩)).set 3 (.string ⟨#[]⟩)));have hkd:=(Below.heap_setCell _ ⟨w.heap.size+1+1,3,none⟩ (.string ⟨#[]⟩) D (by dsimp only;omega)).trans ((Below.heap_setCell _ ⟨w.heap.size+1+1,2,none⟩ (.string ⟨#[]⟩) D (by dsimp only;omega)).trans ((Below.heap_setCell _ ⟨w.heap.size+1+1,1,none⟩ (.int .i64 0) D (by dsimp only;omega)).trans ((Below.heap_setCell _ ⟨w.heap.size+1+1,0,none⟩ (.int .i64 0) D (by dsimp only;omega)).trans ((Below.heap_setCell WA ⟨w.heap.size+1,0,none⟩ (.int .i64 (-1)) D (by dsimp only;omega)).trans hkn))));have hne:W.heap.size≠w.heap.size+1:=by omega
  obtain⟨z0,z1,z2,z3⟩:=BZ.p4;have ZS:=BZ.far (p:=⟨w.heap.size+1,0,none⟩) hne (.int .i64 (-1));obtain ⟨y0,y1,y2,y3⟩:=ZS.p4;have e4:=b4.cell 0 rfl;have f4:=b4.frozen 0;obtain ⟨e50,e51,e52,e53⟩:=b5.p4;have f50:=fun i=>b5.frozen i
  go_upto_region 7 with fail;rw [Xq.out]
  go_region
  all_goals (
   go_wp2
   try simp only[yK]
   have Hg:=(Marks.nil W3.heap.size W3.heap.size _).push hD (Nat.le_refl _) (EY hkd)
   refine Hg.leave fun W' hb' hB'=>⟨_,nT rfl _ _ rfl rfl (hB' _ _ _ h4') (hB' _ _ _ h5'),rfl,hbl.low hb' (by omega) (by omega)⟩)
 case stop =>
  rintro D cd pre W hD h hk;exact h.elim
theorem X_ {w:World} {B:Nat} {A:Option Addr} {l:List Nat} (h:At 1 jo w B A l):At 1 uV w B A (l.map fun (n:Nat)=>(n:Int)):=fun h0=>by
 obtain⟨p,off,e,hp,hc⟩:=h (by simpa using h0);refine ⟨p,off,e,hp,fun i c hi j u hj=>?_⟩;rw [List.getElem?_map]at hi
 cases hx:l[i]? with
 | none=>rw[hx]at hi;cases hi
 | some n =>
  rw[hx]at hi;cases hi
  exact hc i n hx j u hj
set_option maxHeartbeats 16000000 in
theorem NC (jk:List Nat) (N:Option Addr) (nc:Nat) (K:Option Addr) (kc:Nat) (d:Sh.Dl) (hs:List Sh.Hn) (A:Option Addr) (cap:Nat) (w:World)
 (hK:At 1 h_ w w.heap.size K keysA) (hN:At 1 jo w w.heap.size N jk) (DJ:jk.length=8) (hkc:8<=kc) (hnc:8<=nc) (hnl:∀k∈jk,k<=255) (hA:At 3 dw w w.heap.size A hs) (hcap:hs.length<=cap) (hm:yY d jk hs) (hR:Rnd w) :
 bP 12 #[.slice K 8 kc,.slice N 8 nc,.agg (dD d (.slice A hs.length cap))] w (.tuple #[.int .i64 (-1),.int .i64 0]):=by
 have G7:∀k∈keysA,k.length=32:=fun k hk=>by
  obtain⟨i,hi⟩:=List.getElem?_of_mem hk;have hl:=(List.getElem?_eq_some_iff.1 hi).1;rw [cu]at hl;rw [lJ hl]at hi;cases hi
  exact jM i
 have hF:=fun w0 (hb0:Below w.heap.size w w0)=>xg d hs A cap w0 (hA.aU hb0) hcap hm.fm
 have hKn:=fun w0 (hb0:Below w.heap.size w w0)=>qQ keysA K kc w0 (hK.aU hb0) cu hkc (fun k hk=>.inl (G7 k hk))
 have L_:=fun w0 (hb0:Below w.heap.size w w0)=>Qc keysA K kc w0 (hK.aU hb0) (by rw[cu];exact hkc) (by rw[cu];decide) G7
 have hCs:=fun w0 (hb0:Below w.heap.size w w0)=>Qb (jk.map fun (n:Nat)=>(n:Int)) N nc w0 (X_ (hN.aU hb0)) (by rw[List.length_map];omega) (by rw[List.length_map];omega) (fun x hx=>by
  obtain⟨n,hn,rfl⟩:=List.mem_map.1 hx;have:=hnl n hn
  omega)
 rw[cu]at L_;rw [List.length_map,DJ]at hCs;have hHd:=fun w0=>Af 4 d (.slice A hs.length cap) w0 ⟨_,_,_,rfl⟩
 have hb:=bNew (bNew (bY w (.cells #[.slice K 8 kc] 34)) (.cells #[.slice N 8 nc] 23)) (.cells (dD d (.slice A hs.length cap)) 32);have BK:=((Bx.mk w 34 #[.slice K 8 kc]).new (.cells #[.slice N 8 nc] 23)).new (.cells (dD d (.slice A hs.length cap)) 32);have BN:=(Bx.mk (w.alloc (.cells #[.slice K 8 kc] 34)) 23 #[.slice N 8 nc]).new (.cells (dD d (.slice A hs.length cap)) 32);have BA:=Bx.mk ((w.alloc (.cells #[.slice K 8 kc] 34)).alloc (.cells #[.slice N 8 nc] 23)) 32 (dD d (.slice A hs.length cap));simp only[World.size_alloc]at BN BA;have hmK:=Kp.mk hm;have hfirst:=fun gL gB w0 (hw0:Below w.heap.size w w0) (hgL:w.heap.size+1+1<gL) BL Bk Bn BB (hKa:At 1 h_ w0 gL K keysA) (IK:At 1 jo w0 gL N jk) (Vf:At 3 dw w0 gL A hs) hgB=>Hu jk N nc K kc gL w.heap.size (w.heap.size+1) gB d hs A cap w0 BL Bk Bn hKa IK DJ hkc hnc (fun k hk=>Nat.le_trans (hnl k hk) (by decide)) BB Vf hcap hmK.out (by omega) (by omega) hgB (hR.below hw0) (by have:=hR.lt;omega)
 have hAt:∀w0,Below w.heap.size w w0->At 1 h_ w0 w0.heap.size K keysA/\At 1 jo w0 w0.heap.size N jk/\At 3 dw w0 w0.heap.size A hs:=fun w0 h0=>⟨hK.aU h0,hN.aU h0,hA.aU h0⟩
 unfold dD at *
 clear hK hN hA hm G7 hnl;have hF1:=hF _ hb;have a0:=BA.cell 0 (v:=.int .i64 d.r) rfl;have a1:=BA.cell 1 (v:=.int .i64 d.d) rfl;have a2:=BA.cell 2 (v:=.int .i64 d.t) rfl;have a3:=BA.cell 3 (v:=.int .i64 d.n) rfl;have a4:=BA.cell 4 (v:=.slice A hs.length cap) rfl
 go_enter Tryz.func12,Tryz.ntmps12
 go_wp2_with fail;refine hF1.mono ?_;rintro _ w1 ⟨rfl,hb1⟩;replace hb:=ah hb hb1;replace BK:=BK.call hb1;replace BN:=BN.call hb1;replace BA:=BA.call hb1;have k0:=BK.cell 0 rfl;have hK1:=hKn _ hb;clear hF1 hF hKn a0 a1 a2 a3 a4 hb1;go_wp2_with fail;refine hK1.mono ?_;rintro _ w2 ⟨rfl,hb1⟩;replace hb:=ah hb hb1;replace BK:=BK.call hb1;replace BN:=BN.call hb1;replace BA:=BA.call hb1;have k0:=BK.cell 0 rfl;have hK1:=L_ _ hb;clear L_ hb1;go_wp2_with fail;refine hK1.mono ?_;rintro _ w3 ⟨rfl,hb1⟩;replace hb:=ah hb hb1;replace BK:=BK.call hb1;replace BN:=BN.call hb1;replace BA:=BA.call hb1;have n0:=BN.cell 0 rfl;have hK1:=hCs _ hb;clear hCs hb1 k0;go_wp2_with fail;refine hK1.mono ?_;rintro _ w4 ⟨rfl,hb1⟩;replace hb:=ah hb hb1;replace BK:=BK.call hb1;replace BN:=BN.call hb1;replace BA:=BA.call hb1;clear hb1 n0 hK1;have hgs:w.heap.size+1+1<w4.heap.size:=BA.lt;obtain ⟨hKa,IK,Vf⟩:=hAt w4 hb;have hbn:=bY w4 (.cells #[.int .i64 (-1),.int .i64 0,.string ⟨#[]⟩,.string ⟨#[]⟩] 106);have BL:=Bx.mk w4 106 #[.int .i64 (-1),.int .i64 0,.string ⟨#[]⟩,.string ⟨#[]⟩];replace hb:=ah hb hbn;replace BK:=BK.call hbn;replace BN:=BN.call hbn;replace BA:=BA.call hbn;replace hKa:=hKa.below hbn;replace IK:=IK.below hbn;replace Vf:=Vf.below hbn;have a0:=BA.cell 0 (v:=.int .i64 d.r) rfl;have a1:=BA.cell 1 (v:=.int .i64 d.d) rfl;have a2:=BA.cell 2 (v:=.int .i64 d.t) rfl;have a3:=BA.cell 3 (v:=.int .i64 d.n) rfl;have a4:=BA.cell 4 (v:=.slice A hs.length cap) rfl;clear hbn hAt;go_upto_region 6 with fail;generalize hw5:w4.alloc (.cells #[.int .i64 (-1),.int .i64 0,.string ⟨#[]⟩,.string ⟨#[]⟩] 106)=w5 at *;have hs5:w5.heap.size=w4.heap.size+1:=by rw[←hw5,World.size_alloc]
 clear hw5;go_wp2_with fail;refine ((callsIn_wide (n:=4)).1 (hHd _)).mono ?_;rintro _ _ ⟨rfl,rfl⟩;have hbn:=bY w5 (.cells #[.int .i64 d.r,.int .i64 d.d,.int .i64 d.t,.int .i64 d.n,.slice A hs.length cap] 32);have BB:=Bx.mk w5 32 #[.int .i64 d.r,.int .i64 d.d,.int .i64 d.t,.int .i64 d.n,.slice A hs.length cap];have hbl:=hbn.mono (show w4.heap.size<=w5.heap.size by omega);replace hb:=ah hb hbn;have Rj:=hfirst w4.heap.size w5.heap.size _ hb hgs (BL.call hbn) (BK.call hbn) (BN.call hbn) BB (hKa.below hbl) (IK.below hbl) (Vf.below hbl) (by omega);clear a0 a1 a2 a3 a4 hHd hfirst BK BN BA BL BB hbn hbl hKa IK Vf;have hwl:w.heap.size<=w4.heap.size:=by omega
 unfold z4 at Rj
 rw[hs5]at Rj;go_wp2_with fail;refine Rj.mono ?_;rintro _ w7 ⟨rfl,hW⟩;replace hb:=hb.trans (hW.bl.mono hwl);have hbn:=bY w7 (.cells #[.int .i64 0,.int .i64 0,.string ⟨#[]⟩,.string ⟨#[]⟩] 106);replace hb:=ah hb hbn;clear Rj hW hbn;go_wp2_with fail
 go_ret2
 exact⟨rfl,hb⟩
theorem GX (fv:Value) (w:World):bP 75 #[.slice none 0 0,fv] w (.int .i64 (-1)):=by
 go_enter Tryz.func75,Tryz.ntmps75
 have hb0:=aP w;go_wp2_with fail
 go_loopw [8] (fun s8 wr=>s8=.int .i64 0/\Below w.heap.size w wr) (fun s8 _=>0)
 case atStart=>exact⟨rfl,hb0⟩
 case round =>
  clear hb0;obtain ⟨rfl,hb⟩:=hrel;go_wp2;go_ret;exact ⟨rfl,hb⟩
theorem xw (fv:Value) (w:World):bP 29 #[.slice none 0 0,fv] w (.bool false):=by
 have hI:=GX fv w
 go_enter Tryz.func29,Tryz.ntmps29
 go_wp2_with fail;refine hI.mono ?_;rintro _ w1 ⟨rfl,hb1⟩;clear hI;go_wp2;go_ret;exact ⟨rfl,hb1⟩
theorem GZ (fv:Value) (w:World):bP 182 #[.slice none 0 0,fv] w (.int .i64 (-1)):=by
 go_enter Tryz.func182,Tryz.ntmps182
 have hb0:=aP w;go_wp2_with fail
 go_loopw [8] (fun s8 wr=>s8=.int .i64 0/\Below w.heap.size w wr) (fun s8 _=>0)
 case atStart=>exact⟨rfl,hb0⟩
 case round =>
  clear hb0;obtain ⟨rfl,hb⟩:=hrel;go_wp2;go_ret;exact ⟨rfl,hb⟩
theorem Ib (fv:Value) (w:World):bP 128 #[.slice none 0 0,fv] w (.bool false):=by
 have hI:=GZ fv w
 go_enter Tryz.func128,Tryz.ntmps128
 go_wp2_with fail;refine hI.mono ?_;rintro _ w1 ⟨rfl,hb1⟩;clear hI;go_wp2;go_ret;exact ⟨rfl,hb1⟩
theorem KO (fv:Value) (w:World):bP 184 #[.slice none 0 0,fv] w (.int .i64 (-1)):=by
 go_enter Tryz.func184,Tryz.ntmps184
 have hb0:=aP w;go_wp2_with fail
 go_loopw [8] (fun s8 wr=>s8=.int .i64 0/\Below w.heap.size w wr) (fun s8 _=>0)
 case atStart=>exact⟨rfl,hb0⟩
 case round =>
  clear hb0;obtain ⟨rfl,hb⟩:=hrel;go_wp2;go_ret;exact ⟨rfl,hb⟩
theorem MZ (fv:Value) (w:World):bP 134 #[.slice none 0 0,fv] w (.bool false):=by
 have hI:=KO fv w
 go_enter Tryz.func134,Tryz.ntmps134
 go_wp2_with fail;refine hI.mono ?_;rintro _ w1 ⟨rfl,hb1⟩;clear hI;go_wp2;go_ret;exact ⟨rfl,hb1⟩
theorem GY (fv:Value) (w:World):bP 185 #[.slice none 0 0,fv] w (.int .i64 (-1)):=by
 go_enter Tryz.func185,Tryz.ntmps185
 have hb0:=aP w;go_wp2_with fail
 go_loopw [8] (fun s8 wr=>s8=.int .i64 0/\Below w.heap.size w wr) (fun s8 _=>0)
 case atStart=>exact⟨rfl,hb0⟩
 case round =>
  clear hb0;obtain ⟨rfl,hb⟩:=hrel;go_wp2;go_ret;exact ⟨rfl,hb⟩
theorem Ia (fv:Value) (w:World):bP 136 #[.slice none 0 0,fv] w (.bool false):=by
 have hI:=GY fv w
 go_enter Tryz.func136,Tryz.ntmps136
 go_wp2_with fail;refine hI.mono ?_;rintro _ w1 ⟨rfl,hb1⟩;clear hI;go_wp2;go_ret;exact ⟨rfl,hb1⟩
theorem fF (a b c:Int) (w:World):bP 28 #[.int .i64 a,.int .i64 b,.int .i64 c] w (.bool (decide (b<=a)&&decide (a<=c))):=by
 have hb:=aP w;by_cases h1:b<=a <;> by_cases h2:a<=c
 all_goals
  go_enter Tryz.func28,Tryz.ntmps28
  go_wp2;go_ret;exact ⟨by simp_all,hb⟩
theorem FZ (w:World):bP 77 #[.agg #[.slice none 0 0,.slice none 0 0,.slice none 0 0]] w (.bool true):=by
 have hb:=bY w (.cells #[.slice none 0 0,.slice none 0 0,.slice none 0 0] 62);have BR:=Bx.mk w 62 #[.slice none 0 0,.slice none 0 0,.slice none 0 0];obtain ⟨c0,c1,c2⟩:=BR.p3
 go_enter Tryz.func77,Tryz.ntmps77
 go_wp2_with fail;refine (Ib _ _).mono ?_;rintro _ w1 ⟨rfl,hb1⟩;replace hb:=ah hb hb1;replace BR:=BR.call hb1;clear c0 c1 c2 hb1;have c1:=BR.cell 1 rfl;go_wp2_with fail;refine (MZ _ _).mono ?_;rintro _ w2 ⟨rfl,hb1⟩;replace hb:=ah hb hb1;replace BR:=BR.call hb1;clear c1 hb1;have c2:=BR.cell 2 rfl;go_wp2_with fail;refine (Ia _ _).mono ?_;rintro _ w3 ⟨rfl,hb1⟩;replace hb:=ah hb hb1;clear c2 hb1;go_wp2;go_ret;exact ⟨rfl,hb⟩
end Go.Proofs.YtohgjenaclfegaaGreatDoor

import Derived.Test.YtohgjenaclfegaaGreatDoorQI00
import Derived.Test.YtohgjenaclfegaaGreatDoorQK02
import Derived.RangeFuncBox
import Derived.RangeFuncLeaves
import Derived.Shelf.Abstract
import Derived.OwnWalkIn
import Derived.TacticsInMore
import Derived.LoopNIn
import Derived.LoopIn
import Derived.RangeFuncFrom
import Derived.RangeFuncWrites
import Derived.Lib.Builder
import Derived.Lib.AppendStr
import Derived.Lib.UnsafeStr
import Derived.Lib.OthersKept
import Derived.Shelf.RegionOpenPlain
set_option linter.unusedVariables false
set_option linter.unusedSimpArgs false
set_option maxRecDepth 100000
set_option maxHeartbeats 8000000
namespace Go.Proofs.YtohgjenaclfegaaGreatDoor
open Go.RowKit
theorem pR (a:Nat) {n:Nat} (h:(Ig.grp a).length<=n):Ig.bU (Ig.dn (Ig.grp a)) n=a:=by rw[Ig.AU h,Ig.bZ]
theorem qB {W:World} {A:Option Addr} {out:List Int} {cap a:Nat} (hA:At 1 aV W W.heap.size A out) (hc:out.length<=cap) (hm:cap<=maxLen) (h:Kp (Ig.bg out=Ig.grp a)):aA W a (.slice A (Ig.bg out).length cap):=by
 refine⟨A,cap,by rw[h.out],?_,?_,hm⟩
 · rw[←h.out,←mG];exact hA.take _
 · rw[←h.out,←mG,List.length_take];omega
theorem oQ (a b:Nat) (v1 v2:Value) (w:World) (h1:aA w a v1) (h2:aA w b v2) (la:(Ig.grp a).length<=90000) (lb:(Ig.grp b).length<=90000) :
 Calls Tryz.prog 226 #[v1,v2] w fun e w'=>∃v,e=.returned v/\aA w' (a+b) v/\Below w.heap.size w w':=by
 obtain⟨A1,c1,rfl,hA1,hn1,hm1⟩:=h1.out;obtain ⟨A2,c2,rfl,hA2,hn2,hm2⟩:=h2.out;obtain ⟨n,hn⟩:=exK (max (Ig.grp a).length (Ig.grp b).length);have hmx:(max (((Ig.grp a).length:Nat):Int) (((Ig.grp b).length:Nat):Int))=(n:Int):=by rw[←hn.out];omega
 have kT:n<=90000:=by rw[←hn.out];omega
 have hna:(Ig.grp a).length<=n:=by rw[←hn.out];omega
 have hnb:(Ig.grp b).length<=n:=by rw[←hn.out];omega
 have hsum:Ig.bU (fun i=>Ig.dn (Ig.grp a) i+Ig.dn (Ig.grp b) i) n=((a+b:Nat):Int):=by rw[Ig.AV,pR a hna,pR b hnb];omega
 have ga:=Ig.dB a;have gb:=Ig.dB b;generalize hla:Ig.grp a=l at *;generalize hlb:Ig.grp b=m at *;clear hla hlb h1 h2 hn;have W1:=aG w (.cells #[.slice A1 l.length c1] 297);have W2:=bNew W1 (.cells #[.slice A2 m.length c2] 297);have B1:=(Bx.mk w 297 #[.slice A1 l.length c1]).new (.cells #[.slice A2 m.length c2] 297);have B2:=Bx.mk (w.alloc (.cells #[.slice A1 l.length c1] 297)) 297 #[.slice A2 m.length c2];rw [aj]at B2;have k1:=B1.cell 0 rfl;have k2:=B2.cell 0 rfl;have tw:Two (w.heap.size+2) _ w.heap.size (w.heap.size+1) l m:=⟨⟨A1,c1,A2,c2,B1,B2,(hA1.below W2).more (by omega),(hA2.below W2).more (by omega),hn1,hn2⟩,by omega,by omega,by rw[aj,aj];omega⟩
 have hf:=yG n (fun i=>Ig.dn l i+Ig.dn m i) w.heap.size (w.heap.size+1) (fun W=>Two (w.heap.size+2) W w.heap.size (w.heap.size+1) l m) ((w.alloc (.cells #[.slice A1 l.length c1] 297)).alloc (.cells #[.slice A2 m.length c2] 297))
  (fun W W' hW hb=>hW.call (by rw[aj,aj]at hb;exact hb)) (fun W i hW hi=>Dn (w.heap.size+2) l m w.heap.size (w.heap.size+1) i W hW (by omega) (by omega) ga gb hi)
  (fun i=>by have:=Ig.fP ga i;have:=Ig.fP gb i;omega) (fun i hi=>by rw[Ig.ji (by omega),Ig.ji (by omega)];rfl) (by rw[hsum];omega) (by omega) tw
 rw[hsum,Int.toNat_natCast]at hf;clear tw B1 B2 hsum ga gb hA1 hA2
 go_enter Tryz.func226,Tryz.ntmps226
 go_wp2_with fail;refine hf.mono ?_;rintro _ w3 ⟨A3,out,cap3,rfl,hA3,hc3,Wx,ho3,ht3,hb3⟩;clear hf;go_wp2_with fail;refine (fU out A3 cap3 _ hA3 hc3 (by omega)).mono ?_;rintro _ _ ⟨rfl,rfl⟩;go_wp2;go_ret;exact ⟨_,rfl,qB hA3 hc3 Wx ht3,ah W2 hb3⟩
theorem MC {a b:Nat} (h:b<=a):(Ig.grp b).length<=(Ig.grp a).length:=by
 rcases Nat.lt_or_ge (Ig.grp a).length (Ig.grp b).length with h1|h1
 · have:=Ig.iM h1;omega
 · exact h1
theorem mX (a b:Nat) (v1 v2:Value) (w:World) (h1:aA w a v1) (h2:aA w b v2) (hba:b<=a) (la:(Ig.grp a).length<=90000) :
 Calls Tryz.prog 228 #[v1,v2] w fun e w'=>∃v,e=.returned v/\aA w' (a-b) v/\Below w.heap.size w w':=by
 obtain⟨A1,c1,rfl,hA1,hn1,hm1⟩:=h1.out;obtain ⟨A2,c2,rfl,hA2,hn2,hm2⟩:=h2.out;have hlb:=MC hba;have hsum:Ig.bU (fun i=>Ig.dn (Ig.grp a) i-Ig.dn (Ig.grp b) i) (Ig.grp a).length=((a-b:Nat):Int):=by rw[Ig.AO,pR a (Nat.le_refl _),pR b hlb];omega
 have ga:=Ig.dB a;have gb:=Ig.dB b;generalize hla:Ig.grp a=l at *;generalize ZR:Ig.grp b=m at *;clear hla ZR h1 h2;have W1:=aG w (.cells #[.slice A1 l.length c1] 297);have W2:=bNew W1 (.cells #[.slice A2 m.length c2] 297);have B1:=(Bx.mk w 297 #[.slice A1 l.length c1]).new (.cells #[.slice A2 m.length c2] 297);have B2:=Bx.mk (w.alloc (.cells #[.slice A1 l.length c1] 297)) 297 #[.slice A2 m.length c2];rw [aj]at B2;have k1:=B1.cell 0 rfl;have k2:=B2.cell 0 rfl;have tw:Two (w.heap.size+2) _ w.heap.size (w.heap.size+1) l m:=⟨⟨A1,c1,A2,c2,B1,B2,(hA1.below W2).more (by omega),(hA2.below W2).more (by omega),hn1,hn2⟩,by omega,by omega,by rw[aj,aj];omega⟩
 have hf:=vS l.length (fun i=>Ig.dn l i-Ig.dn m i) w.heap.size (w.heap.size+1) (fun W=>Two (w.heap.size+2) W w.heap.size (w.heap.size+1) l m) ((w.alloc (.cells #[.slice A1 l.length c1] 297)).alloc (.cells #[.slice A2 m.length c2] 297))
  (fun W W' hW hb=>hW.call (by rw[aj,aj]at hb;exact hb)) (fun W i hW hi=>zT (w.heap.size+2) l m w.heap.size (w.heap.size+1) i W hW (by omega) (by omega) ga gb hi)
  (fun i=>by have:=Ig.fP ga i;have:=Ig.fP gb i;omega) (fun i hi=>by rw[Ig.ji (by omega),Ig.ji (by omega)];rfl) (by rw[hsum];omega) (by omega) tw
 rw[hsum,Int.toNat_natCast]at hf;clear tw B1 B2 hsum ga gb hA1 hA2
 go_enter Tryz.func228,Tryz.ntmps228
 go_wp2_with fail;refine hf.mono ?_;rintro _ w3 ⟨A3,out,cap3,rfl,hA3,hc3,Wx,ho3,ht3,hb3⟩;clear hf;go_wp2_with fail;refine (fU out A3 cap3 _ hA3 hc3 (by omega)).mono ?_;rintro _ _ ⟨rfl,rfl⟩;go_wp2;go_ret;exact ⟨_,rfl,qB hA3 hc3 Wx ht3,ah W2 hb3⟩
theorem yP (a c:Nat) (v1:Value) (w:World) (h1:aA w a v1) (hc:c<=10000) (la:(Ig.grp a).length<=90000) :
 Calls Tryz.prog 261 #[v1,.int .i64 c] w fun e w'=>∃v,e=.returned v/\aA w' (a*c) v/\Below w.heap.size w w':=by
 obtain⟨A1,c1,rfl,hA1,hn1,hm1⟩:=h1.out;have hsum:Ig.bU (fun i=>Ig.dn (Ig.grp a) i*c) (Ig.grp a).length=((a*c:Nat):Int):=by rw[Ig.AP,pR a (Nat.le_refl _)];simp
 have ga:=Ig.dB a;generalize hla:Ig.grp a=l at *;clear hla h1;have W1:=aG w (.cells #[.slice A1 l.length c1] 297);have W2:=bNew W1 (.cells #[.int .i64 c] 3);have B1:=(Bx.mk w 297 #[.slice A1 l.length c1]).new (.cells #[.int .i64 c] 3);have B2:=Bx.mk (w.alloc (.cells #[.slice A1 l.length c1] 297)) 3 #[.int .i64 c];rw [aj]at B2;have k1:=B1.cell 0 rfl;have tw:xH (w.heap.size+2) _ w.heap.size (w.heap.size+1) l c:=⟨⟨A1,c1,B1,B2,(hA1.below W2).more (by omega),hn1⟩,by omega,by omega,by rw[aj,aj];omega⟩
 have hf:=DW l.length (fun i=>Ig.dn l i*c) w.heap.size (w.heap.size+1) (fun W=>xH (w.heap.size+2) W w.heap.size (w.heap.size+1) l c) ((w.alloc (.cells #[.slice A1 l.length c1] 297)).alloc (.cells #[.int .i64 c] 3))
  (fun W W' hW hb=>hW.call (by rw[aj,aj]at hb;exact hb)) (fun W i hW hi=>Nv (w.heap.size+2) l c w.heap.size (w.heap.size+1) i W hW (by omega) ga (by omega) (by omega) hi)
  (fun i=>by
   have h2:=Ig.fP ga i;have h3:0<=Ig.dn l i*(c:Int):=Int.mul_nonneg h2.1 (by omega);have h4:=Int.mul_le_mul (show Ig.dn l i<=10000 by omega) (show (c:Int)<=10000 by omega) (by omega) (by omega)
   omega) (fun i hi=>by rw[Ig.ji (by omega)];simp) (by rw[hsum];omega) (by omega) tw
 rw[hsum,Int.toNat_natCast]at hf;clear tw B1 B2 hsum ga hA1
 go_enter Tryz.func261,Tryz.ntmps261
 go_wp2_with fail;refine hf.mono ?_;rintro _ w3 ⟨A3,out,cap3,rfl,hA3,hc3,Wx,ho3,ht3,hb3⟩;clear hf;go_wp2_with fail;refine (fU out A3 cap3 _ hA3 hc3 (by omega)).mono ?_;rintro _ _ ⟨rfl,rfl⟩;go_wp2;go_ret;exact ⟨_,rfl,qB hA3 hc3 Wx ht3,ah W2 hb3⟩
open Go.RowKit Go.Shelf
attribute [local go_sem] Oper.semAt_some
def bW (n:Nat):List (Fin n):=(List.finRange n).reverse
theorem gu (n:Nat):(bW n).length=n:=by simp[bW]
theorem g_ {n t:Nat} (h:t<n):(bW n).take (n-t)=(bW n).take (n-(t+1))++[⟨t,h⟩]:=by
 have hk:n-(t+1)<(bW n).length:=by rw[gu];omega
 rw[show n-t=n-(t+1)+1 by omega,List.take_succ_eq_append_getElem hk]
 congr 2
 simp only[bW,List.getElem_reverse,List.getElem_finRange,List.length_finRange];apply Fin.ext
 simp;omega
def qj (n₀ Bs:Nat) (W W':World):Prop:=Below n₀ W W'/\W'.heap[Bs]? = W.heap[Bs]?
theorem qj.refl (n₀ Bs:Nat) (W:World):qj n₀ Bs W W:=⟨Below.refl _ _,rfl⟩
theorem qj.trans {n₀ Bs:Nat} {A B C:World} (h:qj n₀ Bs A B) (k:qj n₀ Bs B C):qj n₀ Bs A C:=⟨h.1.trans k.1,k.2.trans h.2⟩
theorem jg {W W':World} {b o:Nat} (h:W'.heap[b]? = W.heap[b]?):W'.cell? ⟨b,o,none⟩=W.cell? ⟨b,o,none⟩:=by unfold World.cell?;rw[h]
theorem EO {n₀ Bs:Nat} {w:World} (h1:n₀<=w.heap.size) (h2:Bs<w.heap.size) (W:World) (l:Nat) (o o':Obj) (hl:w.heap.size<=l) (h:W.heap[l]? = some o) (hc:o.isCells=false) (hw:o.isWalk=false):qj n₀ Bs W (W.putObj l o') :=
 ⟨belowK_b (w:=w) h1 W l o o' hl h hc hw,by
  have hne:l≠Bs:=by omega
  show (W.heap.setIfInBounds l o')[Bs]? = _
  rw[Array.getElem?_setIfInBounds_ne hne]⟩
def handed (l:List Int) (x:Fin l.length):Array Value:=#[.int .i64 (x.1:Int),.int .i64 l[x.1]]
theorem ND (F:Fence) (n:Nat) (h7:F.fn 289) (hro:F.round=none) (hn:1<=n) (l Bs n₀ b off cap:Nat) (zs:List Int) (hreach:zs.length<=100000) (hb:b<n₀) (J Jx:List (Fin zs.length)->World->Prop)
 (hY:∀pre x W,J pre W->pre.length<zs.length->YieldAt F (n-1) Tryz.prog l (handed zs x) W fun e W' =>
  (e=.returned (.bool true)/\J (pre++[x]) W'/\qj n₀ Bs W W')∨(e=.returned (.bool false)/\Jx (pre++[x]) W'))
 (W:World) (hBs:W.cell? ⟨Bs,0,none⟩=some (.slice (some ⟨b,off,none⟩) zs.length cap)) (hc:∀(j:Nat) (hj:j<zs.length),W.cell? ⟨b,off+j,none⟩=some (.int .i64 zs[j])) (h0:J [] W) :
 CallsIn F n Tryz.prog 289 #[.func (.yield l) #[] #[],.pointer (some ⟨Bs,0,none⟩)] W fun e W'=>(∃v,e=.returned v) /\
  ((∃ys,ys=bW zs.length/\J ys W')∨(∃pre,(∃k,k<=zs.length/\pre=(bW zs.length).take k)/\Jx pre W')):=by
 refine callsIn_of_wp Tryz.func289 rfl h7 ?_ hro;simp only[Tryz.ntmps289,List.size_toArray,List.length_cons,List.length_nil,Nat.reduceAdd,Nat.reduceSub,Array.replicate_succ,Array.replicate_zero,List.push_toArray,List.append_toArray,List.nil_append,List.cons_append]
 gi_wp2
 gi_loopw [3] (fun i wr=>∃r:Nat,r<=zs.length/\i=.int .i64 ((r:Int)-1)/\J ((bW zs.length).take (zs.length-r)) wr/\qj n₀ Bs W wr)
  (fun i _=>(intOf i+1).toNat)
 case atStart=>exact⟨zs.length,Nat.le_refl _,rfl,by rw[Nat.sub_self];exact h0,qj.refl _ _ _⟩
 case round =>
  obtain⟨r,hr,rfl,hJs,hnx⟩:=hrel;have hBs':wr.cell? ⟨Bs,0,none⟩=some (.slice (some ⟨b,off,none⟩) zs.length cap):=(jg hnx.2).trans hBs;by_cases hr0:0<r
  · obtain⟨t,rfl⟩:∃t,r=t+1:=⟨r-1,by omega⟩
    have htl:t<zs.length:=by omega
    have hct:wr.cell? ⟨b,off+t,none⟩=some (.int .i64 zs[t]):=(hnx.1.cell (p:=⟨b,off+t,none⟩) hb).trans (hc t htl);have hcast:((t+1:Nat):Int)-1=(t:Int):=by omega
    have hsucc:=g_ htl;obtain ⟨fn,tmps,assign,body,hy,hR⟩:=hY _ ⟨t,htl⟩ wr hJs (by rw[List.length_take,gu];omega);rw [←hsucc]at hR;simp only[handed]at hy;clear hc hBs h0 hY;generalize zs[t]=g at *;simp only[hcast]
    gi_wp2
    refine hR.mono ?_;rintro e W3 (⟨rfl,hJ3,hk3⟩|⟨rfl,hJx3⟩)
    · gi_wp2
      go_roundw
      case rel=>exact⟨t,by omega,rfl,hJ3,hnx.trans hk3⟩
      case measure=>simp[intOf]
    · gi_wp2
      refine bodyPost_ret (results_none rfl _ _ _) rfl ?_;exact ⟨⟨_,rfl⟩,.inr ⟨_,⟨zs.length-t,by omega,rfl⟩,hJx3⟩⟩
  · obtain rfl:r=0:=by omega
    have hcast:((0:Nat):Int)-1= -1:=rfl;clear hc hBs h0 hY;simp only[hcast];rw [Nat.sub_zero,List.take_of_length_le (by rw[gu];omega)]at hJs
    gi_wp2
    go_end0
    exact⟨⟨_,rfl⟩,.inl ⟨_,rfl,hJs⟩⟩
theorem yQ (F:Fence) (n:Nat) (h7:F.fn 289) (hro:F.round=none) (l Bs:Nat) (A:Option Addr) (cap:Nat) (J:List (Fin 0)->World->Prop) (W:World) (hBs:W.cell? ⟨Bs,0,none⟩=some (.slice A 0 cap)) (h0:J [] W) :
 CallsIn F n Tryz.prog 289 #[.func (.yield l) #[] #[],.pointer (some ⟨Bs,0,none⟩)] W fun e W'=>(∃v,e=.returned v)/\J [] W':=by
 refine callsIn_of_wp Tryz.func289 rfl h7 ?_ hro;simp only[Tryz.ntmps289,List.size_toArray,List.length_cons,List.length_nil,Nat.reduceAdd,Nat.reduceSub,Array.replicate_succ,Array.replicate_zero,List.push_toArray,List.append_toArray,List.nil_append,List.cons_append]
 gi_wp2
 gi_loopw [3] (fun i wr=>i=.int .i64 (-1)/\J [] wr) (fun _ _=>0)
 case atStart=>exact⟨rfl,h0⟩
 case round =>
  obtain⟨rfl,hJs⟩:=hrel
  gi_wp2
  go_end0
  exact⟨⟨_,rfl⟩,hJs⟩
theorem su (F:Fence) (n:Nat) (h5:F.fn 258) (hro:F.round=none) (A:Option Addr) (len cap:Nat) (w:World) :
 CallsIn F n Tryz.prog 258 #[.slice A len cap] w fun e w'=>e=.returned (.func (.func 289) #[] #[.pointer (some ⟨w.heap.size,0,none⟩)])/\w'=w.alloc (.cells #[.slice A len cap] 297):=by
 refine callsIn_of_wp Tryz.func258 rfl h5 ?_ hro;simp only[Tryz.ntmps258,List.size_toArray,List.length_cons,List.length_nil,Nat.reduceAdd,Nat.reduceSub,Array.replicate_succ,Array.replicate_zero,List.push_toArray,List.append_toArray,List.nil_append,List.cons_append]
 gi_wp2
 go_ret;exact ⟨rfl,rfl⟩
theorem kR (F:Fence) (n:Nat) (h8:F.fn 289) (hro:F.round=none) (hn:1<=n) (Bs n₀:Nat) (A:Option Addr) (cap:Nat) (zs:List Int) (hreach:zs.length<=100000) (w:World) (hBs:Bs<w.heap.size) (hn₀:n₀<=w.heap.size)
 (hc:w.cell? ⟨Bs,0,none⟩=some (.slice A zs.length cap)) (hI:At 1 aV w n₀ A zs) :
 SeqStopsK F n Tryz.prog 289 #[.pointer (some ⟨Bs,0,none⟩)] (handed zs) (qj n₀ Bs) (fun ys=>ys=bW zs.length)
  (fun pre=>∃k,k<=zs.length/\pre=(bW zs.length).take k) zs.length w:=fun l J Jx W hW _ _ hY h0=>by
 have hWn:=hW.mono hn₀;have hc':=(hW.cell (p:=⟨Bs,0,none⟩) hBs).trans hc;have hI':=hI.below hWn;by_cases h:0<zs.length
 · obtain⟨b,off,rfl,hb,hcs⟩:=hI' h
   exact ND F n h8 hro hn l Bs n₀ b off cap zs hreach hb J Jx hY W hc' (fun j hj=>by
    have:=hcs j zs[j] (List.getElem?_eq_getElem hj) 0 _ rfl
    simpa using this) h0
 · obtain rfl:zs=[]:=List.length_eq_zero_iff.1 (by omega);exact (yQ F n h8 hro l Bs A cap J W hc' h0).mono fun e W' ⟨he,hj⟩=>⟨he,.inl ⟨_,rfl,hj⟩⟩
attribute [local go_sem] Oper.semAt_some
def hor (l:List Int) (pre:List (Fin l.length)):Nat:=pre.foldl (fun a t=>a*10000+l[t.1].toNat) 0
theorem jO (l:List Int) (pre:List (Fin l.length)) (t:Fin l.length):hor l (pre++[t])=hor l pre*10000+l[t.1].toNat:=by simp[hor,List.foldl_append]
theorem TA {l:List Int} (h:Ig.Gr l) (pre:List (Fin l.length)):hor l pre<10000 ^ pre.length:=by
 have:∀(k:Nat) (pre:List (Fin l.length)),pre.length=k->hor l pre<10000 ^ k:=by
  intro k
  induction k with
  | zero=>intro pre hp;rw[List.length_eq_zero_iff.1 hp];simp[hor]
  | succ k ih =>
   intro pre hp
   rcases List.eq_nil_or_concat pre with h0|⟨m,t,h0⟩
   · rw[h0]at hp;simp at hp
   · obtain rfl:pre=m++[t]:=by simpa using h0
     have h1:=ih m (by simpa using hp);have h2:=h l[t.1] (List.getElem_mem t.2);rw [jO,Nat.pow_succ];omega
 exact this _ _ rfl
theorem uh (l:List Int) (h:Ig.Gr l):∀k,k<=l.length->((hor l ((bW l.length).take k):Nat):Int)=Ig.from_ l (l.length-k)
 | 0,_=>by rw[List.take_zero,Nat.sub_zero,Ig.lU (Nat.le_refl _)];rfl
 | k+1,hk=>by
  have ih:=uh l h k (by omega);have ht:l.length-(k+1)<l.length:=by omega
  have hs:=g_ ht;rw [show l.length-(l.length-(k+1))=k+1 by omega,show l.length-(l.length-(k+1)+1)=k by omega]at hs;have h2:=h l[l.length-(k+1)] (List.getElem_mem ht);rw [hs,jO,Ig.iO ht,show l.length-(k+1)+1=l.length-k by omega,←ih];simp only;omega
theorem ET (b:Nat):hor (Ig.grp b) (bW (Ig.grp b).length)=b:=by
 have h1:=uh (Ig.grp b) (Ig.dB b) (Ig.grp b).length (Nat.le_refl _);rw [List.take_of_length_le (by rw[gu];omega),Nat.sub_self,Ig.jT,Ig.bZ]at h1;omega
theorem dL {W W':World} (h:Below W.heap.size W W') (B:Nat):KeepsFrom B W W':=⟨h.size,fun k o _ hk _=>(h.block k (Array.getElem?_eq_some_iff.1 hk).1).trans hk⟩
section
variable {W W':World} {row:Option Nat}
theorem dM {g:Nat} {t:TypeId} {cs:Array Value} (h:Bx W g t cs) (hg:W.grownBy W' row) (hr:∀r,row=some r->∃o:Obj,W.heap[r]? = some o/\o.isCells=false):Bx W' g t cs :=
 (hg.block g h.lt (fun e=>by
  obtain⟨o,ho,hc⟩:=hr g e.symm;rw [show W.heap[g]? = _ from h]at ho
  cases ho;cases hc)).trans h
theorem Qj {α:Type} {size:Nat} {f:α->List Value} {A:Option Addr} {p:List α} (h:At size f W W.heap.size A p) (hg:W.grownBy W' row) (hr:∀r,row=some r->∃o:Obj,W.heap[r]? = some o/\o.isCells=false):At size f W' W'.heap.size A p:=fun h0=>by
 obtain⟨b,off,e,hb,hc⟩:=h h0;exact ⟨b,off,e,Nat.lt_of_lt_of_le hb hg.size,fun i c hi j u hj=>cell_kept (hc i c hi j u hj) hg hr⟩
theorem lF {a:Nat} {v:Value} (h:aA W a v) (hg:W.grownBy W' row) (hr:∀r,row=some r->∃o:Obj,W.heap[r]? = some o/\o.isCells=false):aA W' a v:=by
 obtain⟨A,cap,h1,h2,h3,h4⟩:=h.out;exact ⟨A,cap,h1,Qj h2 hg hr,h3,h4⟩
end
theorem jC {a b m n:Nat} (ha:(Ig.grp a).length<=m) (hb:b<10000 ^ n):(Ig.grp (a*b)).length<=m+n:=by
 refine Ig.iw ?_;rw [Nat.pow_add];exact Nat.mul_lt_mul'' (Nat.lt_of_lt_of_le (Ig.jd a) (Nat.pow_le_pow_right (by decide) ha)) hb
theorem JX {d:Nat} (h:d<10000):d<10000 ^ 1:=by rw[Nat.pow_one];exact h
theorem vO {a m:Nat} (ha:(Ig.grp a).length<=m):(Ig.grp (a*10000)).length<=m+1:=by
 refine Ig.iw ?_;rw [Nat.pow_succ];exact Nat.mul_lt_mul_of_pos_right (Nat.lt_of_lt_of_le (Ig.jd a) (Nat.pow_le_pow_right (by decide) ha)) (by decide)
theorem at_set {W:World} {g:Nat} {t:TypeId} {A A':Option Addr} {n c B:Nat} {p:List Int} (hB:Bx W g t #[.slice A n c]) (h:At 1 aV W B A' p) (u:Value):At 1 aV (W.setCell ⟨g,0,none⟩ u) B A' p:=fun h0=>by
 obtain⟨b,off,e,hb,hc⟩:=h h0
 have hne:b≠g:=by
  rintro rfl;have h1:=hc 0 p[0] (List.getElem?_eq_getElem h0) 0 (.int .i64 p[0]) rfl
  unfold Bx at hB
  rw[World.cell?,hB]at h1
  rcases Nat.eq_zero_or_pos off with h2|h2
  · subst h2;simp at h1
  · obtain⟨k,rfl⟩:=Nat.exists_eq_succ_of_ne_zero (Nat.ne_of_gt h2);simp at h1
 exact⟨b,off,e,hb,fun i c hi j v hj=>(jg (Below.heap_setCell W ⟨g,0,none⟩ u b hne)).trans (hc i c hi j v hj)⟩
theorem ig {W:World} {g:Nat} {t:TypeId} {A:Option Addr} {n c a:Nat} {v:Value} (hB:Bx W g t #[.slice A n c]) (h:aA W a v) (u:Value):aA (W.setCell ⟨g,0,none⟩ u) a v:=by
 obtain⟨A',cap,h1,h2,h3,h4⟩:=h.out;exact ⟨A',cap,h1,(at_set hB h2 u).more (KeepsOthers.setCell W _ u).size,h3,h4⟩
structure UN (w:World) (v1:Value) (x:Nat) (W:World):Prop where
 hb:Below w.heap.size w W
 le:w.heap.size+3<=W.heap.size
 B1:Bx W w.heap.size 297 #[v1]
 out:∃v,Bx W (w.heap.size+1) 297 #[v]/\aA W x v
theorem times_any (a b:Nat) (v1 v2:Value) (w:World) (h1:aA w a v1) (h2:aA w b v2) (la:(Ig.grp a).length<=20000) (lb:(Ig.grp b).length<=20000) :
 Calls Tryz.prog 231 #[v1,v2] w fun e w'=>∃v,e=.returned v/\aA w' (a*b) v/\Below w.heap.size w w':=by
 obtain⟨A1,c1,rfl,hA1,hn1,hm1⟩:=h1.out;obtain ⟨A2,c2,rfl,hA2,hn2,hm2⟩:=h2.out;refine (callsIn_wide (n:=3)).1 ?_;refine callsIn_of_wp_marks Tryz.func231 rfl trivial ?_ rfl;simp only[Tryz.ntmps231,List.size_toArray,List.length_cons,List.length_nil,Nat.reduceAdd,Nat.reduceSub,Array.replicate_succ,Array.replicate_zero,List.push_toArray,List.append_toArray,List.nil_append,List.cons_append]
 gi_wp2_with (refine ⟨trivial,?_⟩;gi_at_call 258;refine (su Fence.wide 2 trivial rfl _ _ _ _).mono ?_;rintro e w' ⟨rfl,rfl⟩)
 have hb0:=bNew (bNew (aG w (.cells #[.slice A1 (Ig.grp a).length c1] 297)) (.cells #[.slice none 0 0] 297)) (.cells #[.slice A2 (Ig.grp b).length c2] 297);have B1:=((Bx.mk w 297 #[.slice A1 (Ig.grp a).length c1]).new (.cells #[.slice none 0 0] 297)).new (.cells #[.slice A2 (Ig.grp b).length c2] 297);have B5:=(Bx.mk (w.alloc (.cells #[.slice A1 (Ig.grp a).length c1] 297)) 297 #[.slice none 0 0]).new (.cells #[.slice A2 (Ig.grp b).length c2] 297);have B7:=Bx.mk ((w.alloc (.cells #[.slice A1 (Ig.grp a).length c1] 297)).alloc (.cells #[.slice none 0 0] 297)) 297 #[.slice A2 (Ig.grp b).length c2];have hsz:(((w.alloc (.cells #[.slice A1 (Ig.grp a).length c1] 297)).alloc (.cells #[.slice none 0 0] 297)).alloc (.cells #[.slice A2 (Ig.grp b).length c2] 297)).heap.size=w.heap.size+3:=by rw[aj,aj,aj]
 rw[aj]at B5;rw [aj,aj]at B7;generalize (((w.alloc (.cells #[.slice A1 (Ig.grp a).length c1] 297)).alloc (.cells #[.slice none 0 0] 297)).alloc (.cells #[.slice A2 (Ig.grp b).length c2] 297))=W0 at *
 refine wpIn_rangeFunc_ownG rfl (by decide) (gf:=289) (lb:=#[.pointer (some ⟨w.heap.size+1+1,0,none⟩)]) rfl trivial (enters_of Tryz.func289 (by kernel_rfl) rfl)
  (kR Fence.wide 2 trivial rfl (by decide) (w.heap.size+1+1) w.heap.size A2 c2 (Ig.grp b) (by omega) W0 (by omega) (by omega) (B7.cell 0 rfl) (hA2.below hb0)) qj.trans (EO (by omega) (by omega)) (Below.refl _ _) (fun _=>rfl)
  (fun pre W=>UN w (.slice A1 (Ig.grp a).length c1) (a*hor (Ig.grp b) pre) W) (fun _ _ _=>False)
  (fun pre W W' row hs hg hr=>⟨hs.hb.grown hg hs.hb.size (fun k e=>by have:=(hr k e).1;omega),Nat.le_trans hs.le hg.size,dM hs.B1 hg (fun r e=>(hr r e).2),by obtain⟨v,h1,h2⟩:=hs.out;exact⟨v,dM h1 hg (fun r e=>(hr r e).2),lF h2 hg (fun r e=>(hr r e).2)⟩⟩)
  (fun _ _ _ _ _ hs _ _=>hs)
  ⟨hb0,by omega,B1,_,B5,⟨none,0,by simp[hor,Ig.aS],by simp only[hor,List.foldl_nil,Nat.mul_zero,Ig.aS];exact At.nil,by simp[hor,Ig.aS],Nat.zero_le _⟩⟩
  (fun x=>{ tmps:=#[.slice A1 (Ig.grp a).length c1,.slice A2 (Ig.grp b).length c2,.pointer (some ⟨w.heap.size,0,none⟩),undef,.slice none 0 0,.pointer (some ⟨w.heap.size+1,0,none⟩),undef,.int .i64 (Ig.grp b)[x.1],.slice A2 (Ig.grp b).length c2,
   .func (.func 289) #[] #[.pointer (some ⟨w.heap.size+1+1,0,none⟩)],.int .i64 (x.1:Int),.int .i64 (Ig.grp b)[x.1],undef,undef,undef,undef,undef,undef,undef,undef,undef,undef,undef,undef],defers:=[] }) ?assign ?body ?done ?stop
 case assign =>
  intro l x W K hK;simp only[handed]
  gi_wp2
  exact hK
 case body =>
  rintro l pre x W ⟨hb,hle,NV,v,Sj,hN⟩ hlt;have hgx:=Ig.dB b (Ig.grp b)[x.1] (List.getElem_mem x.2);obtain ⟨d,hd⟩:=Int.eq_ofNat_of_zero_le hgx.1;have hd9:d<10000:=by omega
  have hsn:Kp (a*hor (Ig.grp b) (pre++[x])=a*hor (Ig.grp b) pre*10000+a*d):=⟨by rw[jO,hd,Int.toNat_natCast,Nat.mul_add,Nat.mul_assoc]⟩
  have hlx:=TA (Ig.dB b) pre;have hpl:pre.length<=20000:=by omega
  have hay0:(Ig.grp (a*hor (Ig.grp b) pre)).length<=20000+pre.length:=jC la hlx;have hay:(Ig.grp (a*hor (Ig.grp b) pre)).length<=40000:=by omega
  have hay2:(Ig.grp (a*hor (Ig.grp b) pre*10000)).length<=40000+1:=vO hay;have had:(Ig.grp (a*d)).length<=20000+1:=jC la (JX hd9);clear hay0;have IK:aA W a (.slice A1 (Ig.grp a).length c1):=⟨A1,c1,rfl,(hA1.below hb).more hb.size,hn1,hm1⟩
  have TI:w.heap.size+1+1<W.heap.size:=by have:=hle;omega
  generalize hor (Ig.grp b) pre=y at *;simp only[hd];clear hlx hpl hgx hd;by_cases hy:a*y=0
  · obtain⟨A5,c5,rfl,N8,Wv,TD⟩:=hN.out;have hl0:(Ig.grp (a*y)).length=0:=by rw[hy,Ig.aS];rfl
    have hcell:=Sj.cell 0 rfl;rw [hl0]at hcell
    have NY:aA W (a*y*10000) (.slice A5 0 c5):=by
     rw[hl0]at hN;rw [hy]at hN ⊢;exact hN
    rw[hl0]at Sj
    gi_wp2
    have Sr:=NV;have NU:=Sj;have hb6:=hb;have Lp:=KeepsFrom.refl W0.heap.size W;have G5:=qj.refl w.heap.size (w.heap.size+1+1) W;obtain ⟨W6,U8⟩:∃W6,W6=W:=⟨_,rfl⟩
    obtain⟨v6,hv6⟩:∃v6,v6=Value.slice A5 0 c5:=⟨_,rfl⟩
    rw[←hv6]at NU NY;replace Lp:KeepsFrom W0.heap.size W W6:=by rw[U8];exact Lp
    replace G5:qj w.heap.size (w.heap.size+1+1) W W6:=by rw[U8];exact G5
    rw[←U8]at Sr NU hb6 IK NY;clear hb;have PL:w.heap.size+1+1<W6.heap.size:=by rw[U8];exact TI
    rw[←U8];clear hv6;clear U8;have cc:=fun w1 (hb1:Below W6.heap.size W6 w1)=>(hb1.cell (p:=⟨w.heap.size+1,0,none⟩) NU.lt).trans (NU.cell 0 rfl)
    have cd:=fun w1 (hb1:Below W6.heap.size W6 w1)=>(hb1.cell (p:=⟨w.heap.size,0,none⟩) Sr.lt).trans (Sr.cell 0 rfl)
    refine fG [ak v6,ak (.slice A1 (Ig.grp a).length c1),ak (.int .i64 d),(fun v W=>aA W (a*d) v),(fun v W=>aA W (a*y*10000+a*d) v)] 5 24 (by kernel_rfl) (by kernel_rfl) rfl rfl (by kernel_rfl) ?_ ?_ ?_
    · simp only[aY]
      and_intros <;> first|exact aI _|exact fun v w w' h hb=>h.call hb|trivial
    · simp only[Users,List.take,List.length];refine ⟨?_,?_,?_,?_,?_,trivial⟩;all_goals (intro vs w1 hb1 hd;have c3:=cc w1 hb1;have c4:=cd w1 hb1;have hN1:=IK.call hb1;have Rh:=NY.call hb1;clear cc cd;simp only[aN,Act.put,List.nil_append,List.cons_append,List.setIfInBounds_toArray,List.set_cons_succ,List.set_cons_zero,Nat.reduceAdd])
      · clear hd;go_wp2;exact⟨Below.refl _ _,rfl⟩
      · clear hd;go_wp2;exact⟨Below.refl _ _,rfl⟩
      · clear hd;go_wp2;exact⟨Below.refl _ _,rfl⟩
      · have h1:vs 1=.slice A1 (Ig.grp a).length c1:=hd 1 rfl;have h2:vs 2=.int .i64 d:=hd 2 rfl;clear hd;rw [h1,h2];go_wp2_with fail;have hC:=yP a d _ _ hN1 (by omega) (by omega);refine hC.mono ?_;clear hC;rintro _ w9 ⟨v9,rfl,kT,aX⟩;go_wp2;exact kT
      · have h0:vs 0=v6:=hd 0 rfl;have h3:aA w1 (a*d) (vs 3):=hd 3 rfl;clear hd;rw [h0];go_wp2_with fail;have hC:=oQ (a*y*10000) (a*d) v6 (vs 3) w1 Rh h3 (by omega) (by omega);generalize a*y*10000=p1 at *;generalize a*d=p2 at *;refine hC.mono ?_;clear hC;rintro _ w9 ⟨v9,rfl,kT,aX⟩;go_wp2;exact kT
    · clear cc cd;intro vs wa hba hR;simp only[bV,ak]at hR;obtain ⟨-,-,-,-,e4,-⟩:=hR;simp only[List.drop,List.take,List.map,aN,Act.put,List.setIfInBounds_toArray,List.set_cons_succ,List.set_cons_zero,Nat.reduceAdd];have U1:=Sr.call hba;have Qx:=NU.call hba;have hce:=Qx.cell 0 rfl;have hfr:=Qx.frozen 0;have TW:=ah hb6 hba;have ZY:=Lp.trans (dL hba W0.heap.size);have hkp:qj w.heap.size (w.heap.size+1+1) W wa:=G5.trans ⟨hba.mono (by have:=hb6.size;omega),hba.block _ PL⟩;generalize vs 4=z4 at *;generalize vs 0=z0,vs 1=z1,vs 2=z2,vs 3=z3;obtain ⟨A9,c9,rfl,XE,kT,vJ⟩:=e4.out;obtain ⟨A8,c8,rfl,-,-,-⟩:=NY.out;clear XE kT vJ NY;generalize (Ig.grp (a*y*10000+a*d)).length=n9 at *;generalize (Ig.grp (a*y*10000)).length=n8 at *;go_wp2;refine ⟨ZY.trans ((KeepsOthers.setCell _ _ _).from _),hkp.trans ⟨(Below.refl _ _).setCell (Nat.le_succ _) _,Below.heap_setCell _ _ _ _ (by simp)⟩,aQ TW (Nat.le_succ _) _,Nat.le_trans hle (Nat.le_trans hkp.1.size (KeepsOthers.setCell _ _ _).size),U1.far (by simp) _,_,Qx.set 0 _,?_⟩;rw [hsn.out];exact ig Qx e4 _
  · obtain⟨A5,c5,rfl,N8,Wv,TD⟩:=hN.out
    have hl0:((Ig.grp (a*y)).length:Int) > 0:=by
     have:(Ig.grp (a*y)).length≠0:=fun h=>hy (Ig.fK.1 h)
     omega
    have hcell:=Sj.cell 0 rfl;have YB:=Sj.new (.cells #[.int .i64 0] 3);have hcell1:=YB.cell 0 rfl;have hP:Src Tryz.prog 1 297 (.slice A5 (Ig.grp (a*y)).length c5) (Ig.grp (a*y)).length ((Ig.grp (a*y)).flatMap aV) (W.alloc (.cells #[.int .i64 0] 3)):=At.src (f:=aV) (size:=1) (e:=3) (fun _=>rfl) (fun c u hu=>by simp[aV]at hu;subst hu;rfl) Tryz.underlying297 (N8.below (aG W _)) c5
    gi_wp2_with (gi_at_builtin;refine fQ _ _ _ (by kernel_rfl) ?_;refine aB rfl (.tmp 15) (.tmp 16) rfl W.heap.size 1 1 (Ig.grp (a*y)).length [.int .i64 0] ((Ig.grp (a*y)).flatMap aV) _ _ rfl rfl ⟨W.heap.size,_,rfl,Nat.le_refl _,Nat.le_refl _,Bx.mk _ _ _,rfl,rfl⟩ (by rw[aj];omega) hP (by decide) (by omega) ?_;intro v' w' cap' e1 e2 e3 e4;have hb7:=(aG W (.cells #[.int .i64 0] 3)).trans ((e2 rfl).mono (by rw[aj];omega));have Vp:=Sj.call hb7;have TS:=Vp.cell 0 rfl;have TN:=Vp.frozen 0;have hsh:∃g7,v'=.slice (some ⟨g7,0,none⟩) (1+(Ig.grp (a*y)).length) cap':=(by obtain⟨g7,_,h,_⟩:=e3;exact⟨g7,h⟩);obtain⟨g7,rfl⟩:=hsh)
    go_wp2
    gi_wp2
    have hfl:Kp ([Value.int .i64 0]++(Ig.grp (a*y)).flatMap aV=(Ig.grp (a*y*10000)).flatMap aV):=⟨by rw[Nat.mul_comm (a*y) 10000,←Ig.qG hy];rfl⟩
    have hll:1+(Ig.grp (a*y)).length=(Ig.grp (a*y*10000)).length:=by rw[Nat.mul_comm (a*y) 10000,←Ig.qG hy,List.length_cons];omega
    rw[hfl.out,hll]at e3;rw [hll]
    have Uf:aA w' (a*y*10000) (.slice (some ⟨g7,0,none⟩) (Ig.grp (a*y*10000)).length cap'):=by
     obtain⟨A,h1,h2,h3⟩:=dI.at (f:=aV) (size:=1) (fun _=>rfl) e3;exact ⟨A,cap',h1,h2,h3,e4⟩
    generalize (Ig.grp (a*y*10000)).length=n8 at Uf ⊢;have NU:=Vp.set 0 (.slice (some ⟨g7,0,none⟩) n8 cap');have Sr:=(NV.call hb7).far (p:=⟨w.heap.size+1,0,none⟩) (by simp) (.slice (some ⟨g7,0,none⟩) n8 cap');have hb6:=aQ (ah hb hb7) (p:=⟨w.heap.size+1,0,none⟩) (Nat.le_succ _) (.slice (some ⟨g7,0,none⟩) n8 cap');have Lp:=(dL hb7 W0.heap.size).trans ((KeepsOthers.setCell w' ⟨w.heap.size+1,0,none⟩ (.slice (some ⟨g7,0,none⟩) n8 cap')).from W0.heap.size);have G5:qj w.heap.size (w.heap.size+1+1) W (w'.setCell ⟨w.heap.size+1,0,none⟩ (.slice (some ⟨g7,0,none⟩) n8 cap')):=qj.trans ⟨hb7.mono (by omega),hb7.block _ TI⟩ ⟨(Below.refl _ _).setCell (Nat.le_succ _) _,Below.heap_setCell _ _ _ _ (by simp)⟩;have PL:w.heap.size+1+1<(w'.setCell ⟨w.heap.size+1,0,none⟩ (.slice (some ⟨g7,0,none⟩) n8 cap')).heap.size:=Nat.lt_of_lt_of_le TI G5.1.size;replace IK:=ig Vp (IK.call hb7) (.slice (some ⟨g7,0,none⟩) n8 cap');have NY:=ig Vp Uf (.slice (some ⟨g7,0,none⟩) n8 cap');clear Uf YB hcell1 hP e1 e2 e3 e4 hfl hll TS TN Vp hb7 hcell hN N8 Wv TD;simp only[Array.setIfInBounds,List.size_toArray,List.length_cons,List.length_nil,Nat.zero_add,Nat.lt_add_one,dite_true,List.set_toArray,List.set_cons_zero]at NU;generalize w'.setCell ⟨w.heap.size+1,0,none⟩ (.slice (some ⟨g7,0,none⟩) n8 cap')=W6 at *;obtain ⟨v6,hv6⟩:∃v6,v6=Value.slice (some ⟨g7,0,none⟩) n8 cap':=⟨_,rfl⟩
    rw[←hv6]at NU NY;clear hv6;have cc:=fun w1 (hb1:Below W6.heap.size W6 w1)=>(hb1.cell (p:=⟨w.heap.size+1,0,none⟩) NU.lt).trans (NU.cell 0 rfl)
    have cd:=fun w1 (hb1:Below W6.heap.size W6 w1)=>(hb1.cell (p:=⟨w.heap.size,0,none⟩) Sr.lt).trans (Sr.cell 0 rfl)
    refine fG [ak v6,ak (.slice A1 (Ig.grp a).length c1),ak (.int .i64 d),(fun v W=>aA W (a*d) v),(fun v W=>aA W (a*y*10000+a*d) v)] 5 24 (by kernel_rfl) (by kernel_rfl) rfl rfl (by kernel_rfl) ?_ ?_ ?_
    · simp only[aY]
      and_intros <;> first|exact aI _|exact fun v w w' h hb=>h.call hb|trivial
    · simp only[Users,List.take,List.length];refine ⟨?_,?_,?_,?_,?_,trivial⟩;all_goals (intro vs w1 hb1 hd;have c3:=cc w1 hb1;have c4:=cd w1 hb1;have hN1:=IK.call hb1;have Rh:=NY.call hb1;clear cc cd;simp only[aN,Act.put,List.nil_append,List.cons_append,List.setIfInBounds_toArray,List.set_cons_succ,List.set_cons_zero,Nat.reduceAdd])
      · clear hd;go_wp2;exact⟨Below.refl _ _,rfl⟩
      · clear hd;go_wp2;exact⟨Below.refl _ _,rfl⟩
      · clear hd;go_wp2;exact⟨Below.refl _ _,rfl⟩
      · have h1:vs 1=.slice A1 (Ig.grp a).length c1:=hd 1 rfl;have h2:vs 2=.int .i64 d:=hd 2 rfl;clear hd;rw [h1,h2];go_wp2_with fail;have hC:=yP a d _ _ hN1 (by omega) (by omega);refine hC.mono ?_;clear hC;rintro _ w9 ⟨v9,rfl,kT,aX⟩;go_wp2;exact kT
      · have h0:vs 0=v6:=hd 0 rfl;have h3:aA w1 (a*d) (vs 3):=hd 3 rfl;clear hd;rw [h0];go_wp2_with fail;have hC:=oQ (a*y*10000) (a*d) v6 (vs 3) w1 Rh h3 (by omega) (by omega);generalize a*y*10000=p1 at *;generalize a*d=p2 at *;refine hC.mono ?_;clear hC;rintro _ w9 ⟨v9,rfl,kT,aX⟩;go_wp2;exact kT
    · clear cc cd;intro vs wa hba hR;simp only[bV,ak]at hR;obtain ⟨-,-,-,-,e4,-⟩:=hR;simp only[List.drop,List.take,List.map,aN,Act.put,List.setIfInBounds_toArray,List.set_cons_succ,List.set_cons_zero,Nat.reduceAdd];have U1:=Sr.call hba;have Qx:=NU.call hba;have hce:=Qx.cell 0 rfl;have hfr:=Qx.frozen 0;have TW:=ah hb6 hba;have ZY:=Lp.trans (dL hba W0.heap.size);have hkp:qj w.heap.size (w.heap.size+1+1) W wa:=G5.trans ⟨hba.mono (by have:=hb6.size;omega),hba.block _ PL⟩;generalize vs 4=z4 at *;generalize vs 0=z0,vs 1=z1,vs 2=z2,vs 3=z3;obtain ⟨A9,c9,rfl,XE,kT,vJ⟩:=e4.out;obtain ⟨A8,c8,rfl,-,-,-⟩:=NY.out;clear XE kT vJ NY;generalize (Ig.grp (a*y*10000+a*d)).length=n9 at *;generalize (Ig.grp (a*y*10000)).length=n8 at *;go_wp2;refine ⟨ZY.trans ((KeepsOthers.setCell _ _ _).from _),hkp.trans ⟨(Below.refl _ _).setCell (Nat.le_succ _) _,Below.heap_setCell _ _ _ _ (by simp)⟩,aQ TW (Nat.le_succ _) _,Nat.le_trans hle (Nat.le_trans hkp.1.size (KeepsOthers.setCell _ _ _).size),U1.far (by simp) _,_,Qx.set 0 _,?_⟩;rw [hsn.out];exact ig Qx e4 _
 case done =>
  rintro D ys W hD rfl ⟨hb,hle,NV,v,Sj,hN⟩ hK;have c5:=Sj.cell 0 rfl;rw [ET]at hN
  gi_wp2
  refine⟨by simp,.inl ⟨_,_,rfl,run_takeDeferred hK,?_⟩⟩;have hg:=grownBy_putObj' W D (.deferred none);have hr:∀r,some D=some r->∃o:Obj,W.heap[r]? = some o/\o.isCells=false:=fun r e=>by cases e;exact⟨_,hK,rfl⟩
  exact⟨_,results_tmp rfl _ _ _,v,rfl,lF hN hg hr,hb.trans (belowK_b (w:=w) (Nat.le_refl _) W D _ _ (by omega) hK rfl rfl)⟩
 case stop =>
  rintro D c pre W _ _ h _;exact h.elim
theorem X7:∃i,Tryz.prog.info? 5=some i/\i.zero=some (.int .u8 0)/\i.size=1/\i.bytes=1:=by
 have h:(Tryz.prog.info? 5).map (fun i=>(i.zero,i.size,i.bytes))=some (some (.int .u8 0),1,1):=by kernel_rfl
 cases hi:Tryz.prog.info? 5 with
 | none=>rw[hi]at h;cases h
 | some i =>
  rw[hi]at h;simp only[Option.map_some,Option.some.injEq,Prod.mk.injEq]at h;exact ⟨i,rfl,h.1,h.2.1,h.2.2⟩
theorem Bf:∃i,Tryz.prog.info? 169=some i/\i.size=2:=by
 have h:(Tryz.prog.info? 169).map (fun i=>i.size)=some 2:=by kernel_rfl
 cases hi:Tryz.prog.info? 169 with
 | none=>rw[hi]at h;cases h
 | some i =>
  rw[hi]at h;exact ⟨i,rfl,by simpa using h⟩
theorem uH (b:Nat) (w:World) (h0:w.cell? ⟨b,0,none⟩=some (.pointer (some ⟨b,0,none⟩))) :
 Calls Tryz.prog 140 #[.pointer (some ⟨b,0,none⟩)] w fun e w'=>e=.returned (.tuple #[])/\w'=w:=by
 obtain⟨j,hj,_⟩:=Bf
 go_enter Tryz.func140,Tryz.ntmps140
 go_wp2;rw [Lib.run_neq_ptr_same w _ Tryz.underlying167 hj];go_wp2
 go_end0
 exact⟨rfl,rfl⟩
theorem rD (b:Nat) (w:World) (h0:w.cell? ⟨b,0,none⟩=some (.pointer none)) (hsh:w.shape? b=some (169,2)) (hfz:w.frozen? ⟨b,0,none⟩=false) :
 Calls Tryz.prog 140 #[.pointer (some ⟨b,0,none⟩)] w fun e w'=>e=.returned (.tuple #[])/\w'=w.setCell ⟨b,0,none⟩ (.pointer (some ⟨b,0,none⟩)):=by
 obtain⟨j,hj,hjs⟩:=Bf
 go_enter Tryz.func140,Tryz.ntmps140
 go_wp2;rw [Lib.run_to_unsafe w ⟨b,0,none⟩ Tryz.underlying167 Tryz.underlying285 hj (by rw[hjs];decide) hsh (Nat.zero_lt_succ 1)];simp only[Result.andThen];rw [Oper.upon_value];go_wp2;rw [run_callFunc_extern Tryz.func190 (by kernel_rfl) (by kernel_rfl) (by kernel_rfl) (e:=Extern.AbiNoEscape.same) (by kernel_rfl)];rw [Lib.run_noEscape];simp only[Result.andThen];rw [Oper.upon_value];go_wp2;rw [Lib.run_from_unsafe w ⟨b,0,none⟩ Tryz.underlying285 Tryz.underlying167 hj hsh (by kernel_rfl)];simp only[Result.andThen];rw [Oper.upon_value];go_wp2
 go_end0
 exact⟨rfl,rfl⟩
theorem vU (B b:Nat) (bs:List Value) (w:World) (h:Lib.IsBuilder 169 5 B b bs w) :
 Calls Tryz.prog 140 #[.pointer (some ⟨b,0,none⟩)] w fun e w'=>e=.returned (.tuple #[])/\Lib.BuilderAt 169 5 B b (.pointer (some ⟨b,0,none⟩)) bs w'/\Below B w w'/\Lib.OthersKept 5 (some b) w w':=by
 rcases h with h|h
 · refine (rD b w h.cell0 h.shape h.frozen0).mono ?_;rintro e w' ⟨rfl,rfl⟩;exact ⟨rfl,h.used _,(Below.refl B w).setCell (p:=⟨b,0,none⟩) h.1 _,(Lib.OthersKept.refl _ _ w).setCell ⟨b,0,none⟩ rfl _⟩
 · refine (uH b w h.cell0).mono ?_;rintro e w' ⟨rfl,rfl⟩;exact ⟨rfl,h,Below.refl B _,Lib.OthersKept.refl _ _ _⟩
theorem JI {B n:Nat} {v:Value} {bs:List Value} {w:World} (h:w.ownsRow B 5 1 v n bs):∀g,v.ownBlock=some g->∃c fz,w.heap[g]? = some (.cells c 5 fz):=fun g hg=>by
 rcases h.2 with ⟨rfl,_⟩|⟨g',cap,cur,rfl,_,h1,_⟩
 · cases hg
 · simp only[Value.ownBlock,Option.some.injEq]at hg;subst hg;exact ⟨_,_,h1⟩
theorem kV (B b:Nat) (bs:List Value) (s:List UInt8) (w:World) (h:Lib.IsBuilder 169 5 B b bs w) (hlen:bs.length+s.length<=140737488355328) (hBw:B<=w.heap.size) :
 Calls Tryz.prog 83 #[.pointer (some ⟨b,0,none⟩),.string ⟨s.toArray⟩] w fun e w'=>e=.returned (.tuple #[.int .i64 s.length,.nilIface])/\Lib.BuilderAt 169 5 B b (.pointer (some ⟨b,0,none⟩)) (bs++Lib.byteCells s) w'/\Below B w w'/\Lib.OthersKept 5 (some b) w w':=by
 obtain⟨i0,hi,hz0,hz1,hz2⟩:=X7
 go_enter Tryz.func83,Tryz.ntmps83
 go_wp2_with (go_at_call 140;refine (vU B b bs _ h).mono ?_)
 rintro e w1 ⟨rfl,h1,hb1,hk1⟩;obtain ⟨hB,v,hbk,hown,hne⟩:=h1;have c0:w1.cell? ⟨b,0,none⟩=some (.pointer (some ⟨b,0,none⟩)):=by rw[Lib.cell_of_heap hbk];rfl
 have c1:w1.cell? ⟨b,1,none⟩=some v:=by rw[Lib.cell_of_heap hbk];rfl
 have hsz:(⟨s.toArray⟩:ByteArray).size=s.length:=rfl
 go_wp2_with (at_builtin;refine Lib.wpList_append_own_string _ rfl _ _ 157 9 rfl B 5 i0 Tryz.underlying157 Tryz.underlying9 hi hz0 hz1 hz2 _ _ _ rfl hown ⟨s.toArray⟩ rfl ?c3 ?c4 ?c5 ?_)
 case c3=>unfold maxLen;rw[hsz];omega
 case c4=>rw[hsz];omega
 case c5=>have:=hb1.size;omega
 intro v' w2 hown' hgrow _
 have hlt:b<w1.heap.size:=by
  rcases Nat.lt_or_ge b w1.heap.size with h'|h'
  · exact h'
  · simp[Array.getElem?_eq_none h']at hbk
 have hb2:w2.heap[b]? = some (.cells #[.pointer (some ⟨b,0,none⟩),v] 169 (0,0)):=by
  rw[hgrow.block b hlt (fun e=>hne e.symm)];exact hbk
 have d0:w2.cell? ⟨b,0,none⟩=some (.pointer (some ⟨b,0,none⟩)):=by rw[Lib.cell_of_heap hb2];rfl
 have d1:w2.cell? ⟨b,1,none⟩=some v:=by rw[Lib.cell_of_heap hb2];rfl
 have f1:w2.frozen? ⟨b,1,none⟩=false:=Lib.frozen_of_heap hb2 1
 obtain⟨ao,n',cap,rfl⟩:∃ao n' cap,v'=.slice ao n' cap:=by
  rcases hown'.2 with ⟨hv,_⟩|⟨g,cap,cur,hv,_⟩
  · exact⟨_,_,_,hv⟩
  · exact⟨_,_,_,hv⟩
 go_wp2
 go_ret2
 have hc:Lib.strCells ⟨s.toArray⟩=Lib.byteCells s:=Lib.strCells_eq _;rw [hc]at hown';refine ⟨rfl,?_,?_,(hk1.grown hgrow (JI hown)).setCell ⟨b,1,none⟩ rfl _⟩
 · exact Lib.BuilderAt.put (T:=169) (e:=5) hB hb2 (bs':=bs++Lib.byteCells s) (by rw[List.length_append,Lib.byteCells_length];exact hown') (by decide)
 · exact (hb1.grown hgrow (by have:=hb1.size;omega) (fun k hk=>(hown.lt k hk).1)).setCell (p:=⟨b,1,none⟩) hB _
theorem Cc (B b:Nat) (l:List UInt8) (w:World) (h:Lib.IsBuilder 169 5 B b (Lib.byteCells l) w) (h0:l≠[]) :
 Calls Tryz.prog 84 #[.pointer (some ⟨b,0,none⟩)] w fun e w'=>e=.returned (.string ⟨l.toArray⟩)/\Below B w w'/\Lib.OthersKept 5 (some b) w w':=by
 obtain⟨p,hB,v,hbk,hown,hne⟩:∃p,Lib.BuilderAt 169 5 B b p (Lib.byteCells l) w:=by
  rcases h with h|h
  · exact⟨_,h⟩
  · exact⟨_,h⟩
 have hl0:l.length≠0:=by simpa using h0
 rw[Lib.byteCells_length]at hown
 obtain⟨g,cap,cur,rfl,hbg,hg,hnc,hcm,hcs,htake⟩:∃g cap cur,v=.slice (some ⟨g,0,none⟩) l.length cap/\B<=g/\w.heap[g]? = some (.cells cur 5 (0,0))/\l.length<=cap/\cap<=maxLen/\cur.size=cap*1/\cur.toList.take (l.length*1)=Lib.byteCells l:=by
  rcases hown.2 with ⟨_,hz⟩|⟨g,cap,cur,hv,r⟩
  · exact absurd hz hl0
  · exact⟨g,cap,cur,hv,r⟩
 have c1:w.drew.cell? ⟨b,1,none⟩=some (.slice (some ⟨g,0,none⟩) l.length cap):=by
  have:w.drew.heap[b]? = some (.cells #[p,.slice (some ⟨g,0,none⟩) l.length cap] 169 (0,0)):=hbk;rw [Lib.cell_of_heap this];rfl
 have hSD:(Builtin.unsafeSliceData_ #[157] 241 #[.slice (some ⟨g,0,none⟩) l.length cap]).run Tryz.prog w.drew=.ok (.pointer (some ⟨g,0,none⟩)) w.drew :=
  Lib.run_unsafeSliceData_row _ _ _ _ _ _ (by omega)
 have hUS:(Builtin.unsafeString_ #[241,3] 9 #[.pointer (some ⟨g,0,none⟩),.int .i64 l.length]).run Tryz.prog w.drew=.ok (.string ⟨l.toArray⟩) (w.drew.freeze ⟨g,0,none⟩ l.length):=by
  refine Lib.run_unsafeString_row w.drew 241 3 9 5 Tryz.underlying241 (by kernel_rfl) g cur.size (by have hg':w.drew.heap[g]? = some (.cells cur 5 (0,0)):=hg;simp[World.shape?,hg']) l h0 (by omega) (by unfold maxLen at hcm;omega) ?_;intro j x hx;have:=hown.cells (g:=g) rfl j (.int .u8 x.toNat) (by simp[Lib.byteCells,hx]);exact this
 have hbl:=Lib.below_freeze (Below.drew (Below.refl B w)) (p:=⟨g,0,none⟩) hbg l.length;have hok:=((Lib.OthersKept.refl 5 (some b) w).drew).freeze ⟨g,0,none⟩ l.length ⟨cur,(0,0),hg⟩;clear htake hcs hg hown hne hbk h
 go_enter Tryz.func84,Tryz.ntmps84
 go_wp2
 go_region
 all_goals (go_wp2;go_ret;exact⟨rfl,hbl,hok⟩)
end Go.Proofs.YtohgjenaclfegaaGreatDoor
namespace Ig
theorem Ak:∀ {l:List Int},Gr l->l≠[]->l.getLast? ≠ some 0->0<aK l
 | [],_,h,_=>absurd rfl h
 | [g],h,_,hl=>by
  have:=h g (by simp);have:g≠0:=fun e=>hl (by simp[e])
  simp[aK];omega
 | g :: a :: l,h,_,hl=>by
  have h1:=h g (by simp);have h2:=Ak (l:=a :: l) (fun x hx=>h x (by simp[hx])) (by simp) (by rwa [List.getLast?_cons_cons]at hl);rw [aK];omega
theorem MF (a i:Nat) (h:i<(grp a).length):0<from_ (grp a) i:=by
 refine Ak (fun g hg=>dB a g (List.mem_of_mem_drop hg)) (by simp;omega) ?_;rw [List.getLast?_drop,if_neg (by omega)];exact qR a
theorem MH (g:Nat):(four g).length=4:=rfl
theorem nd4 {g:Nat} (h:g<10000):Go.Lib.nDigits g<=4:=(J6 (by decide)).2 h
def jm (z:Int):List UInt8:=if Go.Lib.nDigits z.natAbs<=200 then Go.Lib.itoa z else []
def resE (z:Int):Int:=if Go.Lib.nDigits z.natAbs<=200 then 0 else 30
theorem pV (z:Int):fits z↔Go.Lib.nDigits z.natAbs<=200:=(J6 (by decide)).symm
theorem eU {z:Int} (h:fits z):jm z=Go.Lib.itoa z:=if_pos ((pV z).1 h)
theorem eX {z:Int} (h:fits z):resE z=0:=if_pos ((pV z).1 h)
end Ig
namespace Go.Proofs.YtohgjenaclfegaaGreatDoor
def txt (l:List Int) (pre:List (Fin l.length)):List UInt8:=pre.flatMap fun t=>if t.1+1<l.length then Ig.four l[t.1].toNat else Lib.decDigits l[t.1].toNat
theorem sJ (l:List Int) (pre:List (Fin l.length)) (t:Fin l.length):txt l (pre++[t])=txt l pre++(if t.1+1<l.length then Ig.four l[t.1].toNat else Lib.decDigits l[t.1].toNat):=by simp[txt]
theorem Ou {l:List Int} (hl:Ig.Gr l) (pre:List (Fin l.length)):(txt l pre).length<=4*pre.length:=by
 unfold txt
 induction pre with
 | nil=>simp
 | cons t pre ih =>
  rw[List.flatMap_cons,List.length_append,List.length_cons];have h:=hl l[t.1] (List.getElem_mem t.2)
  have:(if t.1+1<l.length then Ig.four l[t.1].toNat else Lib.decDigits l[t.1].toNat).length<=4:=by
   split
   · exact Nat.le_of_eq (Ig.MH _)
   · rw[Ig.kM];exact Ig.nd4 (by omega)
  omega
theorem zn (a:Nat):∀k,k+1<=(Ig.grp a).length->txt (Ig.grp a) ((bW (Ig.grp a).length).take (k+1))=Lib.decDigits (Ig.from_ (Ig.grp a) ((Ig.grp a).length-(k+1))).toNat
 | 0,hk=>by
  have hs:=g_ (n:=(Ig.grp a).length) (t:=(Ig.grp a).length-1) (by omega);rw [show (Ig.grp a).length-((Ig.grp a).length-1)=0+1 by omega,show (Ig.grp a).length-((Ig.grp a).length-1+1)=0 by omega]at hs;rw [hs,sJ,if_neg (by simp only;omega),Nat.zero_add,Ig.iO (by omega),Ig.lU (by omega)];simp [txt]
 | k+1,hk=>by
  have ih:=zn a k (by omega);have hs:=g_ (n:=(Ig.grp a).length) (t:=(Ig.grp a).length-(k+2)) (by omega);rw [show (Ig.grp a).length-((Ig.grp a).length-(k+2))=k+1+1 by omega,show (Ig.grp a).length-((Ig.grp a).length-(k+2)+1)=k+1 by omega]at hs;have hp:=Ig.MF a ((Ig.grp a).length-(k+1)) (by omega);have hg:=Ig.dB a _ (List.getElem_mem (show (Ig.grp a).length-(k+2)<(Ig.grp a).length by omega));rw [hs,sJ,if_pos (by simp only;omega),ih,Ig.iO (show (Ig.grp a).length-(k+1+1)<(Ig.grp a).length by omega),show (Ig.grp a).length-(k+1+1)+1=(Ig.grp a).length-(k+1) by omega];generalize Ig.from_ (Ig.grp a) ((Ig.grp a).length-(k+1))=F at *;generalize hgd:(Ig.grp a)[(Ig.grp a).length-(k+2)]=g at *;rw [Ig.D_ (n:=(g+10000*F).toNat) (by omega)];have e1:(g+10000*F).toNat / 10000=F.toNat:=by omega
  have e2:(g+10000*F).toNat % 10000=g.toNat:=by omega
  rw[e1,e2]
theorem Ov {a:Nat} (h:a≠0):txt (Ig.grp a) (bW (Ig.grp a).length)=Lib.decDigits a:=by
 have hl:(Ig.grp a).length≠0:=fun e=>h (Ig.fK.1 e)
 have:=zn a ((Ig.grp a).length-1) (by omega);rw [show (Ig.grp a).length-1+1=(Ig.grp a).length by omega,List.take_of_length_le (by rw[gu];omega),Nat.sub_self,Ig.jT,Ig.bZ,Int.toNat_natCast]at this;exact this
open Go.RowKit Go.Shelf
attribute [local go_sem] Oper.semAt_some
theorem JL {B n:Nat} {v:Value} {bs:List Value} {w w':World} (h:w.ownsRow B 5 1 v n bs) (hb:Below w.heap.size w w'):w'.ownsRow B 5 1 v n bs:=by
 refine⟨h.1,?_⟩
 rcases h.2 with h1|⟨g,cap,cur,h1,h2,h3,h4⟩
 · exact .inl h1
 · exact .inr ⟨g,cap,cur,h1,h2,(hb.block g (Array.getElem?_eq_some_iff.1 h3).1).trans h3,h4⟩
theorem Bh {B b:Nat} {p:Value} {bs:List Value} {w w':World} (h:Lib.BuilderAt 169 5 B b p bs w) (hb:Below w.heap.size w w'):Lib.BuilderAt 169 5 B b p bs w':=by
 have hlt:=h.lt;obtain ⟨h1,v,h2,h3,h4⟩:=h;exact ⟨h1,v,(hb.block b hlt).trans h2,JL h3 hb,h4⟩
theorem uM {B b:Nat} {bs:List Value} {w w':World} (h:Lib.IsBuilder 169 5 B b bs w) (hb:Below w.heap.size w w'):Lib.IsBuilder 169 5 B b bs w' :=
 h.elim (fun h=>.inl (Bh h hb)) (fun h=>.inr (Bh h hb))
theorem JJ {B n:Nat} {v:Value} {bs:List Value} {W W':World} {row:Option Nat} (h:W.ownsRow B 5 1 v n bs) (hg:W.grownBy W' row) (hr:∀r,row=some r->∃o:Obj,W.heap[r]? = some o/\o.isCells=false):W'.ownsRow B 5 1 v n bs:=by
 refine⟨h.1,?_⟩
 rcases h.2 with h1|⟨g,cap,cur,h1,h2,h3,h4⟩
 · exact .inl h1
 · exact .inr ⟨g,cap,cur,h1,h2,dM (show Bx W g 5 cur from h3) hg hr,h4⟩
theorem Bg {B b:Nat} {p:Value} {bs:List Value} {W W':World} {row:Option Nat} (h:Lib.BuilderAt 169 5 B b p bs W) (hg:W.grownBy W' row) (hr:∀r,row=some r->∃o:Obj,W.heap[r]? = some o/\o.isCells=false):Lib.BuilderAt 169 5 B b p bs W':=by
 obtain⟨h1,v,h2,h3,h4⟩:=h;exact ⟨h1,v,dM (show Bx W b 169 #[p,v] from h2) hg hr,JJ h3 hg hr,h4⟩
theorem Nz {B b:Nat} {bs:List Value} {W W':World} {row:Option Nat} (h:Lib.IsBuilder 169 5 B b bs W) (hg:W.grownBy W' row) (hr:∀r,row=some r->∃o:Obj,W.heap[r]? = some o/\o.isCells=false):Lib.IsBuilder 169 5 B b bs W' :=
 h.elim (fun h=>.inl (Bg h hg hr)) (fun h=>.inr (Bg h hg hr))
theorem qM {b:Nat} {W W':World} (h:Lib.OthersKept 5 (some b) W W') (hs:W.heap.size<=W'.heap.size) {B:Nat} (hB:b<B):KeepsFrom B W W':=⟨hs,fun k o hk ho hc=>h k o ho (by simp;omega) (fun c fz e=>by rw[e]at hc;cases hc)⟩
theorem wR {b g:Nat} {t:TypeId} {cs:Array Value} {W W':World} (h:Lib.OthersKept 5 (some b) W W') (hB:Bx W g t cs) (hg:g≠b) (ht:t≠5):Bx W' g t cs:=h g _ hB (by simp;omega) (fun c fz e=>by simp only[Obj.cells.injEq]at e;exact ht e.2.1)
def uG (d:Nat):Nat:=(Lib.decDigits d).length
theorem Jy (k:Nat):Lib.repeatL [48] k=List.replicate k 48:=by
 induction k with
 | zero=>rfl
 | succ k ih=>rw[List.replicate_succ,←ih];simp[Lib.repeatL,List.replicate_succ]
structure FI (w:World) (neg:Bool) (v:Value) (l:List Int) (pre:List (Fin l.length)) (W:World):Prop where
 hb:Below w.heap.size w W
 le:w.heap.size+3<=W.heap.size
 B1:Bx W w.heap.size 299 #[.bool neg,v]
 Bb:Lib.IsBuilder 169 5 (w.heap.size+1) (w.heap.size+1) (Lib.byteCells (txt l pre)) W
 B3:Bx W (w.heap.size+1+1) 297 #[v]
theorem FI.kept {w W W':World} {neg:Bool} {v:Value} {l:List Int} {pre:List (Fin l.length)} {row:Option Nat} (h:FI w neg v l pre W) (hg:W.grownBy W' row) (hr:∀r,row=some r->w.heap.size<=r/\∃o:Obj,W.heap[r]? = some o/\o.isCells=false):FI w neg v l pre W' :=
 ⟨h.hb.grown hg h.hb.size (fun k e=>(hr k e).1),Nat.le_trans h.le hg.size,dM h.B1 hg (fun r e=>(hr r e).2),Nz h.Bb hg (fun r e=>(hr r e).2),dM h.B3 hg (fun r e=>(hr r e).2)⟩
theorem FY (neg:Bool) (A1:Option Addr) (c1:Nat) (w:World) :
 bP 217 #[.agg #[.bool neg,.slice A1 0 c1]] w (.tuple #[.string ⟨#[48]⟩,.int .i64 0]):=by
 have hb:=aG w (.cells #[.bool neg,.slice A1 0 c1] 299)
 go_enter Tryz.func217,Tryz.ntmps217
 go_wp2
 go_ret2
 exact⟨rfl,hb⟩
theorem I8 (neg:Bool) (a:Nat) (A1:Option Addr) (c1:Nat) (w:World) (hA1:At 1 aV w w.heap.size A1 (Ig.grp a)) (hn1:(Ig.grp a).length<=c1) (h0:a≠0) (la:(Ig.grp a).length<=50000) (hE:Env w) (r:List UInt8) (k:Int)
 (hr1:Lib.nDigits a<=200->Kp (r=(if neg then 45 :: Lib.decDigits a else Lib.decDigits a)/\k=0)) (hr2:¬Lib.nDigits a<=200->Kp (r=[]/\k=30)) :
 bP 217 #[.agg #[.bool neg,.slice A1 (Ig.grp a).length c1]] w (.tuple #[.string ⟨r.toArray⟩,.int .i64 k]):=by
 have hl0:(Ig.grp a).length≠0:=fun e=>h0 (Ig.fK.1 e)
 have t0:decide (((Ig.grp a).length:Int)=0)=false:=decide_eq_false (by omega);have t1:(((Ig.grp a).length:Int)==0)=false:=beq_eq_false_iff_ne.2 (by omega);refine (callsIn_wide (n:=3)).1 ?_;refine callsIn_of_wp_marks Tryz.func217 rfl trivial ?_ rfl;simp only[Tryz.ntmps217,List.size_toArray,List.length_cons,List.length_nil,Nat.reduceAdd,Nat.reduceSub,Array.replicate_succ,Array.replicate_zero,List.push_toArray,List.append_toArray,List.nil_append,List.cons_append]
 gi_wp2_with (refine ⟨trivial,?_⟩;gi_at_call 258;refine (su Fence.wide 2 trivial rfl _ _ _ _).mono ?_;rintro e w' ⟨rfl,rfl⟩)
 have hb0:=bNew (bNew (aG w (.cells #[.bool neg,.slice A1 (Ig.grp a).length c1] 299)) (.cells #[.pointer none,.slice none 0 0] 169)) (.cells #[.slice A1 (Ig.grp a).length c1] 297);have B1:=((Bx.mk w 299 #[.bool neg,.slice A1 (Ig.grp a).length c1]).new (.cells #[.pointer none,.slice none 0 0] 169)).new (.cells #[.slice A1 (Ig.grp a).length c1] 297);have Bb:=uM (Lib.fresh_isBuilder 169 5 (w.alloc (.cells #[.bool neg,.slice A1 (Ig.grp a).length c1] 299))) (aG _ (.cells #[.slice A1 (Ig.grp a).length c1] 297));have B7:=Bx.mk ((w.alloc (.cells #[.bool neg,.slice A1 (Ig.grp a).length c1] 299)).alloc (.cells #[.pointer none,.slice none 0 0] 169)) 297 #[.slice A1 (Ig.grp a).length c1];have hsz:(((w.alloc (.cells #[.bool neg,.slice A1 (Ig.grp a).length c1] 299)).alloc (.cells #[.pointer none,.slice none 0 0] 169)).alloc (.cells #[.slice A1 (Ig.grp a).length c1] 297)).heap.size=w.heap.size+3:=by rw[aj,aj,aj]
 rw[aj]at Bb;rw [aj,aj]at B7;generalize (((w.alloc (.cells #[.bool neg,.slice A1 (Ig.grp a).length c1] 299)).alloc (.cells #[.pointer none,.slice none 0 0] 169)).alloc (.cells #[.slice A1 (Ig.grp a).length c1] 297))=W0 at *
 refine wpIn_rangeFunc_ownG rfl (by decide) (gf:=289) (lb:=#[.pointer (some ⟨w.heap.size+1+1,0,none⟩)]) rfl trivial (enters_of Tryz.func289 (by kernel_rfl) rfl)
  (kR Fence.wide 2 trivial rfl (by decide) (w.heap.size+1+1) w.heap.size A1 c1 (Ig.grp a) (by omega) W0 (by omega) (by omega) (B7.cell 0 rfl) (hA1.below hb0)) qj.trans (EO (by omega) (by omega)) (Below.refl _ _) (fun _=>rfl)
  (fun pre W=>FI w neg (.slice A1 (Ig.grp a).length c1) (Ig.grp a) pre W) (fun _ _ _=>False)
  (fun pre W W' row hs hg hr=>hs.kept hg (fun r e=>⟨by have:=(hr r e).1;omega,(hr r e).2⟩))
  (fun _ _ _ _ _ hs _ _=>hs)
  ⟨hb0,by omega,B1,Bb,B7⟩
  (fun x=>{ tmps:=#[.agg #[.bool neg,.slice A1 (Ig.grp a).length c1],.pointer (some ⟨w.heap.size,0,none⟩),.string ⟨#[]⟩,.int .i64 0,.pointer (some ⟨w.heap.size+1,0,none⟩),.int .i64 (x.1:Int),.int .i64 (Ig.grp a)[x.1],undef,undef,.pointer (some ⟨w.heap.size,1,none⟩),.slice A1 (Ig.grp a).length c1,.int .i64 ((Ig.grp a).length:Int),.bool false,.pointer (some ⟨w.heap.size,1,none⟩),.slice A1 (Ig.grp a).length c1,
   .func (.func 289) #[] #[.pointer (some ⟨w.heap.size+1+1,0,none⟩)],.int .i64 (x.1:Int),.int .i64 (Ig.grp a)[x.1],undef,undef,undef,undef,undef,undef,undef,undef,undef,undef,undef,undef,undef,undef,undef,undef,undef,undef,undef,undef,undef,undef,undef,undef,undef],defers:=[] }) ?assign ?body ?done ?stop
 case assign =>
  intro l x W K hK;simp only[handed]
  gi_wp2
  exact hK
 case body =>
  rintro l pre x W ⟨hb,hle,B1,Bb,B3⟩ hlt;have hgx:=Ig.dB a (Ig.grp a)[x.1] (List.getElem_mem x.2);obtain ⟨d,hd⟩:=Int.eq_ofNat_of_zero_le hgx.1;have hd9:d<10000:=by omega
  have hsn:=sJ (Ig.grp a) pre x;have htl:=Ou (Ig.dB a) pre;rw [hd,Int.toNat_natCast]at hsn;have hit:Lib.itoa (d:Int)=Lib.decDigits d:=by rw[Ig.itoa_nonneg (by omega),Int.natAbs_natCast]
  have hI:=B_ (d:Int) W (by omega) (by omega) (hE.below hb);rw [hit]at hI;have hdl:=Ig.kM d;have hd4:=Ig.nd4 hd9;simp only[hd];clear hgx hd hit;have hc1:=fun w1 (hb1:Below W.heap.size W w1)=>(B1.call hb1).cell 1 rfl
  by_cases hx:x.1+1<(Ig.grp a).length
  · have t2:decide ((x.1:Int)<((Ig.grp a).length:Int)-1)=true:=by simp;omega
    have hR:=fun w1=>Eu [48] (4-(uG d:Int)) w1 (by unfold uG;omega) (by unfold uG;omega) (by decide)
    have Tz:Lib.repeatL [48] (4-(uG d:Int)).toNat++Lib.decDigits d=Ig.four d:=by
     rw[←Ig.JH hd9,Jy]
     unfold uG
     rw[hdl,show (4-((Lib.nDigits d:Nat):Int)).toNat=4-Lib.nDigits d by omega]
    rw[if_pos hx,←Tz]at hsn;have hlr:(Lib.repeatL [48] (4-(uG d:Int)).toNat++Lib.decDigits d).length=4:=by rw[Tz];rfl
    have hs4:(Lib.decDigits d).length<=4:=by rw[hdl];exact hd4
    clear Tz hdl hd4
    unfold uG at hR hlr hsn
    generalize Lib.decDigits d=s at *
    gi_wp2_with fail
    refine⟨trivial,((callsIn_wide.2 hI).inRound _).mono ?_⟩;rintro _ w1 ⟨rfl,hb1⟩;have c1':=hc1 w1 hb1;clear hc1 hI
    gi_wp2_with fail
    refine⟨trivial,((callsIn_wide.2 (hR _)).inRound _).mono ?_⟩;rintro _ w2 ⟨rfl,hb2⟩;have kZ:=ah hb1 hb2;have hW:=kV (w.heap.size+1) (w.heap.size+1) _ (Lib.repeatL [48] (4-(s.length:Int)).toNat++s) w2 (uM Bb kZ) (by rw[Lib.byteCells_length,hlr];omega) (by have:=kZ.size;omega);rw [←Lib.byteCells_append,←hsn]at hW;rw [List.length_append]at hlr;clear hR hsn;generalize Lib.repeatL [48] (4-(s.length:Int)).toNat=s2 at *;have hnl:¬ 9223372036854775807<s2.length+s.length:=by omega
    clear hlr
    gi_wp2_with fail
    refine⟨trivial,((callsIn_wide.2 hW).inRound _).mono ?_⟩;rintro _ w3 ⟨rfl,hb3,hb4,hk4⟩
    gi_wp2
    have hs3:=hb4.size;have hB1:=(B1.call kZ).below hb4 (Nat.lt_succ_self _);have hB3:=wR hk4 (B3.call kZ) (by omega) (by decide);have hb5:=(ah hb kZ).trans (hb4.mono (Nat.le_succ _));exact ⟨(dL kZ W0.heap.size).trans (qM hk4 hs3 (by omega)),⟨(kZ.mono (by omega)).trans (hb4.mono (Nat.le_succ _)),hB3.trans B3.symm⟩,hb5,Nat.le_trans hle (Nat.le_trans kZ.size hs3),hB1,.inr hb3,hB3⟩
  · have t2:decide ((x.1:Int)<((Ig.grp a).length:Int)-1)=false:=by simp;omega
    rw[if_neg hx]at hsn;have hs4:(Lib.decDigits d).length<=4:=by rw[hdl];exact hd4
    clear hdl hd4;generalize Lib.decDigits d=s at *
    gi_wp2_with fail
    refine⟨trivial,((callsIn_wide.2 hI).inRound _).mono ?_⟩;rintro _ w2 ⟨rfl,kZ⟩;have c1':=hc1 w2 kZ;clear hc1 hI;have hW:=kV (w.heap.size+1) (w.heap.size+1) _ s w2 (uM Bb kZ) (by rw[Lib.byteCells_length];omega) (by have:=kZ.size;omega);rw [←Lib.byteCells_append,←hsn]at hW
    gi_wp2_with fail
    refine⟨trivial,((callsIn_wide.2 hW).inRound _).mono ?_⟩;rintro _ w3 ⟨rfl,hb3,hb4,hk4⟩
    gi_wp2
    have hs3:=hb4.size;have hB1:=(B1.call kZ).below hb4 (Nat.lt_succ_self _);have hB3:=wR hk4 (B3.call kZ) (by omega) (by decide);have hb5:=(ah hb kZ).trans (hb4.mono (Nat.le_succ _));exact ⟨(dL kZ W0.heap.size).trans (qM hk4 hs3 (by omega)),⟨(kZ.mono (by omega)).trans (hb4.mono (Nat.le_succ _)),hB3.trans B3.symm⟩,hb5,Nat.le_trans hle (Nat.le_trans kZ.size hs3),hB1,.inr hb3,hB3⟩
 case done =>
  rintro D ys W hD rfl ⟨hb,hle,B1,Bb,B3⟩ hK;rw [Ov h0]at Bb;have hS:=Cc _ _ _ _ Bb (Ig.D9 a);have hdl:=Ig.kM a;have c0:=fun w1 (hb1:Below (w.heap.size+1) W w1)=>(B1.below hb1 (Nat.lt_succ_self _)).cell 0 rfl
  have YQ:∀w1,Lib.OthersKept 5 (some (w.heap.size+1)) W w1->w1.heap[D]? = some (.deferred (some [])):=fun w1 h1=>h1 D _ hK (by simp;omega) (fun c fz e=>by cases e)
  have hDw:w.heap.size<=D:=by omega
  clear B1 Bb B3 hK hD;by_cases hnd:Lib.nDigits a<=200
  · have hfin:=hr1 hnd;have t3:decide (((Lib.decDigits a).length:Int) > 200)=false:=decide_eq_false (by rw[hdl];omega);have hnl:¬ 9223372036854775807<(Lib.decDigits a).length:=by rw[hdl];omega
    have hnl2:¬ 9223372036854775807<1+(Lib.decDigits a).length:=by rw[hdl];omega
    clear hdl;generalize Lib.decDigits a=s at *
    gi_wp2_with fail
    refine⟨trivial,(callsIn_wide.2 hS).mono ?_⟩;rintro _ w1 ⟨rfl,hb1,hk1⟩;have hK:=YQ w1 hk1;have c1':=c0 w1 hb1;have hb2:=hb.trans (hb1.mono (Nat.le_succ _));clear hS YQ c0 hk1 hb1 hb;have hg:=grownBy_putObj' w1 D (.deferred none);have hbf:Below w.heap.size w (w1.putObj D (.deferred none)):=hb2.trans (belowK_b (w:=w) (Nat.le_refl _) w1 D _ _ hDw hK rfl rfl);cases neg
    · gi_wp2
      refine⟨by simp,.inl ⟨_,_,rfl,run_takeDeferred hK,?_⟩⟩;exact ⟨_,results_tmp2 rfl _ _ _,by rw[hfin.out.1,hfin.out.2];rfl,hbf⟩
    · gi_wp2
      refine⟨by simp,.inl ⟨_,_,rfl,run_takeDeferred hK,?_⟩⟩;exact ⟨_,results_tmp2 rfl _ _ _,by rw[hfin.out.1,hfin.out.2];rfl,hbf⟩
  · have hfin:=hr2 hnd;have t3:decide (((Lib.decDigits a).length:Int) > 200)=true:=decide_eq_true (by rw[hdl];omega);clear hdl;generalize Lib.decDigits a=s at *
    gi_wp2_with fail
    refine⟨trivial,(callsIn_wide.2 hS).mono ?_⟩;rintro _ w1 ⟨rfl,hb1,hk1⟩;have hK:=YQ w1 hk1;have hb2:=hb.trans (hb1.mono (Nat.le_succ _));clear hS YQ c0 hk1 hb1 hb;have hbf:Below w.heap.size w (w1.putObj D (.deferred none)):=hb2.trans (belowK_b (w:=w) (Nat.le_refl _) w1 D _ _ hDw hK rfl rfl)
    gi_wp2
    refine⟨by simp,.inl ⟨_,_,rfl,run_takeDeferred hK,?_⟩⟩;exact ⟨_,results_tmp2 rfl _ _ _,by rw[hfin.out.1,hfin.out.2];rfl,hbf⟩
 case stop =>
  rintro D c pre W _ _ h _;exact h.elim
def gG (neg:Bool) (a:Nat):Int:=if neg then -(a:Int) else a
theorem mO (neg:Bool) (a:Nat):(gG neg a).natAbs=a:=by cases neg <;> simp[gG]
theorem dF (neg:Bool) (a:Nat) (v:Value) (w:World) (h:aA w a v) (la:(Ig.grp a).length<=50000) (hE:Env w) :
 bP 217 #[.agg #[.bool neg,v]] w (.tuple #[.string ⟨(Ig.jm (gG neg a)).toArray⟩,.int .i64 (Ig.resE (gG neg a))]):=by
 obtain⟨A1,c1,rfl,hA1,hn1,hm1⟩:=h.out;by_cases h0:a=0
 · subst h0;have e1:Ig.jm (gG neg 0)=[48]:=by cases neg <;> decide +kernel
   have e2:Ig.resE (gG neg 0)=0:=by cases neg <;> decide +kernel
   have hl:(Ig.grp 0).length=0:=by rw[Ig.aS];rfl
   rw[e1,e2,hl];exact FY neg A1 c1 w
 · refine I8 neg a A1 c1 w hA1 hn1 h0 la hE _ _ (fun h=>⟨?_,?_⟩) (fun h=>⟨?_,?_⟩)
   · rw[Ig.jm,mO,if_pos h];cases neg
     · rw[Ig.itoa_nonneg (by simp[gG]),mO];rfl
     · rw[Ig.itoa_neg (by simp[gG];omega),mO];rfl
   · rw[Ig.resE,mO,if_pos h]
   · rw[Ig.jm,mO,if_neg h]
   · rw[Ig.resE,mO,if_neg h]
def jr (a b:Int):Int:=if a<b then -1 else if a > b then 1 else 0
theorem qE (a:Int) (w:World):Calls Tryz.prog 288 #[.int .i64 a] w fun e w'=>e=.returned (.bool false)/\w=w':=by
 go_enter Tryz.func288,Tryz.ntmps288
 go_wp2;go_ret;exact ⟨by simp,rfl⟩
theorem FC (a b:Int) (w:World):Calls Tryz.prog 257 #[.int .i64 a,.int .i64 b] w fun e w'=>e=.returned (.int .i64 (jr a b))/\w=w':=by
 rcases (show (a<b)∨(a=b)∨(b<a) by omega) with h|h|h
 · have t1:decide (a<b)=true:=by simp;omega
   have e:jr a b= -1:=by unfold jr;rw[if_pos h]
   go_enter Tryz.func257,Tryz.ntmps257
   go_wp2_with (go_at_call 288;refine (qE _ _).mono ?_;rintro e w' ⟨rfl,rfl⟩)
   go_ret;exact ⟨by rw[e];rfl,rfl⟩
 · subst h;have e:jr a a=0:=by unfold jr;rw[if_neg (by omega),if_neg (by omega)]
   go_enter Tryz.func257,Tryz.ntmps257
   go_wp2_with (go_at_call 288;refine (qE _ _).mono ?_;rintro e w' ⟨rfl,rfl⟩)
   go_ret;exact ⟨by rw[e];rfl,rfl⟩
 · have t1:decide (a<b)=false:=by simp;omega
   have t2:decide (a > b)=true:=by simp;omega
   have e:jr a b=1:=by unfold jr;rw[if_neg (by omega),if_pos h]
   go_enter Tryz.func257,Tryz.ntmps257
   go_wp2_with (go_at_call 288;refine (qE _ _).mono ?_;rintro e w' ⟨rfl,rfl⟩)
   go_ret;exact ⟨by rw[e];rfl,rfl⟩
end Go.Proofs.YtohgjenaclfegaaGreatDoor

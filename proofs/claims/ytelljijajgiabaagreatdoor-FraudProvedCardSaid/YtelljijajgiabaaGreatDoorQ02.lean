import Derived.Test.YtelljijajgiabaaGreatDoorQ01
import Derived.RangeFuncNested
import Derived.RangeFuncBound
import Derived.RangeFuncCalls
import Derived.RangeFuncLeaves
import Derived.RangeFuncBox
import Derived.OrdersIn
import Derived.OwnWalkIn
import Derived.Shelf.Abstract
import Derived.TacticsInMore
import Derived.LoopNIn
import Derived.LoopIn
import Derived.RangeFuncFrom
import Derived.RangeFuncWrites
import Derived.Lib.Builder
import Derived.Lib.AppendStr
import Derived.Lib.UnsafeStr
import Derived.Lib.OthersKept
import Derived.Shelf.RegionOpenPlain
set_option linter.unusedVariables false
set_option linter.unusedSimpArgs false
set_option maxRecDepth 100000
set_option maxHeartbeats 8000000
namespace Go.Proofs.YtelljijajgiabaaGreatDoor
open Go.RowKit
theorem JR (n:Nat) (d:Nat->Int) (b1 b2:Nat) (I:World->Prop) (w:World) (hI:∀W W',I W->Below w.heap.size W W'->I W')
 (hcall:∀(W:World) (i:Nat),I W->i<=1000000->aW 181 #[.int .i64 i,.pointer (some ⟨b1,0,none⟩),.pointer (some ⟨b2,0,none⟩)] W (.int .i64 (d i)))
 (hd:∀i,-9999<=d i/\d i<=100000000) (h0:∀i,n<=i->d i=0) (hpos:0<=Ig.dI d n) (hn:n<=100000) (OQ:I w) :
 Calls Tryz.prog 142 #[.int .i64 n,.int .i64 0,.func (.func 181) #[] #[.pointer (some ⟨b1,0,none⟩),.pointer (some ⟨b2,0,none⟩)]] w fun e w' =>
  ∃(A:Option Addr) (out:List Int) (cap:Nat),e=.returned (.slice A out.length cap)/\At 1 aO w' w'.heap.size A out/\out.length<=cap/\cap<=maxLen/\out.length<=n+2/\Kp (Ig.bf out=Ig.grp (Ig.dI d n).toNat)/\Below w.heap.size w w':=by
 obtain⟨ti,z,hi,hz,hs1,hz1,hby⟩:=wV;have hmk:=run_makeSlice (P:=Tryz.prog) (w:=w) 127 3 ti z Tryz.underlying127 hi hz .i64 .i64 0 ((n:Int)+1) (Int.le_refl _) (by omega) (by rw[hs1];omega) (by rw[hby];omega) (by omega);rw [hs1,Nat.mul_one,show ((n:Int)+1).toNat=n+1 by omega,show (0:Int).toNat=0 from rfl]at hmk;have hcs:(madeCells z.cells (n+1)).size=n+1:=by rw[size_madeCells]
 generalize madeCells z.cells (n+1)=cs at *;clear hi hz hs1 hz1 hby
 have hrow:cO 3 1 w.heap.size (n+1) 0 [] (.slice (some ⟨w.heap.size,0,none⟩) 0 (n+1)) (w.alloc (.cells cs 3)) :=
  ⟨w.heap.size,_,rfl,Nat.le_refl _,Nat.zero_le _,Bx.mk _ _ _,by omega,rfl⟩
 have hI1:=hI w _ OQ (au w (.cells cs 3));have hb1:=au w (.cells cs 3)
 go_enter Tryz.func142,Tryz.ntmps142
 go_wp2;clear hmk OQ;generalize (w.alloc (.cells cs 3))=w1 at *
 go_loopw [1,7,8,9] (fun s1 s7 s8 s9 wr=>∃(i cap:Nat) (out:List Int) (carry:Int),s8=.int .i64 i/\s1=.int .i64 carry/\cO 3 1 w.heap.size cap out.length (out.flatMap aO) s7 wr/\cap<=maxLen/\i<=n+2/\ -1<=carry/\carry<=20000/\(i=n+1->carry<=2)/\(i=n+2->carry=0)/\(n<=i->0<=carry)/\Kp (out.length=i)/\out.length<=n+2/\Kp (Ig.gG d i out carry)/\I wr/\Below w.heap.size w wr)
  (fun s1 s7 s8 s9 _=>(n+3-(intOf s8).toNat))
 case atStart=>exact⟨0,n+1,[],0,rfl,rfl,hrow,by unfold maxLen;omega,by omega,by omega,by omega,by omega,by omega,by omega,⟨rfl⟩,by simp,⟨Ig.jX d⟩,hI1,hb1⟩
 case round =>
  clear hrow hI1 hb1;obtain ⟨i,cap,out,carry,rfl,rfl,hrow,hcm,hi2,hc1,hc2,hc3,hc4,hc5,hol,Ey,hf,dP,hb⟩:=hrel;by_cases hstop:n<=i/\carry=0
  · obtain⟨hni,rfl⟩:=hstop;have t0:decide ((i:Int)<(n:Int))=false:=by simp;omega
    have hnl:¬i<n:=by omega
    have hfin:Kp (Ig.bf out=Ig.grp (Ig.dI d n).toNat):=⟨by rw[Ig.qU hf.out,Ig.mZ h0 hni]⟩
    obtain⟨A2,rfl,hA2,hlen2⟩:=cO.at (f:=aO) (fun _=>rfl) hrow;clear hf hcall hI;go_wp2;go_ret;exact ⟨A2,out,cap,rfl,hA2,hlen2,hcm,Ey,hfin,hb⟩
  · have hdi:=hd i;have hz0:n<=i->d i=0:=h0 i;have hrun:(i<n∨(¬i<n/\carry≠0)):=by omega
    have hnext:=Ig.lW hf.out;have hcp:n<=i+1->0<=(d i+carry) / 10000:=fun h=>Ig.mX hnext (by rw[Ig.mZ h0 h];exact hpos)
    have hns:i≠n+2:=by omega
    have hbig:i<=1000000:=by omega
    have hob:out.length+1<=1000000:=by omega
    have hc:=hcall wr i dP hbig;clear hcall hstop hf;generalize hdd:d i=di at *;have hi9:out.length<=i:=by have:=hol.out;omega
    have GX:Kp (out.length=i):=hol;clear hol
    rcases hrun with hlt|⟨hge,hne⟩
    · have t0:decide ((i:Int)<(n:Int))=true:=by simp;omega
      rcases (show (di+carry<0)∨(0<=di+carry/\di+carry<10000)∨10000<=di+carry by omega) with hs|⟨hs,hs'⟩|hs
      · have t1:decide (di+carry<0)=true:=by simp;omega
        go_wp2_with fail;refine hc.mono ?_;rintro _ w2 ⟨rfl,hb2⟩;replace hrow:=aS _ _ _ _ _ _ _ _ _ hrow hb2;replace dP:=hI _ _ dP (hb2.mono hb.size);replace hb:=aj hb hb2;clear hc hb2
        go_wp2_with (at_builtin;refine aK rfl (.tmp 37) (.tmp 39) rfl w.heap.size cap out.length 1 (out.flatMap aO) [.int .i64 (di+carry+10000)] _ _ rfl rfl (aS _ _ _ _ _ _ _ _ _ hrow (au w2 _)) (by rw[ah];have:=hb.size;omega) (fV w2 _) hcm (by omega) ?_;intro v' w' cap' e1 e2 e3 e4)
        replace dP:=hI _ _ dP (((au w2 (.cells #[.int .i64 (di+carry+10000)] 3))).mono hb.size);replace dP:=hI _ _ dP e1;have aY:=(bNew hb (.cells #[.int .i64 (di+carry+10000)] 3)).trans e1;refine ⟨⟨i+1,cap',out++[di+carry+10000],(-1),by go_num,rfl,by simpa [aO] using e3,e4,by omega,by omega,by omega,by omega,by omega,?_,⟨by simp;exact GX.out⟩,by simp;omega,⟨?_⟩,dP,aY⟩,by simp[intOf];omega⟩
        · intro h;have:=hcp h;omega
        · have h1:(di+carry) % 10000=di+carry+10000:=by omega
          have h2:(di+carry) / 10000=(-1):=by omega
          rw[h1,h2]at hnext;exact hnext
      · have t1:decide (di+carry<0)=false:=by simp;omega
        have t2:decide (di+carry ≥ 10000)=false:=by simp;omega
        go_wp2_with fail;refine hc.mono ?_;rintro _ w2 ⟨rfl,hb2⟩;replace hrow:=aS _ _ _ _ _ _ _ _ _ hrow hb2;replace dP:=hI _ _ dP (hb2.mono hb.size);replace hb:=aj hb hb2;clear hc hb2
        go_wp2_with (at_builtin;refine aK rfl (.tmp 37) (.tmp 39) rfl w.heap.size cap out.length 1 (out.flatMap aO) [.int .i64 (di+carry)] _ _ rfl rfl (aS _ _ _ _ _ _ _ _ _ hrow (au w2 _)) (by rw[ah];have:=hb.size;omega) (fV w2 _) hcm (by omega) ?_;intro v' w' cap' e1 e2 e3 e4)
        replace dP:=hI _ _ dP (((au w2 (.cells #[.int .i64 (di+carry)] 3))).mono hb.size);replace dP:=hI _ _ dP e1;have aY:=(bNew hb (.cells #[.int .i64 (di+carry)] 3)).trans e1;refine ⟨⟨i+1,cap',out++[di+carry],0,by go_num,rfl,by simpa [aO] using e3,e4,by omega,by omega,by omega,by omega,by omega,?_,⟨by simp;exact GX.out⟩,by simp;omega,⟨?_⟩,dP,aY⟩,by simp[intOf];omega⟩
        · intro h;have:=hcp h;omega
        · have h1:(di+carry) % 10000=di+carry:=by omega
          have h2:(di+carry) / 10000=0:=by omega
          rw[h1,h2]at hnext;exact hnext
      · have t1:decide (di+carry<0)=false:=by simp;omega
        have t2:decide (di+carry ≥ 10000)=true:=by simp;omega
        go_wp2_with fail;refine hc.mono ?_;rintro _ w2 ⟨rfl,hb2⟩;replace hrow:=aS _ _ _ _ _ _ _ _ _ hrow hb2;replace dP:=hI _ _ dP (hb2.mono hb.size);replace hb:=aj hb hb2;clear hc hb2
        go_wp2_with (at_builtin;refine aK rfl (.tmp 37) (.tmp 39) rfl w.heap.size cap out.length 1 (out.flatMap aO) [.int .i64 ((di+carry) % 10000)] _ _ rfl rfl (aS _ _ _ _ _ _ _ _ _ hrow (au w2 _)) (by rw[ah];have:=hb.size;omega) (fV w2 _) hcm (by omega) ?_;intro v' w' cap' e1 e2 e3 e4)
        replace dP:=hI _ _ dP (((au w2 (.cells #[.int .i64 ((di+carry) % 10000)] 3))).mono hb.size);replace dP:=hI _ _ dP e1;have aY:=(bNew hb (.cells #[.int .i64 ((di+carry) % 10000)] 3)).trans e1;refine ⟨⟨i+1,cap',out++[(di+carry) % 10000],((di+carry) / 10000),by go_num,rfl,by simpa [aO] using e3,e4,by omega,by omega,by omega,by omega,by omega,?_,⟨by simp;exact GX.out⟩,by simp;omega,⟨?_⟩,dP,aY⟩,by simp[intOf];omega⟩
        · intro h;have:=hcp h;omega
        · have h1:(di+carry) % 10000=(di+carry) % 10000:=by omega
          have h2:(di+carry) / 10000=((di+carry) / 10000):=by omega
          rw[h1,h2]at hnext;exact hnext
    · have t0:decide ((i:Int)<(n:Int))=false:=by simp;omega
      have t9:(carry != 0)=true:=by simp[hne]
      clear hne
      rcases (show (di+carry<0)∨(0<=di+carry/\di+carry<10000)∨10000<=di+carry by omega) with hs|⟨hs,hs'⟩|hs
      · exfalso
        have x1:=hz0 (by omega);have x2:=hc5 (by omega);omega
      · have t1:decide (di+carry<0)=false:=by simp;omega
        have t2:decide (di+carry ≥ 10000)=false:=by simp;omega
        go_wp2_with fail;refine hc.mono ?_;rintro _ w2 ⟨rfl,hb2⟩;replace hrow:=aS _ _ _ _ _ _ _ _ _ hrow hb2;replace dP:=hI _ _ dP (hb2.mono hb.size);replace hb:=aj hb hb2;clear hc hb2
        go_wp2_with (at_builtin;refine aK rfl (.tmp 37) (.tmp 39) rfl w.heap.size cap out.length 1 (out.flatMap aO) [.int .i64 (di+carry)] _ _ rfl rfl (aS _ _ _ _ _ _ _ _ _ hrow (au w2 _)) (by rw[ah];have:=hb.size;omega) (fV w2 _) hcm (by omega) ?_;intro v' w' cap' e1 e2 e3 e4)
        replace dP:=hI _ _ dP (((au w2 (.cells #[.int .i64 (di+carry)] 3))).mono hb.size);replace dP:=hI _ _ dP e1;have aY:=(bNew hb (.cells #[.int .i64 (di+carry)] 3)).trans e1;refine ⟨⟨i+1,cap',out++[di+carry],0,by go_num,rfl,by simpa [aO] using e3,e4,by omega,by omega,by omega,by omega,by omega,?_,⟨by simp;exact GX.out⟩,by simp;omega,⟨?_⟩,dP,aY⟩,by simp[intOf];omega⟩
        · intro h;have:=hcp h;omega
        · have h1:(di+carry) % 10000=di+carry:=by omega
          have h2:(di+carry) / 10000=0:=by omega
          rw[h1,h2]at hnext;exact hnext
      · have t1:decide (di+carry<0)=false:=by simp;omega
        have t2:decide (di+carry ≥ 10000)=true:=by simp;omega
        go_wp2_with fail;refine hc.mono ?_;rintro _ w2 ⟨rfl,hb2⟩;replace hrow:=aS _ _ _ _ _ _ _ _ _ hrow hb2;replace dP:=hI _ _ dP (hb2.mono hb.size);replace hb:=aj hb hb2;clear hc hb2
        go_wp2_with (at_builtin;refine aK rfl (.tmp 37) (.tmp 39) rfl w.heap.size cap out.length 1 (out.flatMap aO) [.int .i64 ((di+carry) % 10000)] _ _ rfl rfl (aS _ _ _ _ _ _ _ _ _ hrow (au w2 _)) (by rw[ah];have:=hb.size;omega) (fV w2 _) hcm (by omega) ?_;intro v' w' cap' e1 e2 e3 e4)
        replace dP:=hI _ _ dP (((au w2 (.cells #[.int .i64 ((di+carry) % 10000)] 3))).mono hb.size);replace dP:=hI _ _ dP e1;have aY:=(bNew hb (.cells #[.int .i64 ((di+carry) % 10000)] 3)).trans e1;refine ⟨⟨i+1,cap',out++[(di+carry) % 10000],((di+carry) / 10000),by go_num,rfl,by simpa [aO] using e3,e4,by omega,by omega,by omega,by omega,by omega,?_,⟨by simp;exact GX.out⟩,by simp;omega,⟨?_⟩,dP,aY⟩,by simp[intOf];omega⟩
        · intro h;have:=hcp h;omega
        · have h1:(di+carry) % 10000=(di+carry) % 10000:=by omega
          have h2:(di+carry) / 10000=((di+carry) / 10000):=by omega
          rw[h1,h2]at hnext;exact hnext
theorem vH (a:Nat) {n:Nat} (h:(Ig.grp a).length<=n):Ig.dI (Ig.bW (Ig.grp a)) n=a:=by rw[Ig.oH h,Ig.bY]
theorem wP {W:World} {A:Option Addr} {out:List Int} {cap a:Nat} (hA:At 1 aO W W.heap.size A out) (hc:out.length<=cap) (hm:cap<=maxLen) (h:Kp (Ig.bf out=Ig.grp a)):aI W a (.slice A (Ig.bf out).length cap):=by
 refine⟨A,cap,by rw[h.out],?_,?_,hm⟩
 · rw[←h.out,←jQ];exact hA.take _
 · rw[←h.out,←jQ,List.length_take];omega
theorem uT (a b:Nat) (v1 v2:Value) (w:World) (h1:aI w a v1) (h2:aI w b v2) (la:(Ig.grp a).length<=90000) (lb:(Ig.grp b).length<=90000) :
 Calls Tryz.prog 99 #[v1,v2] w fun e w'=>∃v,e=.returned v/\aI w' (a+b) v/\Below w.heap.size w w':=by
 obtain⟨A1,c1,rfl,hA1,hn1,hm1⟩:=h1.out;obtain ⟨A2,c2,rfl,hA2,hn2,hm2⟩:=h2.out;obtain ⟨n,hn⟩:=jH (max (Ig.grp a).length (Ig.grp b).length);have hmx:(max (((Ig.grp a).length:Nat):Int) (((Ig.grp b).length:Nat):Int))=(n:Int):=by rw[←hn.out];omega
 have rZ:n<=90000:=by rw[←hn.out];omega
 have hna:(Ig.grp a).length<=n:=by rw[←hn.out];omega
 have hnb:(Ig.grp b).length<=n:=by rw[←hn.out];omega
 have hsum:Ig.dI (fun i=>Ig.bW (Ig.grp a) i+Ig.bW (Ig.grp b) i) n=((a+b:Nat):Int):=by rw[Ig.zW,vH a hna,vH b hnb];omega
 have ga:=Ig.dn a;have gb:=Ig.dn b;generalize hla:Ig.grp a=l at *;generalize hlb:Ig.grp b=m at *;clear hla hlb h1 h2 hn;have W1:=au w (.cells #[.slice A1 l.length c1] 127);have W2:=bNew W1 (.cells #[.slice A2 m.length c2] 127);have B1:=(Bx.mk w 127 #[.slice A1 l.length c1]).new (.cells #[.slice A2 m.length c2] 127);have B2:=Bx.mk (w.alloc (.cells #[.slice A1 l.length c1] 127)) 127 #[.slice A2 m.length c2];rw [ah]at B2;have k1:=B1.cell 0 rfl;have k2:=B2.cell 0 rfl;have tw:Two (w.heap.size+2) _ w.heap.size (w.heap.size+1) l m:=⟨⟨A1,c1,A2,c2,B1,B2,(hA1.below W2).more (by omega),(hA2.below W2).more (by omega),hn1,hn2⟩,by omega,by omega,by rw[ah,ah];omega⟩
 have hf:=EH n (fun i=>Ig.bW l i+Ig.bW m i) w.heap.size (w.heap.size+1) (fun W=>Two (w.heap.size+2) W w.heap.size (w.heap.size+1) l m) ((w.alloc (.cells #[.slice A1 l.length c1] 127)).alloc (.cells #[.slice A2 m.length c2] 127))
  (fun W W' hW hb=>hW.call (by rw[ah,ah]at hb;exact hb)) (fun W i hW hi=>Ju (w.heap.size+2) l m w.heap.size (w.heap.size+1) i W hW (by omega) (by omega) ga gb hi)
  (fun i=>by have:=Ig.fK ga i;have:=Ig.fK gb i;omega) (fun i hi=>by rw[Ig.jF (by omega),Ig.jF (by omega)];rfl) (by rw[hsum];omega) (by omega) tw
 rw[hsum,Int.toNat_natCast]at hf;clear tw B1 B2 hsum ga gb hA1 hA2
 go_enter Tryz.func99,Tryz.ntmps99
 go_wp2_with fail;refine hf.mono ?_;rintro _ w3 ⟨A3,out,cap3,rfl,hA3,hc3,Zj,ho3,ht3,hb3⟩;clear hf;go_wp2_with fail;refine (jk out A3 cap3 _ hA3 hc3 (by omega)).mono ?_;rintro _ _ ⟨rfl,rfl⟩;go_wp2;go_ret;exact ⟨_,rfl,wP hA3 hc3 Zj ht3,aj W2 hb3⟩
theorem Ry {a b:Nat} (h:b<=a):(Ig.grp b).length<=(Ig.grp a).length:=by
 rcases Nat.lt_or_ge (Ig.grp a).length (Ig.grp b).length with h1|h1
 · have:=Ig.lS h1;omega
 · exact h1
theorem rX (a b:Nat) (v1 v2:Value) (w:World) (h1:aI w a v1) (h2:aI w b v2) (hba:b<=a) (la:(Ig.grp a).length<=90000) :
 Calls Tryz.prog 101 #[v1,v2] w fun e w'=>∃v,e=.returned v/\aI w' (a-b) v/\Below w.heap.size w w':=by
 obtain⟨A1,c1,rfl,hA1,hn1,hm1⟩:=h1.out;obtain ⟨A2,c2,rfl,hA2,hn2,hm2⟩:=h2.out;have hlb:=Ry hba;have hsum:Ig.dI (fun i=>Ig.bW (Ig.grp a) i-Ig.bW (Ig.grp b) i) (Ig.grp a).length=((a-b:Nat):Int):=by rw[Ig.zV,vH a (Nat.le_refl _),vH b hlb];omega
 have ga:=Ig.dn a;have gb:=Ig.dn b;generalize hla:Ig.grp a=l at *;generalize hlb':Ig.grp b=m at *;clear hla hlb' h1 h2;have W1:=au w (.cells #[.slice A1 l.length c1] 127);have W2:=bNew W1 (.cells #[.slice A2 m.length c2] 127);have B1:=(Bx.mk w 127 #[.slice A1 l.length c1]).new (.cells #[.slice A2 m.length c2] 127);have B2:=Bx.mk (w.alloc (.cells #[.slice A1 l.length c1] 127)) 127 #[.slice A2 m.length c2];rw [ah]at B2;have k1:=B1.cell 0 rfl;have k2:=B2.cell 0 rfl;have tw:Two (w.heap.size+2) _ w.heap.size (w.heap.size+1) l m:=⟨⟨A1,c1,A2,c2,B1,B2,(hA1.below W2).more (by omega),(hA2.below W2).more (by omega),hn1,hn2⟩,by omega,by omega,by rw[ah,ah];omega⟩
 have hf:=Bg l.length (fun i=>Ig.bW l i-Ig.bW m i) w.heap.size (w.heap.size+1) (fun W=>Two (w.heap.size+2) W w.heap.size (w.heap.size+1) l m) ((w.alloc (.cells #[.slice A1 l.length c1] 127)).alloc (.cells #[.slice A2 m.length c2] 127))
  (fun W W' hW hb=>hW.call (by rw[ah,ah]at hb;exact hb)) (fun W i hW hi=>GI (w.heap.size+2) l m w.heap.size (w.heap.size+1) i W hW (by omega) (by omega) ga gb hi)
  (fun i=>by have:=Ig.fK ga i;have:=Ig.fK gb i;omega) (fun i hi=>by rw[Ig.jF (by omega),Ig.jF (by omega)];rfl) (by rw[hsum];omega) (by omega) tw
 rw[hsum,Int.toNat_natCast]at hf;clear tw B1 B2 hsum ga gb hA1 hA2
 go_enter Tryz.func101,Tryz.ntmps101
 go_wp2_with fail;refine hf.mono ?_;rintro _ w3 ⟨A3,out,cap3,rfl,hA3,hc3,Zj,ho3,ht3,hb3⟩;clear hf;go_wp2_with fail;refine (jk out A3 cap3 _ hA3 hc3 (by omega)).mono ?_;rintro _ _ ⟨rfl,rfl⟩;go_wp2;go_ret;exact ⟨_,rfl,wP hA3 hc3 Zj ht3,aj W2 hb3⟩
theorem EU (a c:Nat) (v1:Value) (w:World) (h1:aI w a v1) (hc:c<=10000) (la:(Ig.grp a).length<=90000) :
 Calls Tryz.prog 139 #[v1,.int .i64 c] w fun e w'=>∃v,e=.returned v/\aI w' (a*c) v/\Below w.heap.size w w':=by
 obtain⟨A1,c1,rfl,hA1,hn1,hm1⟩:=h1.out;have hsum:Ig.dI (fun i=>Ig.bW (Ig.grp a) i*c) (Ig.grp a).length=((a*c:Nat):Int):=by rw[Ig.Hz,vH a (Nat.le_refl _)];simp
 have ga:=Ig.dn a;generalize hla:Ig.grp a=l at *;clear hla h1;have W1:=au w (.cells #[.slice A1 l.length c1] 127);have W2:=bNew W1 (.cells #[.int .i64 c] 3);have B1:=(Bx.mk w 127 #[.slice A1 l.length c1]).new (.cells #[.int .i64 c] 3);have B2:=Bx.mk (w.alloc (.cells #[.slice A1 l.length c1] 127)) 3 #[.int .i64 c];rw [ah]at B2;have k1:=B1.cell 0 rfl;have tw:DK (w.heap.size+2) _ w.heap.size (w.heap.size+1) l c:=⟨⟨A1,c1,B1,B2,(hA1.below W2).more (by omega),hn1⟩,by omega,by omega,by rw[ah,ah];omega⟩
 have hf:=JR l.length (fun i=>Ig.bW l i*c) w.heap.size (w.heap.size+1) (fun W=>DK (w.heap.size+2) W w.heap.size (w.heap.size+1) l c) ((w.alloc (.cells #[.slice A1 l.length c1] 127)).alloc (.cells #[.int .i64 c] 3))
  (fun W W' hW hb=>hW.call (by rw[ah,ah]at hb;exact hb)) (fun W i hW hi=>Tm (w.heap.size+2) l c w.heap.size (w.heap.size+1) i W hW (by omega) ga (by omega) (by omega) hi)
  (fun i=>by
   have h2:=Ig.fK ga i;have h3:0<=Ig.bW l i*(c:Int):=Int.mul_nonneg h2.1 (by omega);have h4:=Int.mul_le_mul (show Ig.bW l i<=10000 by omega) (show (c:Int)<=10000 by omega) (by omega) (by omega)
   omega) (fun i hi=>by rw[Ig.jF (by omega)];simp) (by rw[hsum];omega) (by omega) tw
 rw[hsum,Int.toNat_natCast]at hf;clear tw B1 B2 hsum ga hA1
 go_enter Tryz.func139,Tryz.ntmps139
 go_wp2_with fail;refine hf.mono ?_;rintro _ w3 ⟨A3,out,cap3,rfl,hA3,hc3,Zj,ho3,ht3,hb3⟩;clear hf;go_wp2_with fail;refine (jk out A3 cap3 _ hA3 hc3 (by omega)).mono ?_;rintro _ _ ⟨rfl,rfl⟩;go_wp2;go_ret;exact ⟨_,rfl,wP hA3 hc3 Zj ht3,aj W2 hb3⟩
section
variable {P:Program} {ops:Array Oper}
theorem Nj {o:Oper} {a:Act} {w:World} {K:Act->World->Prop} {Q:Exit->Act->World->Prop} {l m:Nat} (hnd:∀c,o.op≠.defer c) (h:o.wp P a w K Q):o.wpIn (Fence.wide.inRound l) m P a w K Q:=by
 refine⟨fun _ _=>trivial,?_⟩;rw [Oper.semAt_plain _ _ _ hnd]
 unfold Oper.wp at h
 generalize (execOp a.eval o).run P w=r at h ⊢
 cases r with
 | ok x w' =>
  cases x <;> simp only[Oper.upon,Oper.uponIn]at h ⊢
  case enter f args=>exact⟨(fun h=>by cases h),(callsIn_wide.2 h).inRound l⟩
  case row=>exact⟨(fun h=>by cases h),fun c cs _=>by
   obtain⟨v,w'',h1,h2⟩:=h c cs
   exact⟨v,w'',h1,stepsIn_wide.2 h2⟩⟩
  all_goals first|exact h|exact h.elim
 | halt x w'=>cases x <;> simp only[Oper.upon,Oper.uponIn]at h ⊢ <;> first|exact h|exact h.elim
def rW (ops:Array Oper):Bool:=ops.all fun o=>match o.op with|.defer _=>false|_=>true
theorem Ei (h:rW ops=true) {i:Nat} {o:Oper} (ho:ops[i]? = some o):∀c,o.op≠.defer c:=by
 intro c hc
 unfold rW at h
 rw[Array.all_eq_true']at h;have:=h o (Array.mem_of_getElem? ho);rw [hc]at this;cases this
theorem MF {Q:Exit->Act->World->Prop} {i l m:Nat} {K:Act->World->Prop} {a:Act} {w:World} (hd:rW ops=true) (hq:¬LetsOut Q) (h:wpOp P ops Q i K a w):wpOpIn (Fence.wide.inRound l) m P ops Q i K a w:=by
 unfold wpOp at h
 unfold wpOpIn
 cases ho:ops[i]? with
 | none=>rw[ho]at h;exact h
 | some o =>
  rw[ho]at h;simp only at h ⊢
  split at h
  · rw[if_pos (by assumption)]
    rcases h with h|⟨_,h⟩
    · exact Nj (Ei hd ho) h
    · exact absurd h hq
  · rw[if_neg (by assumption)];exact ⟨fun _ _=>trivial,h⟩
theorem tC {Q:Exit->Act->World->Prop} {md:Region.Mode} {l m:Nat} (hd:rW ops=true) (hq:¬LetsOut Q):∀(f:Nat) (listed:Array Bool) (a:Act) (w:World),wpAny P md ops Q f listed a w->wpAnyIn (Fence.wide.inRound l) m P md ops Q f listed a w
 | 0,_,_,_,h=>h
 | f+1,listed,a,w,h=>⟨h.1,fun i hi=>wpOpIn_mono (fun a w h=>tC hd hq f _ a w h) (MF hd hq (h.2 i hi))⟩
theorem Gt {o:Oper} {a:Act} {w:World} {K K':Act->World->Prop} {Q Q':Exit->Act->World->Prop} {l m:Nat} (hnd:∀c,o.op≠.defer c) (hq:∀e a w,Q e a w->Q' e a w) (hlo:¬LetsOut Q) (hK:∀a w,K a w->K' a w) (h:o.wp P a w K Q):o.wpIn (Fence.wide.inRound l) m P a w K' Q':=by
 refine⟨fun _ _=>trivial,?_⟩;rw [Oper.semAt_plain _ _ _ hnd]
 unfold Oper.wp at h
 generalize (execOp a.eval o).run P w=r at h ⊢
 cases r with
 | ok x w' =>
  cases x <;> simp only[Oper.upon,Oper.uponIn]at h ⊢
  case enter f args=>exact⟨(fun h=>by cases h),((callsIn_wide.2 h).inRound l).mono (fun e w'' he=>by cases e <;> first|exact hK _ _ he|exact hq _ _ _ he|exact absurd he hlo)⟩
  case row=>exact⟨(fun h=>by cases h),fun c cs _=>by
   obtain⟨v,w'',h1,h2⟩:=h c cs
   exact⟨v,w'',hK _ _ h1,stepsIn_wide.2 h2⟩⟩
  all_goals first|exact hK _ _ h|exact h.elim
 | halt x w'=>cases x <;> simp only[Oper.upon,Oper.uponIn]at h ⊢ <;> first|exact hq _ _ _ h|exact h.elim
def Gy (l:List Oper):Bool:=l.all fun o=>match o.op with|.defer _=>false|_=>true
theorem nJ {Q:Exit->Act->World->Prop} {k m:Nat}:∀(l:List Oper) (a:Act) (w:World),Gy l=true->wpList P ops (fun e a' w'=>e=.normal/\Q .normal a' w') l a w->wpListIn (Fence.wide.inRound k) m P ops Q l a w
 | [],a,w,_,h=>h.2
 | o :: l,a,w,hd,h=>by
  simp only[Gy,List.all_cons,Bool.and_eq_true]at hd
  have hnd:∀c,o.op≠.defer c:=by
   intro c hc;rw [hc]at hd;cases hd.1
  have hlo:¬LetsOut (fun e a' w'=>e=.normal/\Q .normal a' w'):=by rintro ⟨_,_,h,_⟩;cases h
  simp only[wpList,wpListIn]at h ⊢
  split at h
  · rw[if_pos (by assumption)]
    rcases h with h|⟨_,h⟩
    · exact Gt hnd (fun e a w ⟨he,h⟩=>he ▸ h) hlo (fun a w h=>nJ l a w hd.2 h) h
    · exact absurd h hlo
  · rw[if_neg (by assumption)];exact ⟨fun _ _=>trivial,nJ l _ w hd.2 h⟩
theorem jf {id l m:Nat} {os:List Oper} {Q:Exit->Act->World->Prop} {a0:Act} {w0:World} (ps:List (Value->World->Prop)) (n sz:Nat) (hm:P.follows .mixedOrders=true) (hd:rW os.toArray=true) (hnp:ps.length=n) (hsz:a0.tmps.size=sz)
 (hB:(nH os.toArray sz&&iD os.toArray n&&(decide (os.length<=n)||(Region.sinkB .any os.toArray n&&Region.chainB .any os.toArray n))&&decide (n<=os.length)&&Region.seqB .any os.toArray (os.length-n) n ((List.range os.length).map fun i=>decide (i<n)).toArray)=true)
 (hst:bV ps) (hsteps:Users P ps w0 a0 [] (os.take n) ps)
 (hfin:∀vs w',Below w0.heap.size w0 w'->cZ vs w' 0 ps->wpList P os.toArray (fun e a'' w''=>e=.normal/\Q .normal a'' w'') (os.drop n) (aQ vs 0 ((os.take n).map (·.dst)) a0) w'):(Code.region id os.toArray true).wpIn (Fence.wide.inRound l) m P Q a0 w0 :=
 wpIn_mono (wpIn_region_any hm (tC hd (by rintro ⟨_,_,h,_⟩;cases h) _ _ _ _ (dJ ps n sz hnp hsz hB hst hsteps hfin))) (fun e a w ⟨he,h⟩=>he ▸ h)
end
open Go.RowKit Go.Shelf
attribute [local go_sem] Oper.semAt_some
def dL (n:Nat):List (Fin n):=(List.finRange n).reverse
theorem jl (n:Nat):(dL n).length=n:=by simp[dL]
theorem j_ {n t:Nat} (h:t<n):(dL n).take (n-t)=(dL n).take (n-(t+1))++[⟨t,h⟩]:=by
 have hk:n-(t+1)<(dL n).length:=by rw[jl];omega
 rw[show n-t=n-(t+1)+1 by omega,List.take_succ_eq_append_getElem hk]
 congr 2
 simp only[dL,List.getElem_reverse,List.getElem_finRange,List.length_finRange];apply Fin.ext
 simp;omega
def vY (n₀ Bs:Nat) (W W':World):Prop:=Below n₀ W W'/\W'.heap[Bs]? = W.heap[Bs]?
theorem vY.refl (n₀ Bs:Nat) (W:World):vY n₀ Bs W W:=⟨Below.refl _ _,rfl⟩
theorem vY.trans {n₀ Bs:Nat} {A B C:World} (h:vY n₀ Bs A B) (k:vY n₀ Bs B C):vY n₀ Bs A C:=⟨h.1.trans k.1,k.2.trans h.2⟩
theorem ni {W W':World} {b o:Nat} (h:W'.heap[b]? = W.heap[b]?):W'.cell? ⟨b,o,none⟩=W.cell? ⟨b,o,none⟩:=by unfold World.cell?;rw[h]
theorem Ll {n₀ Bs:Nat} {w:World} (h1:n₀<=w.heap.size) (h2:Bs<w.heap.size) (W:World) (l:Nat) (o o':Obj) (hl:w.heap.size<=l) (h:W.heap[l]? = some o) (hc:o.isCells=false) (hw:o.isWalk=false):vY n₀ Bs W (W.putObj l o') :=
 ⟨belowK_b (w:=w) h1 W l o o' hl h hc hw,by
  have hne:l≠Bs:=by omega
  show (W.heap.setIfInBounds l o')[Bs]? = _
  rw[Array.getElem?_setIfInBounds_ne hne]⟩
def handed (l:List Int) (x:Fin l.length):Array Value:=#[.int .i64 (x.1:Int),.int .i64 l[x.1]]
theorem Tv (F:Fence) (n:Nat) (h7:F.fn 180) (hro:F.round=none) (hn:1<=n) (l Bs n₀ b off cap:Nat) (zs:List Int) (hreach:zs.length<=100000) (hb:b<n₀) (J Jx:List (Fin zs.length)->World->Prop)
 (hY:∀pre x W,J pre W->pre.length<zs.length->YieldAt F (n-1) Tryz.prog l (handed zs x) W fun e W' =>
  (e=.returned (.bool true)/\J (pre++[x]) W'/\vY n₀ Bs W W')∨(e=.returned (.bool false)/\Jx (pre++[x]) W'))
 (W:World) (hBs:W.cell? ⟨Bs,0,none⟩=some (.slice (some ⟨b,off,none⟩) zs.length cap)) (hc:∀(j:Nat) (hj:j<zs.length),W.cell? ⟨b,off+j,none⟩=some (.int .i64 zs[j])) (h0:J [] W) :
 CallsIn F n Tryz.prog 180 #[.func (.yield l) #[] #[],.pointer (some ⟨Bs,0,none⟩)] W fun e W'=>(∃v,e=.returned v) /\
  ((∃ys,ys=dL zs.length/\J ys W')∨(∃pre,(∃k,k<=zs.length/\pre=(dL zs.length).take k)/\Jx pre W')):=by
 refine callsIn_of_wp Tryz.func180 rfl h7 ?_ hro;simp only[Tryz.ntmps180,List.size_toArray,List.length_cons,List.length_nil,Nat.reduceAdd,Nat.reduceSub,Array.replicate_succ,Array.replicate_zero,List.push_toArray,List.append_toArray,List.nil_append,List.cons_append]
 gi_wp2
 gi_loopw [3] (fun i wr=>∃r:Nat,r<=zs.length/\i=.int .i64 ((r:Int)-1)/\J ((dL zs.length).take (zs.length-r)) wr/\vY n₀ Bs W wr)
  (fun i _=>(intOf i+1).toNat)
 case atStart=>exact⟨zs.length,Nat.le_refl _,rfl,by rw[Nat.sub_self];exact h0,vY.refl _ _ _⟩
 case round =>
  obtain⟨r,hr,rfl,hJs,hnx⟩:=hrel;have hBs':wr.cell? ⟨Bs,0,none⟩=some (.slice (some ⟨b,off,none⟩) zs.length cap):=(ni hnx.2).trans hBs;by_cases hr0:0<r
  · obtain⟨t,rfl⟩:∃t,r=t+1:=⟨r-1,by omega⟩
    have htl:t<zs.length:=by omega
    have hct:wr.cell? ⟨b,off+t,none⟩=some (.int .i64 zs[t]):=(hnx.1.cell (p:=⟨b,off+t,none⟩) hb).trans (hc t htl);have hcast:((t+1:Nat):Int)-1=(t:Int):=by omega
    have hsucc:=j_ htl;obtain ⟨fn,tmps,assign,body,hy,hR⟩:=hY _ ⟨t,htl⟩ wr hJs (by rw[List.length_take,jl];omega);rw [←hsucc]at hR;simp only[handed]at hy;clear hc hBs h0 hY;generalize zs[t]=g at *;simp only[hcast]
    gi_wp2
    refine hR.mono ?_;rintro e W3 (⟨rfl,hJ3,hk3⟩|⟨rfl,hJx3⟩)
    · gi_wp2
      go_roundw
      case rel=>exact⟨t,by omega,rfl,hJ3,hnx.trans hk3⟩
      case measure=>simp[intOf]
    · gi_wp2
      refine bodyPost_ret (results_none rfl _ _ _) rfl ?_;exact ⟨⟨_,rfl⟩,.inr ⟨_,⟨zs.length-t,by omega,rfl⟩,hJx3⟩⟩
  · obtain rfl:r=0:=by omega
    have hcast:((0:Nat):Int)-1= -1:=rfl;clear hc hBs h0 hY;simp only[hcast];rw [Nat.sub_zero,List.take_of_length_le (by rw[jl];omega)]at hJs
    gi_wp2
    go_end0
    exact⟨⟨_,rfl⟩,.inl ⟨_,rfl,hJs⟩⟩
theorem EX (F:Fence) (n:Nat) (h7:F.fn 180) (hro:F.round=none) (l Bs:Nat) (A:Option Addr) (cap:Nat) (J:List (Fin 0)->World->Prop) (W:World) (hBs:W.cell? ⟨Bs,0,none⟩=some (.slice A 0 cap)) (h0:J [] W) :
 CallsIn F n Tryz.prog 180 #[.func (.yield l) #[] #[],.pointer (some ⟨Bs,0,none⟩)] W fun e W'=>(∃v,e=.returned v)/\J [] W':=by
 refine callsIn_of_wp Tryz.func180 rfl h7 ?_ hro;simp only[Tryz.ntmps180,List.size_toArray,List.length_cons,List.length_nil,Nat.reduceAdd,Nat.reduceSub,Array.replicate_succ,Array.replicate_zero,List.push_toArray,List.append_toArray,List.nil_append,List.cons_append]
 gi_wp2
 gi_loopw [3] (fun i wr=>i=.int .i64 (-1)/\J [] wr) (fun _ _=>0)
 case atStart=>exact⟨rfl,h0⟩
 case round =>
  obtain⟨rfl,hJs⟩:=hrel
  gi_wp2
  go_end0
  exact⟨⟨_,rfl⟩,hJs⟩
theorem yR (F:Fence) (n:Nat) (h5:F.fn 137) (hro:F.round=none) (A:Option Addr) (len cap:Nat) (w:World) :
 CallsIn F n Tryz.prog 137 #[.slice A len cap] w fun e w'=>e=.returned (.func (.func 180) #[] #[.pointer (some ⟨w.heap.size,0,none⟩)])/\w'=w.alloc (.cells #[.slice A len cap] 127):=by
 refine callsIn_of_wp Tryz.func137 rfl h5 ?_ hro;simp only[Tryz.ntmps137,List.size_toArray,List.length_cons,List.length_nil,Nat.reduceAdd,Nat.reduceSub,Array.replicate_succ,Array.replicate_zero,List.push_toArray,List.append_toArray,List.nil_append,List.cons_append]
 gi_wp2
 go_ret;exact ⟨rfl,rfl⟩
theorem pV (F:Fence) (n:Nat) (h8:F.fn 180) (hro:F.round=none) (hn:1<=n) (Bs n₀:Nat) (A:Option Addr) (cap:Nat) (zs:List Int) (hreach:zs.length<=100000) (w:World) (hBs:Bs<w.heap.size) (hn₀:n₀<=w.heap.size)
 (hc:w.cell? ⟨Bs,0,none⟩=some (.slice A zs.length cap)) (hI:At 1 aO w n₀ A zs) :
 SeqStopsK F n Tryz.prog 180 #[.pointer (some ⟨Bs,0,none⟩)] (handed zs) (vY n₀ Bs) (fun ys=>ys=dL zs.length)
  (fun pre=>∃k,k<=zs.length/\pre=(dL zs.length).take k) zs.length w:=fun l J Jx W hW _ _ hY h0=>by
 have Vl:=hW.mono hn₀;have hc':=(hW.cell (p:=⟨Bs,0,none⟩) hBs).trans hc;have hI':=hI.below Vl;by_cases h:0<zs.length
 · obtain⟨b,off,rfl,hb,hcs⟩:=hI' h
   exact Tv F n h8 hro hn l Bs n₀ b off cap zs hreach hb J Jx hY W hc' (fun j hj=>by
    have:=hcs j zs[j] (List.getElem?_eq_getElem hj) 0 _ rfl
    simpa using this) h0
 · obtain rfl:zs=[]:=List.length_eq_zero_iff.1 (by omega);exact (EX F n h8 hro l Bs A cap J W hc' h0).mono fun e W' ⟨he,hj⟩=>⟨he,.inl ⟨_,rfl,hj⟩⟩
attribute [local go_sem] Oper.semAt_some
def hor (l:List Int) (pre:List (Fin l.length)):Nat:=pre.foldl (fun a t=>a*10000+l[t.1].toNat) 0
theorem ou (l:List Int) (pre:List (Fin l.length)) (t:Fin l.length):hor l (pre++[t])=hor l pre*10000+l[t.1].toNat:=by simp[hor,List.foldl_append]
theorem Ye {l:List Int} (h:Ig.Gr l) (pre:List (Fin l.length)):hor l pre<10000 ^ pre.length:=by
 have:∀(k:Nat) (pre:List (Fin l.length)),pre.length=k->hor l pre<10000 ^ k:=by
  intro k
  induction k with
  | zero=>intro pre hp;rw[List.length_eq_zero_iff.1 hp];simp[hor]
  | succ k ih =>
   intro pre hp
   rcases List.eq_nil_or_concat pre with h0|⟨m,t,h0⟩
   · rw[h0]at hp;simp at hp
   · obtain rfl:pre=m++[t]:=by simpa using h0
     have h1:=ih m (by simpa using hp);have h2:=h l[t.1] (List.getElem_mem t.2);rw [ou,Nat.pow_succ];omega
 exact this _ _ rfl
theorem zI (l:List Int) (h:Ig.Gr l):∀k,k<=l.length->((hor l ((dL l.length).take k):Nat):Int)=Ig.from_ l (l.length-k)
 | 0,_=>by rw[List.take_zero,Nat.sub_zero,Ig.qR (Nat.le_refl _)];rfl
 | k+1,hk=>by
  have ih:=zI l h k (by omega);have ht:l.length-(k+1)<l.length:=by omega
  have hs:=j_ ht;rw [show l.length-(l.length-(k+1))=k+1 by omega,show l.length-(l.length-(k+1)+1)=k by omega]at hs;have h2:=h l[l.length-(k+1)] (List.getElem_mem ht);rw [hs,ou,Ig.lT ht,show l.length-(k+1)+1=l.length-k by omega,←ih];simp only;omega
theorem Ls (b:Nat):hor (Ig.grp b) (dL (Ig.grp b).length)=b:=by
 have h1:=zI (Ig.grp b) (Ig.dn b) (Ig.grp b).length (Nat.le_refl _);rw [List.take_of_length_le (by rw[jl];omega),Nat.sub_self,Ig.oD,Ig.bY]at h1;omega
theorem fF {W W':World} (h:Below W.heap.size W W') (B:Nat):KeepsFrom B W W':=⟨h.size,fun k o _ hk _=>(h.block k (Array.getElem?_eq_some_iff.1 hk).1).trans hk⟩
section
variable {W W':World} {row:Option Nat}
theorem fH {g:Nat} {t:TypeId} {cs:Array Value} (h:Bx W g t cs) (hg:W.grownBy W' row) (hr:∀r,row=some r->∃o:Obj,W.heap[r]? = some o/\o.isCells=false):Bx W' g t cs :=
 (hg.block g h.lt (fun e=>by
  obtain⟨o,ho,hc⟩:=hr g e.symm;rw [show W.heap[g]? = _ from h]at ho
  cases ho;cases hc)).trans h
theorem VE {α:Type} {size:Nat} {f:α->List Value} {A:Option Addr} {p:List α} (h:At size f W W.heap.size A p) (hg:W.grownBy W' row) (hr:∀r,row=some r->∃o:Obj,W.heap[r]? = some o/\o.isCells=false):At size f W' W'.heap.size A p:=fun h0=>by
 obtain⟨b,off,e,hb,hc⟩:=h h0;exact ⟨b,off,e,Nat.lt_of_lt_of_le hb hg.size,fun i c hi j u hj=>cell_kept (hc i c hi j u hj) hg hr⟩
theorem qM {a:Nat} {v:Value} (h:aI W a v) (hg:W.grownBy W' row) (hr:∀r,row=some r->∃o:Obj,W.heap[r]? = some o/\o.isCells=false):aI W' a v:=by
 obtain⟨A,cap,h1,h2,h3,h4⟩:=h.out;exact ⟨A,cap,h1,VE h2 hg hr,h3,h4⟩
end
theorem nO {a b m n:Nat} (ha:(Ig.grp a).length<=m) (hb:b<10000 ^ n):(Ig.grp (a*b)).length<=m+n:=by
 refine Ig.fG ?_;rw [Nat.pow_add];exact Nat.mul_lt_mul'' (Nat.lt_of_lt_of_le (Ig.iZ a) (Nat.pow_le_pow_right (by decide) ha)) hb
theorem Qe {d:Nat} (h:d<10000):d<10000 ^ 1:=by rw[Nat.pow_one];exact h
theorem Ba {a m:Nat} (ha:(Ig.grp a).length<=m):(Ig.grp (a*10000)).length<=m+1:=by
 refine Ig.fG ?_;rw [Nat.pow_succ];exact Nat.mul_lt_mul_of_pos_right (Nat.lt_of_lt_of_le (Ig.iZ a) (Nat.pow_le_pow_right (by decide) ha)) (by decide)
theorem at_set {W:World} {g:Nat} {t:TypeId} {A A':Option Addr} {n c B:Nat} {p:List Int} (hB:Bx W g t #[.slice A n c]) (h:At 1 aO W B A' p) (u:Value):At 1 aO (W.setCell ⟨g,0,none⟩ u) B A' p:=fun h0=>by
 obtain⟨b,off,e,hb,hc⟩:=h h0
 have hne:b≠g:=by
  rintro rfl;have h1:=hc 0 p[0] (List.getElem?_eq_getElem h0) 0 (.int .i64 p[0]) rfl
  unfold Bx at hB
  rw[World.cell?,hB]at h1
  rcases Nat.eq_zero_or_pos off with h2|h2
  · subst h2;simp at h1
  · obtain⟨k,rfl⟩:=Nat.exists_eq_succ_of_ne_zero (Nat.ne_of_gt h2);simp at h1
 exact⟨b,off,e,hb,fun i c hi j v hj=>(ni (Below.heap_setCell W ⟨g,0,none⟩ u b hne)).trans (hc i c hi j v hj)⟩
theorem kH {W:World} {g:Nat} {t:TypeId} {A:Option Addr} {n c a:Nat} {v:Value} (hB:Bx W g t #[.slice A n c]) (h:aI W a v) (u:Value):aI (W.setCell ⟨g,0,none⟩ u) a v:=by
 obtain⟨A',cap,h1,h2,h3,h4⟩:=h.out;exact ⟨A',cap,h1,(at_set hB h2 u).more (KeepsOthers.setCell W _ u).size,h3,h4⟩
structure Y9 (w:World) (v1:Value) (x:Nat) (W:World):Prop where
 hb:Below w.heap.size w W
 le:w.heap.size+3<=W.heap.size
 B1:Bx W w.heap.size 127 #[v1]
 out:∃v,Bx W (w.heap.size+1) 127 #[v]/\aI W x v
theorem times_any (a b:Nat) (v1 v2:Value) (w:World) (h1:aI w a v1) (h2:aI w b v2) (la:(Ig.grp a).length<=20000) (lb:(Ig.grp b).length<=20000) :
 Calls Tryz.prog 157 #[v1,v2] w fun e w'=>∃v,e=.returned v/\aI w' (a*b) v/\Below w.heap.size w w':=by
 obtain⟨A1,c1,rfl,hA1,hn1,hm1⟩:=h1.out;obtain ⟨A2,c2,rfl,hA2,hn2,hm2⟩:=h2.out;refine (callsIn_wide (n:=3)).1 ?_;refine callsIn_of_wp_marks Tryz.func157 rfl trivial ?_ rfl;simp only[Tryz.ntmps157,List.size_toArray,List.length_cons,List.length_nil,Nat.reduceAdd,Nat.reduceSub,Array.replicate_succ,Array.replicate_zero,List.push_toArray,List.append_toArray,List.nil_append,List.cons_append]
 gi_wp2_with (refine ⟨trivial,?_⟩;gi_at_call 137;refine (yR Fence.wide 2 trivial rfl _ _ _ _).mono ?_;rintro e w' ⟨rfl,rfl⟩)
 have hb0:=bNew (bNew (au w (.cells #[.slice A1 (Ig.grp a).length c1] 127)) (.cells #[.slice none 0 0] 127)) (.cells #[.slice A2 (Ig.grp b).length c2] 127);have B1:=((Bx.mk w 127 #[.slice A1 (Ig.grp a).length c1]).new (.cells #[.slice none 0 0] 127)).new (.cells #[.slice A2 (Ig.grp b).length c2] 127);have B5:=(Bx.mk (w.alloc (.cells #[.slice A1 (Ig.grp a).length c1] 127)) 127 #[.slice none 0 0]).new (.cells #[.slice A2 (Ig.grp b).length c2] 127);have B7:=Bx.mk ((w.alloc (.cells #[.slice A1 (Ig.grp a).length c1] 127)).alloc (.cells #[.slice none 0 0] 127)) 127 #[.slice A2 (Ig.grp b).length c2];have hsz:(((w.alloc (.cells #[.slice A1 (Ig.grp a).length c1] 127)).alloc (.cells #[.slice none 0 0] 127)).alloc (.cells #[.slice A2 (Ig.grp b).length c2] 127)).heap.size=w.heap.size+3:=by rw[ah,ah,ah]
 rw[ah]at B5;rw [ah,ah]at B7;generalize (((w.alloc (.cells #[.slice A1 (Ig.grp a).length c1] 127)).alloc (.cells #[.slice none 0 0] 127)).alloc (.cells #[.slice A2 (Ig.grp b).length c2] 127))=W0 at *
 refine wpIn_rangeFunc_ownG rfl (by decide) (gf:=180) (lb:=#[.pointer (some ⟨w.heap.size+1+1,0,none⟩)]) rfl trivial (enters_of Tryz.func180 (by kernel_rfl) rfl)
  (pV Fence.wide 2 trivial rfl (by decide) (w.heap.size+1+1) w.heap.size A2 c2 (Ig.grp b) (by omega) W0 (by omega) (by omega) (B7.cell 0 rfl) (hA2.below hb0)) vY.trans (Ll (by omega) (by omega)) (Below.refl _ _) (fun _=>rfl)
  (fun pre W=>Y9 w (.slice A1 (Ig.grp a).length c1) (a*hor (Ig.grp b) pre) W) (fun _ _ _=>False)
  (fun pre W W' row hs hg hr=>⟨hs.hb.grown hg hs.hb.size (fun k e=>by have:=(hr k e).1;omega),Nat.le_trans hs.le hg.size,fH hs.B1 hg (fun r e=>(hr r e).2),by obtain⟨v,h1,h2⟩:=hs.out;exact⟨v,fH h1 hg (fun r e=>(hr r e).2),qM h2 hg (fun r e=>(hr r e).2)⟩⟩)
  (fun _ _ _ _ _ hs _ _=>hs)
  ⟨hb0,by omega,B1,_,B5,⟨none,0,by simp[hor,Ig.aP],by simp only[hor,List.foldl_nil,Nat.mul_zero,Ig.aP];exact At.nil,by simp[hor,Ig.aP],Nat.zero_le _⟩⟩
  (fun x=>{ tmps:=#[.slice A1 (Ig.grp a).length c1,.slice A2 (Ig.grp b).length c2,.pointer (some ⟨w.heap.size,0,none⟩),undef,.slice none 0 0,.pointer (some ⟨w.heap.size+1,0,none⟩),undef,.int .i64 (Ig.grp b)[x.1],.slice A2 (Ig.grp b).length c2,
   .func (.func 180) #[] #[.pointer (some ⟨w.heap.size+1+1,0,none⟩)],.int .i64 (x.1:Int),.int .i64 (Ig.grp b)[x.1],undef,undef,undef,undef,undef,undef,undef,undef,undef,undef,undef,undef],defers:=[] }) ?assign ?body ?done ?stop
 case assign =>
  intro l x W K hK;simp only[handed]
  gi_wp2
  exact hK
 case body =>
  rintro l pre x W ⟨hb,hle,TT,v,Xp,hN⟩ hlt;have hgx:=Ig.dn b (Ig.grp b)[x.1] (List.getElem_mem x.2);obtain ⟨d,hd⟩:=Int.eq_ofNat_of_zero_le hgx.1;have hd9:d<10000:=by omega
  have hsn:Kp (a*hor (Ig.grp b) (pre++[x])=a*hor (Ig.grp b) pre*10000+a*d):=⟨by rw[ou,hd,Int.toNat_natCast,Nat.mul_add,Nat.mul_assoc]⟩
  have hlx:=Ye (Ig.dn b) pre;have hpl:pre.length<=20000:=by omega
  have hay0:(Ig.grp (a*hor (Ig.grp b) pre)).length<=20000+pre.length:=nO la hlx;have hay:(Ig.grp (a*hor (Ig.grp b) pre)).length<=40000:=by omega
  have hay2:(Ig.grp (a*hor (Ig.grp b) pre*10000)).length<=40000+1:=Ba hay;have had:(Ig.grp (a*d)).length<=20000+1:=nO la (Qe hd9);clear hay0;have hNa:aI W a (.slice A1 (Ig.grp a).length c1):=⟨A1,c1,rfl,(hA1.below hb).more hb.size,hn1,hm1⟩
  have Yi:w.heap.size+1+1<W.heap.size:=by have:=hle;omega
  generalize hor (Ig.grp b) pre=y at *;simp only[hd];clear hlx hpl hgx hd;by_cases hy:a*y=0
  · obtain⟨A5,c5,rfl,YD,OL,Vf⟩:=hN.out;have hl0:(Ig.grp (a*y)).length=0:=by rw[hy,Ig.aP];rfl
    have hcell:=Xp.cell 0 rfl;rw [hl0]at hcell
    have Ub:aI W (a*y*10000) (.slice A5 0 c5):=by
     rw[hl0]at hN;rw [hy]at hN ⊢;exact hN
    rw[hl0]at Xp
    gi_wp2
    have Xt:=TT;have TS:=Xp;have hb6:=hb;have QS:=KeepsFrom.refl W0.heap.size W;have NI:=vY.refl w.heap.size (w.heap.size+1+1) W;obtain ⟨W6,Zl⟩:∃W6,W6=W:=⟨_,rfl⟩
    obtain⟨v6,hv6⟩:∃v6,v6=Value.slice A5 0 c5:=⟨_,rfl⟩
    rw[←hv6]at TS Ub;replace QS:KeepsFrom W0.heap.size W W6:=by rw[Zl];exact QS
    replace NI:vY w.heap.size (w.heap.size+1+1) W W6:=by rw[Zl];exact NI
    rw[←Zl]at Xt TS hb6 hNa Ub;clear hb;have Yj:w.heap.size+1+1<W6.heap.size:=by rw[Zl];exact Yi
    rw[←Zl];clear hv6;clear Zl;have cc:=fun w1 (hb1:Below W6.heap.size W6 w1)=>(hb1.cell (p:=⟨w.heap.size+1,0,none⟩) TS.lt).trans (TS.cell 0 rfl)
    have cd:=fun w1 (hb1:Below W6.heap.size W6 w1)=>(hb1.cell (p:=⟨w.heap.size,0,none⟩) Xt.lt).trans (Xt.cell 0 rfl)
    refine jf [ak v6,ak (.slice A1 (Ig.grp a).length c1),ak (.int .i64 d),(fun v W=>aI W (a*d) v),(fun v W=>aI W (a*y*10000+a*d) v)] 5 24 (by kernel_rfl) (by kernel_rfl) rfl rfl (by kernel_rfl) ?_ ?_ ?_
    · simp only[bV]
      and_intros <;> first|exact aF _|exact fun v w w' h hb=>h.call hb|trivial
    · simp only[Users,List.take,List.length];refine ⟨?_,?_,?_,?_,?_,trivial⟩;all_goals (intro vs w1 hb1 hd;have c3:=cc w1 hb1;have c4:=cd w1 hb1;have hN1:=hNa.call hb1;have OO:=Ub.call hb1;clear cc cd;simp only[aQ,Act.put,List.nil_append,List.cons_append,List.setIfInBounds_toArray,List.set_cons_succ,List.set_cons_zero,Nat.reduceAdd])
      · clear hd;go_wp2;exact⟨Below.refl _ _,rfl⟩
      · clear hd;go_wp2;exact⟨Below.refl _ _,rfl⟩
      · clear hd;go_wp2;exact⟨Below.refl _ _,rfl⟩
      · have h1:vs 1=.slice A1 (Ig.grp a).length c1:=hd 1 rfl;have h2:vs 2=.int .i64 d:=hd 2 rfl;clear hd;rw [h1,h2];go_wp2_with fail;have hC:=EU a d _ _ hN1 (by omega) (by omega);refine hC.mono ?_;clear hC;rintro _ w9 ⟨v9,rfl,rZ,aY⟩;go_wp2;exact rZ
      · have h0:vs 0=v6:=hd 0 rfl;have h3:aI w1 (a*d) (vs 3):=hd 3 rfl;clear hd;rw [h0];go_wp2_with fail;have hC:=uT (a*y*10000) (a*d) v6 (vs 3) w1 OO h3 (by omega) (by omega);generalize a*y*10000=p1 at *;generalize a*d=p2 at *;refine hC.mono ?_;clear hC;rintro _ w9 ⟨v9,rfl,rZ,aY⟩;go_wp2;exact rZ
    · clear cc cd;intro vs wa hba hR;simp only[cZ,ak]at hR;obtain ⟨-,-,-,-,e4,-⟩:=hR;simp only[List.drop,List.take,List.map,aQ,Act.put,List.setIfInBounds_toArray,List.set_cons_succ,List.set_cons_zero,Nat.reduceAdd];have Zf:=Xt.call hba;have VQ:=TS.call hba;have hce:=VQ.cell 0 rfl;have hfr:=VQ.frozen 0;have Yu:=aj hb6 hba;have hkf:=QS.trans (fF hba W0.heap.size);have hkp:vY w.heap.size (w.heap.size+1+1) W wa:=NI.trans ⟨hba.mono (by have:=hb6.size;omega),hba.block _ Yj⟩;generalize vs 4=z4 at *;generalize vs 0=z0,vs 1=z1,vs 2=z2,vs 3=z3;obtain ⟨A9,c9,rfl,Fv,rZ,QN⟩:=e4.out;obtain ⟨A8,c8,rfl,-,-,-⟩:=Ub.out;clear Fv rZ QN Ub;generalize (Ig.grp (a*y*10000+a*d)).length=n9 at *;generalize (Ig.grp (a*y*10000)).length=n8 at *;go_wp2;refine ⟨hkf.trans ((KeepsOthers.setCell _ _ _).from _),hkp.trans ⟨(Below.refl _ _).setCell (Nat.le_succ _) _,Below.heap_setCell _ _ _ _ (by simp)⟩,aJ Yu (Nat.le_succ _) _,Nat.le_trans hle (Nat.le_trans hkp.1.size (KeepsOthers.setCell _ _ _).size),Zf.far (by simp) _,_,VQ.set 0 _,?_⟩;rw [hsn.out];exact kH VQ e4 _
  · obtain⟨A5,c5,rfl,YD,OL,Vf⟩:=hN.out
    have hl0:((Ig.grp (a*y)).length:Int) > 0:=by
     have:(Ig.grp (a*y)).length≠0:=fun h=>hy (Ig.jh.1 h)
     omega
    have hcell:=Xp.cell 0 rfl;have B51:=Xp.new (.cells #[.int .i64 0] 3);have hcell1:=B51.cell 0 rfl;have hP:Src Tryz.prog 1 127 (.slice A5 (Ig.grp (a*y)).length c5) (Ig.grp (a*y)).length ((Ig.grp (a*y)).flatMap aO) (W.alloc (.cells #[.int .i64 0] 3)):=At.src (f:=aO) (size:=1) (e:=3) (fun _=>rfl) (fun c u hu=>by simp[aO]at hu;subst hu;rfl) Tryz.underlying127 (YD.below (au W _)) c5
    gi_wp2_with (gi_at_builtin;refine nJ _ _ _ (by kernel_rfl) ?_;refine aK rfl (.tmp 15) (.tmp 16) rfl W.heap.size 1 1 (Ig.grp (a*y)).length [.int .i64 0] ((Ig.grp (a*y)).flatMap aO) _ _ rfl rfl ⟨W.heap.size,_,rfl,Nat.le_refl _,Nat.le_refl _,Bx.mk _ _ _,rfl,rfl⟩ (by rw[ah];omega) hP (by decide) (by omega) ?_;intro v' w' cap' e1 e2 e3 e4;have hb7:=(au W (.cells #[.int .i64 0] 3)).trans ((e2 rfl).mono (by rw[ah];omega));have Zr:=Xp.call hb7;have Yr:=Zr.cell 0 rfl;have Yq:=Zr.frozen 0;have hsh:∃g7,v'=.slice (some ⟨g7,0,none⟩) (1+(Ig.grp (a*y)).length) cap':=(by obtain⟨g7,_,h,_⟩:=e3;exact⟨g7,h⟩);obtain⟨g7,rfl⟩:=hsh)
    go_wp2
    gi_wp2
    have hfl:Kp ([Value.int .i64 0]++(Ig.grp (a*y)).flatMap aO=(Ig.grp (a*y*10000)).flatMap aO):=⟨by rw[Nat.mul_comm (a*y) 10000,←Ig.wZ hy];rfl⟩
    have hll:1+(Ig.grp (a*y)).length=(Ig.grp (a*y*10000)).length:=by rw[Nat.mul_comm (a*y) 10000,←Ig.wZ hy,List.length_cons];omega
    rw[hfl.out,hll]at e3;rw [hll]
    have Yx:aI w' (a*y*10000) (.slice (some ⟨g7,0,none⟩) (Ig.grp (a*y*10000)).length cap'):=by
     obtain⟨A,h1,h2,h3⟩:=cO.at (f:=aO) (size:=1) (fun _=>rfl) e3;exact ⟨A,cap',h1,h2,h3,e4⟩
    generalize (Ig.grp (a*y*10000)).length=n8 at Yx ⊢;have TS:=Zr.set 0 (.slice (some ⟨g7,0,none⟩) n8 cap');have Xt:=(TT.call hb7).far (p:=⟨w.heap.size+1,0,none⟩) (by simp) (.slice (some ⟨g7,0,none⟩) n8 cap');have hb6:=aJ (aj hb hb7) (p:=⟨w.heap.size+1,0,none⟩) (Nat.le_succ _) (.slice (some ⟨g7,0,none⟩) n8 cap');have QS:=(fF hb7 W0.heap.size).trans ((KeepsOthers.setCell w' ⟨w.heap.size+1,0,none⟩ (.slice (some ⟨g7,0,none⟩) n8 cap')).from W0.heap.size);have NI:vY w.heap.size (w.heap.size+1+1) W (w'.setCell ⟨w.heap.size+1,0,none⟩ (.slice (some ⟨g7,0,none⟩) n8 cap')):=vY.trans ⟨hb7.mono (by omega),hb7.block _ Yi⟩ ⟨(Below.refl _ _).setCell (Nat.le_succ _) _,Below.heap_setCell _ _ _ _ (by simp)⟩;have Yj:w.heap.size+1+1<(w'.setCell ⟨w.heap.size+1,0,none⟩ (.slice (some ⟨g7,0,none⟩) n8 cap')).heap.size:=Nat.lt_of_lt_of_le Yi NI.1.size;replace hNa:=kH Zr (hNa.call hb7) (.slice (some ⟨g7,0,none⟩) n8 cap');have Ub:=kH Zr Yx (.slice (some ⟨g7,0,none⟩) n8 cap');clear Yx B51 hcell1 hP e1 e2 e3 e4 hfl hll Yr Yq Zr hb7 hcell hN YD OL Vf;simp only[Array.setIfInBounds,List.size_toArray,List.length_cons,List.length_nil,Nat.zero_add,Nat.lt_add_one,dite_true,List.set_toArray,List.set_cons_zero]at TS;generalize w'.setCell ⟨w.heap.size+1,0,none⟩ (.slice (some ⟨g7,0,none⟩) n8 cap')=W6 at *;obtain ⟨v6,hv6⟩:∃v6,v6=Value.slice (some ⟨g7,0,none⟩) n8 cap':=⟨_,rfl⟩
    rw[←hv6]at TS Ub;clear hv6;have cc:=fun w1 (hb1:Below W6.heap.size W6 w1)=>(hb1.cell (p:=⟨w.heap.size+1,0,none⟩) TS.lt).trans (TS.cell 0 rfl)
    have cd:=fun w1 (hb1:Below W6.heap.size W6 w1)=>(hb1.cell (p:=⟨w.heap.size,0,none⟩) Xt.lt).trans (Xt.cell 0 rfl)
    refine jf [ak v6,ak (.slice A1 (Ig.grp a).length c1),ak (.int .i64 d),(fun v W=>aI W (a*d) v),(fun v W=>aI W (a*y*10000+a*d) v)] 5 24 (by kernel_rfl) (by kernel_rfl) rfl rfl (by kernel_rfl) ?_ ?_ ?_
    · simp only[bV]
      and_intros <;> first|exact aF _|exact fun v w w' h hb=>h.call hb|trivial
    · simp only[Users,List.take,List.length];refine ⟨?_,?_,?_,?_,?_,trivial⟩;all_goals (intro vs w1 hb1 hd;have c3:=cc w1 hb1;have c4:=cd w1 hb1;have hN1:=hNa.call hb1;have OO:=Ub.call hb1;clear cc cd;simp only[aQ,Act.put,List.nil_append,List.cons_append,List.setIfInBounds_toArray,List.set_cons_succ,List.set_cons_zero,Nat.reduceAdd])
      · clear hd;go_wp2;exact⟨Below.refl _ _,rfl⟩
      · clear hd;go_wp2;exact⟨Below.refl _ _,rfl⟩
      · clear hd;go_wp2;exact⟨Below.refl _ _,rfl⟩
      · have h1:vs 1=.slice A1 (Ig.grp a).length c1:=hd 1 rfl;have h2:vs 2=.int .i64 d:=hd 2 rfl;clear hd;rw [h1,h2];go_wp2_with fail;have hC:=EU a d _ _ hN1 (by omega) (by omega);refine hC.mono ?_;clear hC;rintro _ w9 ⟨v9,rfl,rZ,aY⟩;go_wp2;exact rZ
      · have h0:vs 0=v6:=hd 0 rfl;have h3:aI w1 (a*d) (vs 3):=hd 3 rfl;clear hd;rw [h0];go_wp2_with fail;have hC:=uT (a*y*10000) (a*d) v6 (vs 3) w1 OO h3 (by omega) (by omega);generalize a*y*10000=p1 at *;generalize a*d=p2 at *;refine hC.mono ?_;clear hC;rintro _ w9 ⟨v9,rfl,rZ,aY⟩;go_wp2;exact rZ
    · clear cc cd;intro vs wa hba hR;simp only[cZ,ak]at hR;obtain ⟨-,-,-,-,e4,-⟩:=hR;simp only[List.drop,List.take,List.map,aQ,Act.put,List.setIfInBounds_toArray,List.set_cons_succ,List.set_cons_zero,Nat.reduceAdd];have Zf:=Xt.call hba;have VQ:=TS.call hba;have hce:=VQ.cell 0 rfl;have hfr:=VQ.frozen 0;have Yu:=aj hb6 hba;have hkf:=QS.trans (fF hba W0.heap.size);have hkp:vY w.heap.size (w.heap.size+1+1) W wa:=NI.trans ⟨hba.mono (by have:=hb6.size;omega),hba.block _ Yj⟩;generalize vs 4=z4 at *;generalize vs 0=z0,vs 1=z1,vs 2=z2,vs 3=z3;obtain ⟨A9,c9,rfl,Fv,rZ,QN⟩:=e4.out;obtain ⟨A8,c8,rfl,-,-,-⟩:=Ub.out;clear Fv rZ QN Ub;generalize (Ig.grp (a*y*10000+a*d)).length=n9 at *;generalize (Ig.grp (a*y*10000)).length=n8 at *;go_wp2;refine ⟨hkf.trans ((KeepsOthers.setCell _ _ _).from _),hkp.trans ⟨(Below.refl _ _).setCell (Nat.le_succ _) _,Below.heap_setCell _ _ _ _ (by simp)⟩,aJ Yu (Nat.le_succ _) _,Nat.le_trans hle (Nat.le_trans hkp.1.size (KeepsOthers.setCell _ _ _).size),Zf.far (by simp) _,_,VQ.set 0 _,?_⟩;rw [hsn.out];exact kH VQ e4 _
 case done =>
  rintro D ys W hD rfl ⟨hb,hle,TT,v,Xp,hN⟩ hK;have c5:=Xp.cell 0 rfl;rw [Ls]at hN
  gi_wp2
  refine⟨by simp,.inl ⟨_,_,rfl,run_takeDeferred hK,?_⟩⟩;have hg:=grownBy_putObj' W D (.deferred none);have hr:∀r,some D=some r->∃o:Obj,W.heap[r]? = some o/\o.isCells=false:=fun r e=>by cases e;exact⟨_,hK,rfl⟩
  exact⟨_,results_tmp rfl _ _ _,v,rfl,qM hN hg hr,hb.trans (belowK_b (w:=w) (Nat.le_refl _) W D _ _ (by omega) hK rfl rfl)⟩
 case stop =>
  rintro D c pre W _ _ h _;exact h.elim
theorem LZ:∃i,Tryz.prog.info? 5=some i/\i.zero=some (.int .u8 0)/\i.size=1/\i.bytes=1:=by
 have h:(Tryz.prog.info? 5).map (fun i=>(i.zero,i.size,i.bytes))=some (some (.int .u8 0),1,1):=by kernel_rfl
 cases hi:Tryz.prog.info? 5 with
 | none=>rw[hi]at h;cases h
 | some i =>
  rw[hi]at h;simp only[Option.map_some,Option.some.injEq,Prod.mk.injEq]at h;exact ⟨i,rfl,h.1,h.2.1,h.2.2⟩
theorem Io:∃i,Tryz.prog.info? 168=some i/\i.size=2:=by
 have h:(Tryz.prog.info? 168).map (fun i=>i.size)=some 2:=by kernel_rfl
 cases hi:Tryz.prog.info? 168 with
 | none=>rw[hi]at h;cases h
 | some i =>
  rw[hi]at h;exact ⟨i,rfl,by simpa using h⟩
theorem Ad (b:Nat) (w:World) (h0:w.cell? ⟨b,0,none⟩=some (.pointer (some ⟨b,0,none⟩))) :
 Calls Tryz.prog 185 #[.pointer (some ⟨b,0,none⟩)] w fun e w'=>e=.returned (.tuple #[])/\w'=w:=by
 obtain⟨j,hj,_⟩:=Io
 go_enter Tryz.func185,Tryz.ntmps185
 go_wp2;rw [Lib.run_neq_ptr_same w _ Tryz.underlying165 hj];go_wp2
 go_end0
 exact⟨rfl,rfl⟩
theorem yD (b:Nat) (w:World) (h0:w.cell? ⟨b,0,none⟩=some (.pointer none)) (hsh:w.shape? b=some (168,2)) (hfz:w.frozen? ⟨b,0,none⟩=false) :
 Calls Tryz.prog 185 #[.pointer (some ⟨b,0,none⟩)] w fun e w'=>e=.returned (.tuple #[])/\w'=w.setCell ⟨b,0,none⟩ (.pointer (some ⟨b,0,none⟩)):=by
 obtain⟨j,hj,hjs⟩:=Io
 go_enter Tryz.func185,Tryz.ntmps185
 go_wp2;rw [Lib.run_to_unsafe w ⟨b,0,none⟩ Tryz.underlying165 Tryz.underlying222 hj (by rw[hjs];decide) hsh (Nat.zero_lt_succ 1)];simp only[Result.andThen];rw [Oper.upon_value];go_wp2;rw [run_callFunc_extern Tryz.func214 (by kernel_rfl) (by kernel_rfl) (by kernel_rfl) (e:=Extern.AbiNoEscape.same) (by kernel_rfl)];rw [Lib.run_noEscape];simp only[Result.andThen];rw [Oper.upon_value];go_wp2;rw [Lib.run_from_unsafe w ⟨b,0,none⟩ Tryz.underlying222 Tryz.underlying165 hj hsh (by kernel_rfl)];simp only[Result.andThen];rw [Oper.upon_value];go_wp2
 go_end0
 exact⟨rfl,rfl⟩
theorem Bj (B b:Nat) (bs:List Value) (w:World) (h:Lib.IsBuilder 168 5 B b bs w) :
 Calls Tryz.prog 185 #[.pointer (some ⟨b,0,none⟩)] w fun e w'=>e=.returned (.tuple #[])/\Lib.BuilderAt 168 5 B b (.pointer (some ⟨b,0,none⟩)) bs w'/\Below B w w'/\Lib.OthersKept 5 (some b) w w':=by
 rcases h with h|h
 · refine (yD b w h.cell0 h.shape h.frozen0).mono ?_;rintro e w' ⟨rfl,rfl⟩;exact ⟨rfl,h.used _,(Below.refl B w).setCell (p:=⟨b,0,none⟩) h.1 _,(Lib.OthersKept.refl _ _ w).setCell ⟨b,0,none⟩ rfl _⟩
 · refine (Ad b w h.cell0).mono ?_;rintro e w' ⟨rfl,rfl⟩;exact ⟨rfl,h,Below.refl B _,Lib.OthersKept.refl _ _ _⟩
theorem P9 {B n:Nat} {v:Value} {bs:List Value} {w:World} (h:w.ownsRow B 5 1 v n bs):∀g,v.ownBlock=some g->∃c fz,w.heap[g]? = some (.cells c 5 fz):=fun g hg=>by
 rcases h.2 with ⟨rfl,_⟩|⟨g',cap,cur,rfl,_,h1,_⟩
 · cases hg
 · simp only[Value.ownBlock,Option.some.injEq]at hg;subst hg;exact ⟨_,_,h1⟩
theorem qo (B b:Nat) (bs:List Value) (s:List UInt8) (w:World) (h:Lib.IsBuilder 168 5 B b bs w) (hlen:bs.length+s.length<=140737488355328) (hBw:B<=w.heap.size) :
 Calls Tryz.prog 147 #[.pointer (some ⟨b,0,none⟩),.string ⟨s.toArray⟩] w fun e w'=>e=.returned (.tuple #[.int .i64 s.length,.nilIface])/\Lib.BuilderAt 168 5 B b (.pointer (some ⟨b,0,none⟩)) (bs++Lib.byteCells s) w'/\Below B w w'/\Lib.OthersKept 5 (some b) w w':=by
 obtain⟨i0,hi,hz0,hz1,hz2⟩:=LZ
 go_enter Tryz.func147,Tryz.ntmps147
 go_wp2_with (go_at_call 185;refine (Bj B b bs _ h).mono ?_)
 rintro e w1 ⟨rfl,h1,hb1,hk1⟩;obtain ⟨hB,v,hbk,hown,hne⟩:=h1;have c0:w1.cell? ⟨b,0,none⟩=some (.pointer (some ⟨b,0,none⟩)):=by rw[Lib.cell_of_heap hbk];rfl
 have c1:w1.cell? ⟨b,1,none⟩=some v:=by rw[Lib.cell_of_heap hbk];rfl
 have hsz:(⟨s.toArray⟩:ByteArray).size=s.length:=rfl
 go_wp2_with (at_builtin;refine Lib.wpList_append_own_string _ rfl _ _ 166 9 rfl B 5 i0 Tryz.underlying166 Tryz.underlying9 hi hz0 hz1 hz2 _ _ _ rfl hown ⟨s.toArray⟩ rfl ?c3 ?c4 ?c5 ?_)
 case c3=>unfold maxLen;rw[hsz];omega
 case c4=>rw[hsz];omega
 case c5=>have:=hb1.size;omega
 intro v' w2 hown' hgrow _
 have hlt:b<w1.heap.size:=by
  rcases Nat.lt_or_ge b w1.heap.size with h'|h'
  · exact h'
  · simp[Array.getElem?_eq_none h']at hbk
 have hb2:w2.heap[b]? = some (.cells #[.pointer (some ⟨b,0,none⟩),v] 168 (0,0)):=by
  rw[hgrow.block b hlt (fun e=>hne e.symm)];exact hbk
 have d0:w2.cell? ⟨b,0,none⟩=some (.pointer (some ⟨b,0,none⟩)):=by rw[Lib.cell_of_heap hb2];rfl
 have d1:w2.cell? ⟨b,1,none⟩=some v:=by rw[Lib.cell_of_heap hb2];rfl
 have f1:w2.frozen? ⟨b,1,none⟩=false:=Lib.frozen_of_heap hb2 1
 obtain⟨ao,n',cap,rfl⟩:∃ao n' cap,v'=.slice ao n' cap:=by
  rcases hown'.2 with ⟨hv,_⟩|⟨g,cap,cur,hv,_⟩
  · exact⟨_,_,_,hv⟩
  · exact⟨_,_,_,hv⟩
 go_wp2
 go_ret2
 have hc:Lib.strCells ⟨s.toArray⟩=Lib.byteCells s:=Lib.strCells_eq _;rw [hc]at hown';refine ⟨rfl,?_,?_,(hk1.grown hgrow (P9 hown)).setCell ⟨b,1,none⟩ rfl _⟩
 · exact Lib.BuilderAt.put (T:=168) (e:=5) hB hb2 (bs':=bs++Lib.byteCells s) (by rw[List.length_append,Lib.byteCells_length];exact hown') (by decide)
 · exact (hb1.grown hgrow (by have:=hb1.size;omega) (fun k hk=>(hown.lt k hk).1)).setCell (p:=⟨b,1,none⟩) hB _
theorem IQ (B b:Nat) (l:List UInt8) (w:World) (h:Lib.IsBuilder 168 5 B b (Lib.byteCells l) w) (h0:l≠[]) :
 Calls Tryz.prog 148 #[.pointer (some ⟨b,0,none⟩)] w fun e w'=>e=.returned (.string ⟨l.toArray⟩)/\Below B w w'/\Lib.OthersKept 5 (some b) w w':=by
 obtain⟨p,hB,v,hbk,hown,hne⟩:∃p,Lib.BuilderAt 168 5 B b p (Lib.byteCells l) w:=by
  rcases h with h|h
  · exact⟨_,h⟩
  · exact⟨_,h⟩
 have hl0:l.length≠0:=by simpa using h0
 rw[Lib.byteCells_length]at hown
 obtain⟨g,cap,cur,rfl,hbg,hg,hnc,hcm,hcs,htake⟩:∃g cap cur,v=.slice (some ⟨g,0,none⟩) l.length cap/\B<=g/\w.heap[g]? = some (.cells cur 5 (0,0))/\l.length<=cap/\cap<=maxLen/\cur.size=cap*1/\cur.toList.take (l.length*1)=Lib.byteCells l:=by
  rcases hown.2 with ⟨_,hz⟩|⟨g,cap,cur,hv,r⟩
  · exact absurd hz hl0
  · exact⟨g,cap,cur,hv,r⟩
 have c1:w.drew.cell? ⟨b,1,none⟩=some (.slice (some ⟨g,0,none⟩) l.length cap):=by
  have:w.drew.heap[b]? = some (.cells #[p,.slice (some ⟨g,0,none⟩) l.length cap] 168 (0,0)):=hbk;rw [Lib.cell_of_heap this];rfl
 have hSD:(Builtin.unsafeSliceData_ #[166] 203 #[.slice (some ⟨g,0,none⟩) l.length cap]).run Tryz.prog w.drew=.ok (.pointer (some ⟨g,0,none⟩)) w.drew :=
  Lib.run_unsafeSliceData_row _ _ _ _ _ _ (by omega)
 have hUS:(Builtin.unsafeString_ #[203,3] 9 #[.pointer (some ⟨g,0,none⟩),.int .i64 l.length]).run Tryz.prog w.drew=.ok (.string ⟨l.toArray⟩) (w.drew.freeze ⟨g,0,none⟩ l.length):=by
  refine Lib.run_unsafeString_row w.drew 203 3 9 5 Tryz.underlying203 (by kernel_rfl) g cur.size (by have hg':w.drew.heap[g]? = some (.cells cur 5 (0,0)):=hg;simp[World.shape?,hg']) l h0 (by omega) (by unfold maxLen at hcm;omega) ?_;intro j x hx;have:=hown.cells (g:=g) rfl j (.int .u8 x.toNat) (by simp[Lib.byteCells,hx]);exact this
 have hbl:=Lib.below_freeze (Below.drew (Below.refl B w)) (p:=⟨g,0,none⟩) hbg l.length;have hok:=((Lib.OthersKept.refl 5 (some b) w).drew).freeze ⟨g,0,none⟩ l.length ⟨cur,(0,0),hg⟩;clear htake hcs hg hown hne hbk h
 go_enter Tryz.func148,Tryz.ntmps148
 go_wp2
 go_region
 all_goals (go_wp2;go_ret;exact⟨rfl,hbl,hok⟩)
end Go.Proofs.YtelljijajgiabaaGreatDoor
namespace Ig
theorem G9:∀ {l:List Int},Gr l->l≠[]->l.getLast? ≠ some 0->0<aT l
 | [],_,h,_=>absurd rfl h
 | [g],h,_,hl=>by
  have:=h g (by simp);have:g≠0:=fun e=>hl (by simp[e])
  simp[aT];omega
 | g :: a :: l,h,_,hl=>by
  have h1:=h g (by simp);have h2:=G9 (l:=a :: l) (fun x hx=>h x (by simp[hx])) (by simp) (by rwa [List.getLast?_cons_cons]at hl);rw [aT];omega
theorem RD (a i:Nat) (h:i<(grp a).length):0<from_ (grp a) i:=by
 refine G9 (fun g hg=>dn a g (List.mem_of_mem_drop hg)) (by simp;omega) ?_;rw [List.getLast?_drop,if_neg (by omega)];exact xX a
theorem RF (g:Nat):(four g).length=4:=rfl
theorem nd4 {g:Nat} (h:g<10000):Go.Lib.nDigits g<=4:=(GH (by decide)).2 h
def iq (z:Int):List UInt8:=if Go.Lib.nDigits z.natAbs<=200 then Go.Lib.itoa z else []
def resE (z:Int):Int:=if Go.Lib.nDigits z.natAbs<=200 then 0 else 30
theorem iF (z:Int):fits z↔Go.Lib.nDigits z.natAbs<=200:=(GH (by decide)).symm
theorem dh {z:Int} (h:fits z):iq z=Go.Lib.itoa z:=if_pos ((iF z).1 h)
theorem dO {z:Int} (h:fits z):resE z=0:=if_pos ((iF z).1 h)
theorem FZ {z:Int} (h:¬fits z):iq z=[]:=if_neg (fun k=>h ((iF z).2 k))
theorem zi {z:Int} (h:¬fits z):resE z=30:=if_neg (fun k=>h ((iF z).2 k))
end Ig
namespace Go.Proofs.YtelljijajgiabaaGreatDoor
def txt (l:List Int) (pre:List (Fin l.length)):List UInt8:=pre.flatMap fun t=>if t.1+1<l.length then Ig.four l[t.1].toNat else Lib.decDigits l[t.1].toNat
theorem yT (l:List Int) (pre:List (Fin l.length)) (t:Fin l.length):txt l (pre++[t])=txt l pre++(if t.1+1<l.length then Ig.four l[t.1].toNat else Lib.decDigits l[t.1].toNat):=by simp[txt]
theorem Uk {l:List Int} (hl:Ig.Gr l) (pre:List (Fin l.length)):(txt l pre).length<=4*pre.length:=by
 unfold txt
 induction pre with
 | nil=>simp
 | cons t pre ih =>
  rw[List.flatMap_cons,List.length_append,List.length_cons];have h:=hl l[t.1] (List.getElem_mem t.2)
  have:(if t.1+1<l.length then Ig.four l[t.1].toNat else Lib.decDigits l[t.1].toNat).length<=4:=by
   split
   · exact Nat.le_of_eq (Ig.RF _)
   · rw[Ig.jC];exact Ig.nd4 (by omega)
  omega
theorem FH (a:Nat):∀k,k+1<=(Ig.grp a).length->txt (Ig.grp a) ((dL (Ig.grp a).length).take (k+1))=Lib.decDigits (Ig.from_ (Ig.grp a) ((Ig.grp a).length-(k+1))).toNat
 | 0,hk=>by
  have hs:=j_ (n:=(Ig.grp a).length) (t:=(Ig.grp a).length-1) (by omega);rw [show (Ig.grp a).length-((Ig.grp a).length-1)=0+1 by omega,show (Ig.grp a).length-((Ig.grp a).length-1+1)=0 by omega]at hs;rw [hs,yT,if_neg (by simp only;omega),Nat.zero_add,Ig.lT (by omega),Ig.qR (by omega)];simp [txt]
 | k+1,hk=>by
  have ih:=FH a k (by omega);have hs:=j_ (n:=(Ig.grp a).length) (t:=(Ig.grp a).length-(k+2)) (by omega);rw [show (Ig.grp a).length-((Ig.grp a).length-(k+2))=k+1+1 by omega,show (Ig.grp a).length-((Ig.grp a).length-(k+2)+1)=k+1 by omega]at hs;have hp:=Ig.RD a ((Ig.grp a).length-(k+1)) (by omega);have hg:=Ig.dn a _ (List.getElem_mem (show (Ig.grp a).length-(k+2)<(Ig.grp a).length by omega));rw [hs,yT,if_pos (by simp only;omega),ih,Ig.lT (show (Ig.grp a).length-(k+1+1)<(Ig.grp a).length by omega),show (Ig.grp a).length-(k+1+1)+1=(Ig.grp a).length-(k+1) by omega];generalize Ig.from_ (Ig.grp a) ((Ig.grp a).length-(k+1))=F at *;generalize hgd:(Ig.grp a)[(Ig.grp a).length-(k+2)]=g at *;rw [Ig.J4 (n:=(g+10000*F).toNat) (by omega)];have e1:(g+10000*F).toNat / 10000=F.toNat:=by omega
  have e2:(g+10000*F).toNat % 10000=g.toNat:=by omega
  rw[e1,e2]
theorem Ul {a:Nat} (h:a≠0):txt (Ig.grp a) (dL (Ig.grp a).length)=Lib.decDigits a:=by
 have hl:(Ig.grp a).length≠0:=fun e=>h (Ig.jh.1 e)
 have:=FH a ((Ig.grp a).length-1) (by omega);rw [show (Ig.grp a).length-1+1=(Ig.grp a).length by omega,List.take_of_length_le (by rw[jl];omega),Nat.sub_self,Ig.oD,Ig.bY,Int.toNat_natCast]at this;exact this
end Go.Proofs.YtelljijajgiabaaGreatDoor

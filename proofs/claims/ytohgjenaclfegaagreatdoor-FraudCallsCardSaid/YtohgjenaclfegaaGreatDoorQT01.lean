import Derived.Test.YtohgjenaclfegaaGreatDoorQT00
import Derived.Lib.QuietBelow
import Derived.BigQuiet
import Derived.RangeFuncFrom
import Derived.RangeFuncWrites
import Derived.Deep.WholeRow
set_option linter.unusedVariables false
set_option linter.unusedSimpArgs false
set_option maxRecDepth 100000
set_option maxHeartbeats 8000000
namespace Tb
end Tb
namespace Go.Proofs.YtohgjenaclfegaaGreatDoor
open Go.RowKit
theorem ou (n lo hi:Int) (w:World) :
 Calls Tryz.prog 70 #[.int .i64 n,.int .i64 lo,.int .i64 hi] w fun e w'=>e=.returned (.bool (Tp.within n lo hi))/\w=w':=by
 by_cases h1:lo<=n <;> by_cases h2:n<=hi
 all_goals
  go_enter Tryz.func70,Tryz.ntmps70
  go_wp2;go_ret;exact ⟨by simp[Tp.within, *] <;> omega,rfl⟩
def su {α:Type} (p:α->Bool) (l:List α):Int:=match l.findIdx? p with|some i=>(i:Int)|none=> -1
theorem JI {α:Type} {p:α->Bool} {l:List α} {k:Nat} (hk:k<l.length) (h1:p l[k]=true) (h2:∀(j:Nat) (hj:j<k),p (l[j]'(by omega))=false):su p l=k:=by
 unfold su
 have:l.findIdx? p=some k:=by
  rw[List.findIdx?_eq_some_iff_getElem];exact ⟨hk,h1,fun j hj=>by rw[h2 j hj];simp⟩
 rw[this]
theorem ER {α:Type} {p:α->Bool} {l:List α} (h:∀(j:Nat) (hj:j<l.length),p l[j]=false):su p l= -1:=by
 unfold su
 have:l.findIdx? p=none:=by
  rw[List.findIdx?_eq_none_iff];intro c hc;obtain ⟨j,hj,rfl⟩:=List.mem_iff_getElem.1 hc;exact h j hj
 rw[this]
theorem JJ {α:Type} (p:α->Bool) (l:List α):decide (0<=su p l)=l.any p:=by
 unfold su
 cases h:l.findIdx? p with
 | some i =>
  obtain⟨h1,h2,h3⟩:=List.findIdx?_eq_some_iff_getElem.1 h;have:l.any p=true:=List.any_eq_true.2 ⟨l[i],List.getElem_mem h1,h2⟩;rw [this];simp
 | none =>
  have:l.any p=false:=by
   rw[List.any_eq_false];intro x hx;have:=List.findIdx?_eq_none_iff.1 h x hx;simp [this]
  rw[this];simp
open Go.RowKit Go.Shelf
def Ix (z:Int) (s:List UInt8):Prop:=Kp (Lib.itoa z=s)
theorem Ix.ex (z:Int):∃s,Ix z s:=⟨_,⟨rfl⟩⟩
theorem Hf {x y z:Int} {sx sy sz:List UInt8} (w:World) (hx:Ix x sx) (hy:Ix y sy) (hz:Ix z sz) (h:Kp (x+y=z)) {j k l:Nat} (fx:Rq.Sz j x) (fy:Rq.Sz k y) (fz:Rq.Sz l z) (hj:j<=200) (hk:k<=200) (hl:l<=200) (hE:Env w) :
 aT 169 #[.string ⟨sx.toArray⟩,.string ⟨sy.toArray⟩] w (.string ⟨sz.toArray⟩):=by
 have hC:=KQ x y w (fx.fits hj) (fy.fits hk) hE;rw [h.out,Ig.dQ (fz.fits hl),Ig.fC (fz.fits hl),hx.out,hy.out,hz.out]at hC;clear fx fy fz hx hy hz h
 go_enter Tryz.func169,Tryz.ntmps169
 go_wp2_with fail;refine hC.mono ?_;rintro _ w1 ⟨rfl,hb⟩;clear hC;go_wp2;go_ret;exact ⟨rfl,hb⟩
theorem wu {x y z:Int} {sx sy sz:List UInt8} (w:World) (hx:Ix x sx) (hy:Ix y sy) (hz:Ix z sz) (h:Kp (x*y=z)) {j k l:Nat} (fx:Rq.Sz j x) (fy:Rq.Sz k y) (fz:Rq.Sz l z) (hj:j<=200) (hk:k<=200) (hl:l<=200) (hE:Env w) :
 aT 117 #[.string ⟨sx.toArray⟩,.string ⟨sy.toArray⟩] w (.string ⟨sz.toArray⟩):=by
 have hC:=KL x y w (fx.fits hj) (fy.fits hk) hE;rw [h.out,Ig.dQ (fz.fits hl),Ig.fC (fz.fits hl),hx.out,hy.out,hz.out]at hC;clear fx fy fz hx hy hz h
 go_enter Tryz.func117,Tryz.ntmps117
 go_wp2_with fail;refine hC.mono ?_;rintro _ w1 ⟨rfl,hb⟩;clear hC;go_wp2;go_ret;exact ⟨rfl,hb⟩
attribute [local go_sem] Oper.semAt_some
def bM (f:Nat->List UInt8):Array Value:=((List.range 101).map fun k=>Value.string ⟨(f k).toArray⟩).toArray
theorem fO (f:Nat->List UInt8):(bM f).size=101:=by simp[bM]
theorem iJ (f:Nat->List UInt8) {k:Nat} (h:k<101):(bM f)[k]? = some (.string ⟨(f k).toArray⟩):=by
 simp[bM,h]
theorem Ef (f:Nat->List UInt8) {k:Nat} (h:k<101) (s:List UInt8):(bM f).setIfInBounds k (.string ⟨s.toArray⟩)=bM (fun j=>if j=k then s else f j):=by
 apply Array.ext
 · simp[bM]
 · intro i h1 h2;simp only[bM,List.setIfInBounds_toArray,List.getElem_toArray,List.getElem_set,List.getElem_map,List.getElem_range];by_cases e:k=i
   · subst e;simp
   · rw[if_neg e,if_neg (fun h=>e h.symm)]
theorem xC (f:Nat->List UInt8):(bM f).all (·.oneCell')=true:=by
 rw[Array.all_eq_true_iff_forall_mem];intro v hv;simp only[bM,List.mem_toArray,List.mem_map]at hv;obtain ⟨k,-,rfl⟩:=hv;rfl
theorem uD:Tryz.prog.underlying 207=some (.array 101 9):=by kernel_rfl
theorem jG:(Tryz.prog.info? 207).map (·.size)=some 101:=by kernel_rfl
theorem OM {W:World} {g:Nat} {t:TypeId} (f:Nat->List UInt8) (hB:Bx W g t (bM f)):(Instr.loadAt 207 (.pointer (some ⟨g,0,none⟩))).run Tryz.prog W=.ok (.agg (bM f)) W:=by
 simp only[Instr.loadAt,Instr.sureAddr,Sem.run_bind,Sem.run_pure,Result.andThen];exact run_loadVar_row W g t _ _ (0,0) _ hB uD rfl (by rw[fO];exact jG)
theorem Ll {W:World} {g:Nat} {t:TypeId} {old:Array Value} (f:Nat->List UInt8) (hB:Bx W g t old) (ho:old.size=101):(Instr.storeAt 207 (.pointer (some ⟨g,0,none⟩)) (.agg (bM f))).run Tryz.prog W=.ok () (W.setRow g (bM f)):=by
 simp only[Instr.storeAt,Instr.sureAddr,Sem.run_bind,Sem.run_pure,Result.andThen];exact run_storeVar_row W g t _ old _ hB (by rw[fO];exact jG) (by rw[fO];exact ho) (xC f)
theorem qj {F:Fence} {n:Nat} {o:Oper} {a:Act} {w:World} {K:Act->World->Prop} {Q:Exit->Act->World->Prop} (hF:∀f,F.fn f) {x:Operand} (ho:o.op=.load 207 x) {g:Nat} (hx:a.eval x=.pointer (some ⟨g,0,none⟩)) {t:TypeId} {f:Nat->List UInt8}
 (hB:Bx w g t (bM f)) (h:K (a.put o.dst (.agg (bM f))) w):o.wpIn F n Tryz.prog a w K Q:=by
 refine⟨fun f _=>hF f,?_⟩;rw [Oper.semAt_plain _ _ _ (by rw[ho];intro c h;cases h)]
 unfold execOp
 simp only[ho,hx,OM f hB,Sem.run_bind,Sem.run_pure,Result.andThen_ok];exact h
theorem nS {F:Fence} {n:Nat} {o:Oper} {a:Act} {w:World} {K:Act->World->Prop} {Q:Exit->Act->World->Prop} (hF:∀f,F.fn f) {x y:Operand} (ho:o.op=.store 207 x y) {g:Nat} (hx:a.eval x=.pointer (some ⟨g,0,none⟩)) {t:TypeId} {old:Array Value} {f:Nat->List UInt8}
 (hy:a.eval y=.agg (bM f)) (hB:Bx w g t old) (hs:old.size=101) (h:K (a.put o.dst undef) (w.setRow g (bM f))):o.wpIn F n Tryz.prog a w K Q:=by
 refine⟨fun f _=>hF f,?_⟩;rw [Oper.semAt_plain _ _ _ (by rw[ho];intro c h;cases h)]
 unfold execOp
 simp only[ho,hx,hy,Ll f hB hs,Sem.run_bind,Sem.run_pure,Result.andThen_ok];exact h
theorem lW {W:World} {g:Nat} {t:TypeId} {old:Array Value} (hB:Bx W g t old) (cs:Array Value):Bx (W.setRow g cs) g t cs:=by
 unfold Bx at *
 show (W.heap.modify g _)[g]? = _
 rw[Array.getElem?_modify,if_pos rfl,hB];rfl
theorem setRow_other {W:World} {g:Nat} (cs:Array Value) {k:Nat} (h:k≠g):(W.setRow g cs).heap[k]? = W.heap[k]? := by
 show (W.heap.modify g _)[k]? = _
 rw[Array.getElem?_modify,if_neg (fun e=>h e.symm)]
theorem below_setRow {B g:Nat} (W:World) (cs:Array Value) (h:B<=g):Below B W (W.setRow g cs) :=
 ⟨rfl,rfl,rfl,by show W.heap.size<=(W.heap.modify g _).size;simp,fun k hk=>setRow_other cs (by omega)⟩
def pt (n k:Nat):List UInt8:=Lib.itoa (Tb.ch n k:Int)
theorem Cj {n k:Nat} (h:n<k):pt n k=Lib.itoa 0:=by unfold pt;rw[Tb.tK h];rfl
def vW (n k:Nat) (j:Nat):List UInt8:=if k<j then pt (n+1) j else pt n j
theorem LX (n:Nat):vW n (n+1)=pt n:=by
 funext j
 unfold vW
 split
 · rw[Cj (by omega),Cj (by omega)]
 · rfl
theorem Vk (n:Nat):vW n 0=pt (n+1):=by
 funext j
 unfold vW
 split
 · rfl
 · have:j=0:=by omega
   subst this
   unfold pt
   rw[Tb.tH,Tb.tH]
theorem P6 (n k:Nat) (hk:0<k):(fun j=>if j=k then pt (n+1) k else vW n k j)=vW n (k-1):=by
 funext j
 unfold vW
 by_cases e:j=k
 · subst e;rw[if_pos rfl,if_pos (by omega)]
 · rw[if_neg e];by_cases h:k<j
   · rw[if_pos h,if_pos (by omega)]
   · rw[if_neg h,if_neg (by omega)]
theorem qH (n k:Nat):Ix (Tb.ch n k:Int) (pt n k):=⟨rfl⟩
theorem N8:(fun k=>if k=0 then Lib.itoa 1 else Lib.itoa 0)=pt 0:=by
 funext k
 cases k with
 | zero=>rfl
 | succ k=>rw[Cj (by omega)];rfl
def rwA (x:Fin 101):Array Value:=#[.int .i64 (x.1:Int),.agg (bM (pt x.1))]
theorem Ry {n:Nat} (h:n<101):(List.finRange 101).take (n+1)=(List.finRange 101).take n++[⟨n,h⟩]:=by
 rw[List.take_succ_eq_append_getElem (by simpa using h)]
 congr 2
 simp[List.getElem_finRange]
theorem qV:(Tryz.zeroCells207).size=101:=by kernel_rfl
theorem Nl {cs:Array Value} (hs:cs.size=101) {f:Nat->List UInt8} (h:∀j,j<101->cs[j]? = some (.string ⟨(f j).toArray⟩)):cs=bM f:=by
 apply Array.ext
 · rw[hs,fO]
 · intro i h1 h2;have e1:=h i (by omega);have e2:=iJ f (k:=i) (by omega);rw [Array.getElem?_eq_getElem h1]at e1;rw [Array.getElem?_eq_getElem h2]at e2;exact Option.some.inj (e1.trans e2.symm)
theorem OL (n:Nat) (hn:1<=n) (w0:World) (hE0:Env w0):WC n Tryz.prog 230 #[] rwA (fun ys=>ys=List.finRange 101) 101 w0:=by
 intro l J Jx W hW hJ hJx VU hY hj0;refine callsIn_of_wp Tryz.func230 rfl trivial ?_ rfl;simp only[Tryz.ntmps230,List.size_toArray,List.length_cons,List.length_nil,Nat.reduceAdd,Nat.reduceSub,Array.replicate_succ,Array.replicate_zero,List.push_toArray,List.append_toArray,List.nil_append,List.cons_append];have Ub:=aA W (.cells Tryz.zeroCells207 207);have BA:=Bx.mk W 207 Tryz.zeroCells207;have hz:=qV
 gi_wp2_with fail
 generalize Tryz.zeroCells207=zc at *
 gi_loopw [6] (fun s6 wr=>∃(k:Nat) (cs:Array Value),s6=.int .i64 k/\k<=101/\cs.size=101/\Kp (∀j,j<k->cs[j]? = some (.string ⟨(Lib.itoa 0).toArray⟩))/\Bx wr W.heap.size 207 cs/\Below W.heap.size W wr) (fun s6 _=>101-(intOf s6).toNat)
 case atStart=>exact⟨0,zc,rfl,by omega,hz,⟨fun j hj=>by omega⟩,BA,Ub⟩
 case round =>
  clear BA Ub hz;obtain ⟨k,cs,rfl,hk,hcs,hz,hB,hb⟩:=hrel;by_cases hlt:k<101
  · have t0:decide ((k:Int)<101)=true:=by simp;omega
    obtain⟨v,hv⟩:∃v,cs[k]? = some v:=⟨cs[k],Array.getElem?_eq_getElem (by omega)⟩
    have c0:=hB.cell k hv;have f0:=hB.frozen k;have hB2:=hB.set k (.string { data:=#[48] });have hb2:=aK hb (p:=⟨W.heap.size,k,none⟩) (Nat.le_refl _) (.string { data:=#[48] })
    have hz2:Kp (∀j,j<k+1->(cs.setIfInBounds k (.string { data:=#[48] }))[j]? = some (.string ⟨(Lib.itoa 0).toArray⟩)):=⟨fun j hj=>by
     rw[Array.getElem?_setIfInBounds];by_cases e:k=j
     · rw[if_pos e,if_pos (by omega),oq]
     · rw[if_neg e];exact hz.out j (by omega)⟩
    have hs2:(cs.setIfInBounds k (.string { data:=#[48] })).size=101:=by rw[Array.size_setIfInBounds];exact hcs
    clear hz hv hB hb hY hJ hJx VU
    gi_wp2
    go_roundw
    case rel=>exact⟨k+1,_,by go_num,by omega,hs2,hz2,hB2,hb2⟩
    case measure=>simp[intOf];omega
  · obtain rfl:k=101:=by omega
    have e1:=Nl hcs (f:=fun _=>Lib.itoa 0) hz.out;subst e1;have c0:=hB.cell 0 (iJ _ (by decide));have f0:=hB.frozen 0;have hB2:=hB.set 0 (.string { data:=#[49] });have hb2:=aK hb (p:=⟨W.heap.size,0,none⟩) (Nat.le_refl _) (.string { data:=#[49] })
    have e2:(bM (fun _=>Lib.itoa 0)).setIfInBounds 0 (.string { data:=#[49] })=bM (pt 0):=by
     rw[show ({ data:=#[49] }:ByteArray)=⟨(Lib.itoa 1).toArray⟩ by rw[show Lib.itoa 1=[49] by decide +kernel],Ef _ (by decide),N8]
    rw[e2]at hB2;clear hB hb hz hcs e2
    gi_wp2_with fail
    generalize wr.setCell ⟨W.heap.size,0,none⟩ (.string { data:=#[49] })=W1 at *;have hj1:=hJ _ _ _ hj0 hb2;have hs1:=hb2.size;clear hb2 c0 f0 hj0;rw [show ((101:Nat):Int)=101 from rfl]
    gi_loopw [4] (fun s4 wr=>∃k:Nat,s4=.int .i64 k/\k<=101/\(k<101->Bx wr W.heap.size 207 (bM (pt k)))/\J ((List.finRange 101).take k) wr/\W.heap.size<=wr.heap.size) (fun s4 _=>101-(intOf s4).toNat)
    case atStart=>exact⟨0,rfl,by omega,fun _=>hB2,hj1,hs1⟩
    case round =>
     clear hB2 hj1 hs1;obtain ⟨k,rfl,hk,hB,hj,hsz⟩:=hrel;by_cases hlt:k<101
     · have t0:decide ((k:Int)<101)=true:=by simp;omega
       replace hB:=hB hlt;have hltK:Kp (k<101):=⟨hlt⟩
       have hfr:=fun Y (h:Fr W.heap.size wr Y)=>h.keep _ _ (Nat.le_refl _) hB
       obtain⟨fn,tmps,assign,body,hy,hR⟩:=hY _ ⟨k,hlt⟩ wr hj (by rw[List.length_take,List.length_finRange];omega);rw [←Ry hlt]at hR;simp only[rwA]at hy;clear hY hj
       gi_wp2_with (refine qj (fun _=>trivial) rfl rfl hB ?_)
       refine hR.mono ?_;rintro e W3 (⟨rfl,hJ3,hk3⟩|⟨rfl,hJx3⟩)
       · have B3:Bx W3 W.heap.size 207 (bM (pt k)):=hfr W3 hk3;have hs3:=Nat.le_trans hsz hk3.size;clear hfr hR hy hB
         gi_wp2_with fail
         gi_loopw [5] (fun s5 wr=>∃m:Nat,s5=.int .i64 m/\m<=k+1/\Bx wr W.heap.size 207 (bM (vW k m))/\J ((List.finRange 101).take (k+1)) wr/\W.heap.size<=wr.heap.size) (fun s5 _=>(intOf s5).toNat)
         case atStart=>exact⟨k+1,by go_num,by omega,by rw[LX];exact B3,hJ3,hs3⟩
         case round =>
          clear B3 hJ3 hs3;obtain ⟨m,rfl,hm,hB,hj,hsz⟩:=hrel;by_cases hin:0<m/\m<101
          · obtain⟨p,rfl⟩:∃p,m=p+1:=⟨m-1,by omega⟩
            have hp:p<100:=by omega
            have hcast:((p+1:Nat):Int)-1=(p:Int):=by omega
            have t1:decide ((p:Int)+1 > 0)=true:=by simp <;> omega
            have t2:decide ((p:Int)+1<101)=true:=by simp;omega
            have hEr:=hE0.below (VU _ _ hj);have x1:=fun d os=>(hB.again d os).cell (p+1) (iJ _ (by omega))
            have x2:=fun d os=>(hB.again d os).cell p (iJ _ (by omega))
            have e1:vW k (p+1) (p+1)=pt k (p+1):=by unfold vW;rw[if_neg (by omega)]
            have e2:vW k (p+1) p=pt k p:=by unfold vW;rw[if_neg (by omega)]
            rw[e1]at x1;rw [e2]at x2;have kp:=fun d os=>Hf (Sort.grow (redrawn wr d) os) (qH k (p+1)) (qH k p) (qH (k+1) (p+1)) ⟨by rw[Tb.tJ,Int.natCast_add,Int.add_comm]⟩ (Tb.qp (by omega) _) (Tb.qp (by omega) _) (Tb.qp (by omega) _) (by decide) (by decide) (by decide) (hEr.below (below_regrown wr d os))
            have hms:=P6 k (p+1) (by omega);rw [Nat.add_sub_cancel]at hms;replace hms:=Kp.mk hms;generalize pt k (p+1)=sa at *;generalize pt k p=sb at *;generalize pt (k+1) (p+1)=sc at *
            gi_wp2_with fail
            refine wpIn_wide.2 ?_;refine bF 10 (by kernel_rfl) (by kernel_rfl) ?_;simp only[List.take,List.drop]
            repeat (go_big_quiet_step (first|(go_at_call 169;with_reducible exact Calls.regrown_of (kp _ _))))
            refine wpQuiet_nil ?_;rintro _ ⟨z,rfl⟩;have hbz:=below_regrown wr z.d z.os;have Uh:=hB.again z.d z.os;have hjz:=hJ _ _ _ hj (hbz.mono hsz);have hsz2:=Nat.le_trans hsz hbz.size;clear x1 x2 kp hbz hB hj hsz hEr;generalize Sort.grow (redrawn wr z.d) z.os=W2 at *;have c0:=Uh.cell (p+1) (iJ _ (by omega));have f0:=Uh.frozen (p+1);have B2:=Uh.set (p+1) (.string ⟨sc.toArray⟩);rw [Ef _ (by omega),hms.out]at B2;have hj2:=hJ _ _ _ hjz ((Below.refl W.heap.size W2).setCell (p:=⟨W.heap.size,p+1,none⟩) (Nat.le_refl _) (.string ⟨sc.toArray⟩));have hs2:W.heap.size<=(W2.setCell ⟨W.heap.size,p+1,none⟩ (.string ⟨sc.toArray⟩)).heap.size:=Nat.le_trans hsz2 ((Below.refl W.heap.size W2).setCell (p:=⟨W.heap.size,p+1,none⟩) (Nat.le_refl _) (.string ⟨sc.toArray⟩)).size;clear Uh hjz hsz2;go_wp2_with fail
            gi_wp2_with fail
            go_roundw
            case rel=>exact⟨p,by go_num,by omega,B2,hj2,hs2⟩
            case measure=>simp[intOf] <;> omega
          · have hend:k+1<101->Bx wr W.heap.size 207 (bM (pt (k+1))):=fun h=>by
             obtain rfl:m=0:=by omega
             rw[Vk]at hB;exact hB
            rcases (show m=0∨m=101 by omega) with rfl|rfl
            · clear hB;have hltA:=hltK.out;have hwr:IntKind.i64.wrap ((k:Int)+1)=(k:Int)+1:=IntWalk.i64_in _ ⟨by omega,by omega⟩
              gi_wp2_with (refine ⟨fun _ _=>trivial,?_⟩)
              go_roundw
              case rel=>exact⟨k+1,by go_num,by omega,hend,hj,hsz⟩
              case measure=>simp[intOf] <;> omega
            · clear hB;have hltA:=hltK.out;have hwr:IntKind.i64.wrap ((k:Int)+1)=(k:Int)+1:=IntWalk.i64_in _ ⟨by omega,by omega⟩
              gi_wp2_with (refine ⟨fun _ _=>trivial,?_⟩)
              go_roundw
              case rel=>exact⟨k+1,by go_num,by omega,hend,hj,hsz⟩
              case measure=>simp[intOf] <;> omega
       · gi_wp2_with (refine ⟨fun _ _=>trivial,?_⟩)
         go_end0
         exact⟨⟨_,rfl⟩,.inr ⟨_,hJx3⟩⟩
     · obtain rfl:k=101:=by omega
       rw[List.take_of_length_le (by simp)]at hj;clear hY;have t0:decide (((101:Nat):Int)<101)=false:=by decide
       gi_wp2_with (refine ⟨fun _ _=>trivial,?_⟩)
       go_end0
       exact⟨⟨_,rfl⟩,.inl ⟨_,rfl,hj⟩⟩
attribute [local go_sem] Oper.semAt_some
theorem U4 (n:Nat) (w:World):CallsIn Fence.wide n Tryz.prog 168 #[] w fun e w'=>e=.returned (.func (.func 230) #[] #[])/\w'=w:=by
 refine callsIn_of_wp Tryz.func168 rfl trivial ?_ rfl;simp only[Tryz.ntmps168,List.size_toArray,List.length_cons,List.length_nil,Nat.reduceAdd,Nat.reduceSub,Array.replicate_succ,Array.replicate_zero,List.push_toArray,List.append_toArray,List.nil_append,List.cons_append]
 gi_wp2
 go_ret;exact ⟨rfl,rfl⟩
theorem mM (k:Nat) (w:World) (hk:k<=100) (hE:Env w) :
 aT 112 #[.int .i64 k] w (.agg (bM (pt k))):=by
 refine (callsIn_wide (n:=3)).1 ?_;refine callsIn_of_wp_marks Tryz.func112 rfl trivial ?_ rfl;simp only[Tryz.ntmps112,List.size_toArray,List.length_cons,List.length_nil,Nat.reduceAdd,Nat.reduceSub,Array.replicate_succ,Array.replicate_zero,List.push_toArray,List.append_toArray,List.nil_append,List.cons_append];have hb0:=bNew (aA w (.cells #[.int .i64 k] 3)) (.cells Tryz.zeroCells207 207);have B1:=(Bx.mk w 3 #[.int .i64 k]).new (.cells Tryz.zeroCells207 207);have B2:=Bx.mk (w.alloc (.cells #[.int .i64 k] 3)) 207 Tryz.zeroCells207;rw [aj]at B2;have hz:=qV
 gi_wp2_with (refine ⟨trivial,?_⟩;gi_at_call 168;refine (U4 _ _).mono ?_;rintro e w' ⟨rfl,rfl⟩)
 generalize Tryz.zeroCells207=zc at *
 refine qX (by decide) (gf:=230) (lb:=#[]) rfl (enters_of Tryz.func230 (by kernel_rfl) rfl) (OL 2 (by decide) w hE) hb0 (fun _=>rfl)
  (fun pre X=>Below w.heap.size w X/\Bx X w.heap.size 3 #[.int .i64 k]/\Bx X (w.heap.size+1) 207 zc/\∀y∈pre,y.1≠k)
  (fun _ X=>Below w.heap.size w X/\Bx X (w.heap.size+1) 207 (bM (pt k)))
  (fun s X Y h hb=>?_) (fun s X Y h hb=>?_) (fun s X h=>h.1) ⟨hb0,B1,B2,fun y hy=>by cases hy⟩
  (fun x a' X=>∃g,a'={ tmps:=#[.int .i64 k,.pointer (some ⟨w.heap.size,0,none⟩),.pointer (some ⟨w.heap.size+1,0,none⟩),.int .i64 (x.1:Int),.pointer (some ⟨g,0,none⟩),.func (.func 230) #[] #[],.int .i64 (x.1:Int),.agg (bM (pt x.1)),undef,undef,undef,undef,undef],defers:=[] }/\Bx X g 207 (bM (pt x.1)))
  (fun x a' X l o o' h ho hc=>?_) ?assign ?body ?done ?stop
 · have hs:((w.alloc (.cells #[.int .i64 k] 3)).alloc (.cells zc 207)).heap.size=w.heap.size+2:=by rw[aj,aj]
   rw[hs]at hb;exact ⟨h.1.trans (hb.mono (by omega)),h.2.1.below hb (by omega),h.2.2.1.below hb (by omega),h.2.2.2⟩
 · have hs:((w.alloc (.cells #[.int .i64 k] 3)).alloc (.cells zc 207)).heap.size=w.heap.size+2:=by rw[aj,aj]
   rw[hs]at hb;exact ⟨h.1.trans (hb.mono (by omega)),h.2.below hb (by omega)⟩
 · obtain⟨g,e,hB⟩:=h;refine ⟨g,e,(World.putObj_heap_other ?_).trans hB⟩;rintro rfl;rw [show X.heap[g]? = _ from hB]at ho;cases ho;cases hc
 case assign =>
  intro l x W K hK;simp only[rwA];have B3:=Bx.mk W 207 Tryz.zeroCells207
  gi_wp2_with (refine nS (fun _=>trivial) rfl rfl rfl B3 qV ?_)
  exact hK _ _ ((aA W _).trans (below_setRow _ _ (Nat.le_refl _))) ⟨_,rfl,lW B3 _⟩
 case body =>
  rintro l pre x a' W ⟨hb,hB1,hB2,hpre⟩ ⟨g,rfl,hB⟩ hlen;have c0:=hB1.cell 0 rfl;by_cases hx:x.1=k
  · have hx2:(x.1:Int)=(k:Int):=by omega
    rw[hx]at hB;rw [hx]
    have hfin:Fr ((w.alloc (.cells #[.int .i64 k] 3)).alloc (.cells zc 207)).heap.size W (W.setRow (w.heap.size+1) (bM (pt k))):=by
     rw[aj,aj];exact ⟨by show W.heap.size<=(W.heap.modify _ _).size;simp,fun b o hbb ho=>(setRow_other _ (by omega)).trans ho⟩
    have hbl:Below w.heap.size w (W.setRow (w.heap.size+1) (bM (pt k))):=hb.trans (below_setRow _ _ (by omega))
    gi_wp2_with (first|(refine qj (fun _=>trivial) rfl rfl hB ?_)|(refine nS (fun _=>trivial) rfl rfl rfl hB2 hz ?_))
    exact⟨hfin,hbl,lW hB2 _⟩
  · have hx2:((x.1:Int)==(k:Int))=false:=by simp;omega
    gi_wp2
    refine⟨Fr.below (bH _),hb,hB1,hB2,fun y hy=>?_⟩
    rcases List.mem_append.1 hy with hy|hy
    · exact hpre y hy
    · rw[List.mem_singleton.1 hy];exact hx
 case done =>
  rintro D xs W hD rfl ⟨_,_,_,hno⟩ _;exact absurd rfl (hno ⟨k,by omega⟩ (List.mem_finRange _))
 case stop =>
  rintro D pre W hD ⟨hb,hB⟩ hDD;rw [aj,aj]at hD
  gi_wp2
  refine⟨by simp,.inl ⟨_,_,rfl,run_takeDeferred hDD,?_⟩⟩;have XH:Bx (W.putObj D (.deferred none)) (w.heap.size+1) 207 (bM (pt k)):=(World.putObj_heap_other (by omega)).trans hB;exact ⟨_,results_cell_row rfl _ _ (w.heap.size+1) _ (bM (pt k)) (0,0) _ rfl XH uD rfl (by rw[fO];exact jG),rfl,hb.trans (dV (by omega) hDD)⟩
def rD (s:List UInt8):List Value:=[.string ⟨s.toArray⟩]
theorem xg (s:List UInt8):(rD s).length=1:=rfl
theorem strI:∃i z,Tryz.prog.info? 9=some i/\i.zero=some z/\i.size=1/\z.cells.size=1/\i.bytes=16:=by
 have h:(Tryz.prog.info? 9).map (fun i=>(i.size,i.bytes,i.zero.map (·.cells.size)))=some (1,16,some 1):=by kernel_rfl
 cases hi:Tryz.prog.info? 9 with
 | none=>rw[hi]at h;cases h
 | some i =>
  rw[hi]at h;simp only[Option.map_some,Option.some.injEq,Prod.mk.injEq]at h;obtain ⟨h1,h2,h3⟩:=h
  cases hz:i.zero with
  | none=>rw[hz]at h3;cases h3
  | some z=>rw[hz]at h3;exact⟨i,z,rfl,hz,h1,by simpa using h3,h2⟩
theorem WW:Tryz.prog.underlying 34=some (.slice 9):=by kernel_rfl
theorem qy {w:World} {ops:Array Oper} {rest:List Oper} {o:Oper} {a:Act} {Q:Exit->Act->World->Prop} (hgd:o.guard=none) (s y:Operand) (ho:o.op=.call { callee:=.builtin .append,args:=#[s,y],argTypes:=#[34,34] })
 (B cap n m:Nat) (flat news:List Value) (v x:Value) (hes:a.eval s=v) (ES:a.eval y=x) (hv:dP 9 1 B cap n flat v w) (hB:B<=w.heap.size) (hs:Src Tryz.prog 1 34 x m news w) (hcm:cap<=maxLen) (h63:n+m<=2000000)
 (h:∀v' w' cap',Below B w w'->(n=cap->Below w.heap.size w w')->dP 9 1 B cap' (n+m) (flat++news) v' w'->cap'<=maxLen->wpList Tryz.prog ops Q rest (a.put o.dst v') w'):wpList Tryz.prog ops Q (o :: rest) a w:=by
 obtain⟨i,z,hi,hz,hs1,hz1,hby⟩:=strI;exact iH hgd s y _ _ ho i z 1 B cap n m flat news v x WW hi hz hs1 hz1 hes ES hv hB hs hcm (by unfold maxLen;omega) (by rw[hby];omega) h
def Aj (a:Int) (n:Nat):List (List UInt8):=(List.range (n+1)).map fun j=>Lib.itoa (a ^ j)
theorem Ce (a:Int) (n:Nat):(Aj a n).length=n+1:=by simp[Aj]
theorem Jw (a:Int) {n k:Nat} (h:k<n+1):(Aj a n)[k]? = some (Lib.itoa (a ^ k)):=by simp[Aj,h]
theorem O1 (a:Int) (n:Nat):Aj a (n+1)=Aj a n++[Lib.itoa (a ^ (n+1))]:=by
 unfold Aj;rw[List.range_succ,List.map_append];rfl
theorem qI (a:Int) (n:Nat) (w:World) (h0:0<=a) (h1:a<=1000) (hn:n<=50) (hE:Env w) :
 Calls Tryz.prog 113 #[.int .i64 a,.int .i64 n] w fun e w'=>(∃v,e=.returned v/\TN 9 1 w.heap.size (n+1) ((Aj a n).flatMap rD) v w')/\Below w.heap.size w w':=by
 have hs0:Kp (Aj a 0=[[49]]):=⟨by simp[Aj,show Lib.itoa 1=[49] by decide +kernel]⟩
 have hb0:=aA w (.cells #[.string { data:=#[49] }] 9);have B0:=Bx.mk w 9 #[.string { data:=#[49] }]
 go_enter Tryz.func113,Tryz.ntmps113
 go_wp2_with fail
 go_loopw [5,8] (fun s5 s8 wr=>∃k:Nat,s8=.int .i64 k/\k<=n/\TN 9 1 w.heap.size (k+1) ((Aj a k).flatMap rD) s5 wr/\Below w.heap.size w wr) (fun _ s8 _=>n-(intOf s8).toNat)
 case atStart=>exact⟨0,rfl,Nat.zero_le _,⟨1,⟨w.heap.size,_,rfl,Nat.le_refl _,Nat.le_refl _,B0,rfl,by rw[hs0.out];rfl⟩,by decide⟩,hb0⟩
 case round =>
  clear hs0 hb0 B0;obtain ⟨k,rfl,hk,⟨cap,hR,hcm⟩,hb⟩:=hrel;by_cases hlt:k<n
  · have t0:decide ((k:Int)<(n:Int))=true:=by simp;omega
    have hEr:=hE.below hb;have hR2:=hR;obtain ⟨g,cells,rfl,hg,hkc,hB,hcs,hfl⟩:=hR2;obtain ⟨sa,esa⟩:=Ix.ex a;obtain ⟨sk,esk⟩:=Ix.ex (a ^ k);obtain ⟨sn,XI⟩:=Ix.ex (a ^ (k+1))
    have hck:∀W,Below wr.heap.size wr W->W.cell? ⟨g,k,none⟩=some (.string ⟨sk.toArray⟩):=fun W hW=>by
     refine (hW.cell (p:=⟨g,k,none⟩) hB.lt).trans (hB.cell k ?_)
     have h2:(cells.toList.take ((k+1)*1))[k]? = some (.string ⟨sk.toArray⟩):=by
      rw[hfl];have:=flat_get (f:=rD) (size:=1) xg (Aj a k) k 0 _ (Jw a (by omega)) (by decide);rw [Nat.mul_one,Nat.add_zero]at this;rw [this,esk.out];rfl
     rw[List.getElem?_take,if_pos (by omega)]at h2;simpa using h2
    have hF:=fun w1 (hb1:Below wr.heap.size wr w1)=>oO a w1 (by omega) (by omega) (hEr.below hb1)
    rw[esa.out]at hF;have hT:=fun w1 (hb1:Below wr.heap.size wr w1)=>wu w1 esk esa XI ⟨by rw[Int.pow_succ]⟩ (Tb.jk h0 h1 k) (Tb.jk h0 h1 1 |> fun h=>by rw[Int.pow_one]at h;exact h) (Tb.jk h0 h1 (k+1)) (by omega) (by decide) (by omega) (hEr.below hb1)
    have hnx:Kp ((Aj a k).flatMap rD++[.string ⟨sn.toArray⟩]=(Aj a (k+1)).flatMap rD):=⟨by rw[O1,List.flatMap_append,XI.out];rfl⟩
    clear hfl hB esa esk XI hE hEr hcs;have hcast:((k+1:Nat):Int)-1=(k:Int):=by omega
    go_wp2;refine au [ak (.slice (some ⟨g,0,none⟩) (k+1) cap),ak (.slice (some ⟨g,0,none⟩) (k+1) cap),ak (.slice (some ⟨g,0,none⟩) (k+1) cap),ak (.int .i64 ((k+1:Nat):Int)),ak (.int .i64 k),ak (.pointer (some ⟨g,k,none⟩)),ak (.string ⟨sk.toArray⟩),ak (.int .i64 a),ak (.string ⟨sa.toArray⟩),ak (.string ⟨sn.toArray⟩),dP 9 1 wr.heap.size 1 1 [.string ⟨sn.toArray⟩]] 11 24 (by kernel_rfl) rfl rfl (by kernel_rfl) ?_ ?_ ?_
    · simp only[aY]
      repeat' apply And.intro
      all_goals first|exact aB _|exact aN _ _ _ _ _ _|trivial
    · simp only[Users,List.take,List.length];refine ⟨?_,?_,?_,?_,?_,?_,?_,?_,?_,?_,?_,trivial⟩;all_goals (intro vs w1 hb1 hd;simp only[aJ,Act.put,List.nil_append,List.cons_append,List.setIfInBounds_toArray,List.set_cons_succ,List.set_cons_zero,Nat.reduceAdd])
      · clear hd hF hT hck;go_wp2;exact⟨Below.refl _ _,rfl⟩
      · clear hd hF hT hck;go_wp2;exact⟨Below.refl _ _,rfl⟩
      · clear hd hF hT hck;go_wp2;exact⟨Below.refl _ _,rfl⟩
      · have h2:vs 2=_:=hd 2 rfl;clear hd hF hT hck;rw[h2];go_wp2;exact⟨Below.refl _ _,rfl⟩
      · have h3:vs 3=_:=hd 3 rfl;clear hd hF hT hck;rw[h3];go_wp2;exact⟨Below.refl _ _,rfl⟩
      · have h1:vs 1=_:=hd 1 rfl;have h4:vs 4=_:=hd 4 rfl;clear hd hF hT hck;rw[h1,h4];go_wp2;first|exact⟨Below.refl _ _,rfl⟩|exact⟨Below.refl _ _,by simp[ak]⟩
      · have h5:vs 5=_:=hd 5 rfl;have c1:=hck w1 hb1;clear hd hF hT hck;rw[h5];go_wp2;exact⟨Below.refl _ _,rfl⟩
      · clear hd hF hT hck;go_wp2;exact⟨Below.refl _ _,rfl⟩
      · have h7:vs 7=_:=hd 7 rfl;have hC:=hF w1 hb1;clear hd hF hT hck;rw[h7];go_wp2_with fail;refine hC.mono ?_;clear hC;rintro _ w9 ⟨rfl,aX⟩;go_wp2;first|rfl|exact⟨aX,rfl⟩
      · have h6:vs 6=_:=hd 6 rfl;have h8:vs 8=_:=hd 8 rfl;have hC:=hT w1 hb1;clear hd hF hT hck;rw[h6,h8];go_wp2_with fail;refine hC.mono ?_;clear hC;rintro _ w9 ⟨rfl,aX⟩;go_wp2;first|rfl|exact⟨aX,rfl⟩
      · have h9:vs 9=_:=hd 9 rfl;clear hd hF hT hck;rw[h9];go_wp2;exact ⟨(Below.refl _ _).alloc (Nat.le_refl _) _,_,_,rfl,hb1.size,Nat.le_refl _,Bx.mk _ _ _,rfl,rfl⟩
    · clear hF hT hck;intro vs w1 hb1 hRR;simp only[bP,ak]at hRR;obtain ⟨e0,e1,e2,e3,e4,e5,e6,e7,e8,e9,e10,-⟩:=hRR;simp only[List.drop,List.take,List.map,aJ,Act.put,List.setIfInBounds_toArray,List.set_cons_succ,List.set_cons_zero,Nat.reduceAdd];have hR1:=aN _ _ _ _ _ _ _ _ _ hR hb1;refine qy rfl (.tmp 10) (.tmp 20) rfl w.heap.size cap (k+1) 1 ((Aj a k).flatMap rD) [.string ⟨sn.toArray⟩] (vs 0) (vs 10) rfl rfl (by rw[e0];exact hR1) (Nat.le_trans hb.size hb1.size) (dP.src (fun u hu=>by simp at hu;subst hu;rfl) WW e10) hcm (by omega) ?_;intro v' w' cap' f1 f2 f3 f4;rw [hnx.out]at f3;have hbN:=(ah hb hb1).trans f1;clear f1 f2 e0 e1 e2 e3 e4 e5 e6 e7 e8 e9 e10 hR hR1 hnx;go_wp2;exact ⟨⟨k+1,by go_num,by omega,⟨cap',f3,f4⟩,hbN⟩,by simp[intOf] <;> omega⟩
  · obtain rfl:k=n:=by omega
    have hR2:=hR;obtain ⟨g,cells,rfl,-,-,-,-,-⟩:=hR2;go_wp2;go_ret;exact ⟨⟨_,rfl,cap,hR,hcm⟩,hb⟩
end Go.Proofs.YtohgjenaclfegaaGreatDoor
namespace Rq
end Rq
namespace Go.Proofs.YtohgjenaclfegaaGreatDoor
open Go.RowKit Go.Shelf
def Out (P:Prop) (q:Rat) (n d:List UInt8) (e:Int):Prop:=(e=0/\P/\Rq.Fq q/\LQ q n d)∨(e=40/\¬P/\n=[]/\d=[])
theorem OV {f:FuncId} {a b:Value} {q:Rat} {n d:List UInt8} (lq:LQ q n d) {w0:World} (h:aT f #[a,b] w0 (.tuple #[QV q,.int .i64 0])):aT f #[a,b] w0 (.tuple #[.agg #[.string ⟨n.toArray⟩,.string ⟨d.toArray⟩],.int .i64 0]):=by
 rw[lq.eq]at h;exact h
section
variable (a b:Rat) (ha:Rq.Fq a) (hb:Rq.Fq b)
include ha hb
theorem WR:∃(n d:List UInt8) (e:Int),Out (jo a b) (a+b) n d e/\∀w0,Env w0->aT 161 #[QV a,QV b] w0 (.tuple #[.agg #[.string ⟨n.toArray⟩,.string ⟨d.toArray⟩],.int .i64 e]):=by
 by_cases h:jo a b
 · obtain⟨n,d,lq⟩:=LQ.ex (a+b);refine ⟨n,d,0,.inl ⟨rfl,h,?_,lq⟩,fun w0 hE=>OV lq (Nz a b w0 hE ha hb h)⟩;rw [←Rq.TJ];exact Rq.Es (Int.mul_ne_zero (Rq.pV a) (Rq.pV b)) h.2.2.1 h.2.2.2
 · exact⟨[],[],40,.inr ⟨rfl,h,rfl,rfl⟩,fun w0 hE=>Ny a b w0 hE ha hb h⟩
end
def sn:Option Rat->List UInt8
 | some q=>Lib.itoa q.num
 | none=>[]
def sd:Option Rat->List UInt8
 | some q=>Lib.itoa (q.den:Int)
 | none=>[]
def eO:Option Rat->Int
 | some _=>0
 | none=>40
def VO (o:Option Rat):Value:=.agg #[.string ⟨(sn o).toArray⟩,.string ⟨(sd o).toArray⟩]
def NZ (o:Option Rat):Prop:=∀q,o=some q->Rq.Fq q
noncomputable def Vf (P:Rat->Rat->Prop) (f:Rat->Rat->Rat) (a b:Option Rat):Option Rat :=
 match a,b with
 | some x,some y=>@ite _ (P x y) (Classical.propDecidable _) (some (f x y)) none
 | _,_=>none
theorem wF {P:Rat->Rat->Prop} {f:Rat->Rat->Rat} {x y:Rat} (h:P x y):Vf P f (some x) (some y)=some (f x y):=by unfold Vf;exact if_pos h
theorem PE {P:Rat->Rat->Prop} {f:Rat->Rat->Rat} {x y:Rat} (h:¬P x y):Vf P f (some x) (some y)=none:=by unfold Vf;exact if_neg h
theorem PD {P:Rat->Rat->Prop} {f:Rat->Rat->Rat} {a b:Option Rat} {z:Rat} (h:Vf P f a b=some z):∃x y,a=some x/\b=some y/\P x y/\z=f x y:=by
 cases a with
 | none=>cases h
 | some x =>
  cases b with
  | none=>cases h
  | some y =>
   by_cases hp:P x y
   · rw[wF hp]at h;exact ⟨x,y,rfl,rfl,hp,by cases h;rfl⟩
   · rw[PE hp]at h;cases h
noncomputable def tY:=Vf jo (fun a b=>a+b)
theorem ok_none:Rq.okB (sn none) (sd none)=false:=PN
theorem lens {o:Option Rat} (h:NZ o):(sn o).length<=1000000/\(sd o).length<=1000000:=by
 cases o with
 | none=>exact⟨by decide,by decide⟩
 | some q=>exact⟨bJ (h q rfl).num,bJ (h q rfl).den⟩
theorem ZP {f:FuncId} {P:Rat->Rat->Prop} {g:Rat->Rat->Rat}
 (hno:∀(a1 a2 b1 b2:List UInt8) (w:World),Env w->a1.length<=1000000->a2.length<=1000000->b1.length<=1000000->b2.length<=1000000->(Rq.okB a1 a2=false∨Rq.okB b1 b2=false)->aT f #[.agg #[.string ⟨a1.toArray⟩,.string ⟨a2.toArray⟩],.agg #[.string ⟨b1.toArray⟩,.string ⟨b2.toArray⟩]] w (.tuple #[QZ,.int .i64 40]))
 (hout:∀a b:Rat,Rq.Fq a->Rq.Fq b->∃(n d:List UInt8) (e:Int),Out (P a b) (g a b) n d e/\∀w0,Env w0->aT f #[QV a,QV b] w0 (.tuple #[.agg #[.string ⟨n.toArray⟩,.string ⟨d.toArray⟩],.int .i64 e]))
 (a b:Option Rat) (ha:NZ a) (hb:NZ b):NZ (Vf P g a b)/\∀w0,Env w0->aT f #[VO a,VO b] w0 (.tuple #[VO (Vf P g a b),.int .i64 (eO (Vf P g a b))]):=by
 have la:=lens ha;have lb:=lens hb
 cases a with
 | none=>exact⟨(fun q h=>by cases h),fun w0 hE=>hno _ _ _ _ w0 hE la.1 la.2 lb.1 lb.2 (.inl ok_none)⟩
 | some x =>
  cases b with
  | none=>exact⟨(fun q h=>by cases h),fun w0 hE=>hno _ _ _ _ w0 hE la.1 la.2 lb.1 lb.2 (.inr ok_none)⟩
  | some y =>
   obtain⟨n,d,e,ho,hc⟩:=hout x y (ha x rfl) (hb y rfl)
   rcases ho with ⟨rfl,hp,hf,lq⟩|⟨rfl,hp,rfl,rfl⟩
   · rw[wF hp];refine ⟨fun q h=>by cases h;exact hf,fun w0 hE=>?_⟩;have:=hc w0 hE;rw [←lq.eq]at this;exact this
   · rw[PE hp];exact ⟨(fun q h=>by cases h),fun w0 hE=>hc w0 hE⟩
section
variable (a b:Option Rat) (ha:NZ a) (hb:NZ b)
include ha hb
theorem FW:NZ (tY a b)/\∀w0,Env w0->aT 161 #[VO a,VO b] w0 (.tuple #[VO (tY a b),.int .i64 (eO (tY a b))]) :=
 ZP (fun a1 a2 b1 b2 w hE h1 h2 h3 h4 h=>TP a1 a2 b1 b2 w hE h1 h2 h3 h4 h) (fun x y hx hy=>WR x y hx hy) a b ha hb
end
end Go.Proofs.YtohgjenaclfegaaGreatDoor

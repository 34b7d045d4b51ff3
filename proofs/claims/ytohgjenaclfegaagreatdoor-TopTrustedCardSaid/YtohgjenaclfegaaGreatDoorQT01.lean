import Derived.Test.YtohgjenaclfegaaGreatDoorQT00
import Derived.RangeFuncFrom
import Derived.RangeFuncWrites
import Derived.Deep.WholeRow
set_option linter.unusedVariables false
set_option linter.unusedSimpArgs false
set_option maxRecDepth 100000
set_option maxHeartbeats 8000000
namespace Go.Proofs.YtohgjenaclfegaaGreatDoor
open Go.RowKit Go.Shelf
attribute [local go_sem] Oper.semAt_some
def dA (f:Nat->List UInt8):Array Value:=((List.range 101).map fun k=>Value.string ⟨(f k).toArray⟩).toArray
theorem gV (f:Nat->List UInt8):(dA f).size=101:=by simp[dA]
theorem jK (f:Nat->List UInt8) {k:Nat} (h:k<101):(dA f)[k]? = some (.string ⟨(f k).toArray⟩):=by
 simp[dA,h]
theorem zC (f:Nat->List UInt8) {k:Nat} (h:k<101) (s:List UInt8):(dA f).setIfInBounds k (.string ⟨s.toArray⟩)=dA (fun j=>if j=k then s else f j):=by
 apply Array.ext
 · simp[dA]
 · intro i h1 h2;simp only[dA,List.setIfInBounds_toArray,List.getElem_toArray,List.getElem_set,List.getElem_map,List.getElem_range];by_cases e:k=i
   · subst e;simp
   · rw[if_neg e,if_neg (fun h=>e h.symm)]
theorem zD (f:Nat->List UInt8):(dA f).all (·.oneCell')=true:=by
 rw[Array.all_eq_true_iff_forall_mem];intro v hv;simp only[dA,List.mem_toArray,List.mem_map]at hv;obtain ⟨k,-,rfl⟩:=hv;rfl
theorem vY:Tryz.prog.underlying 207=some (.array 101 9):=by kernel_rfl
theorem oD:(Tryz.prog.info? 207).map (·.size)=some 101:=by kernel_rfl
theorem Js {W:World} {g:Nat} {t:TypeId} (f:Nat->List UInt8) (hB:Bx W g t (dA f)):(Instr.loadAt 207 (.pointer (some ⟨g,0,none⟩))).run Tryz.prog W=.ok (.agg (dA f)) W:=by
 simp only[Instr.loadAt,Instr.sureAddr,Sem.run_bind,Sem.run_pure,Result.andThen];exact run_loadVar_row W g t _ _ (0,0) _ hB vY rfl (by rw[gV];exact oD)
theorem Gg {W:World} {g:Nat} {t:TypeId} {old:Array Value} (f:Nat->List UInt8) (hB:Bx W g t old) (ho:old.size=101):(Instr.storeAt 207 (.pointer (some ⟨g,0,none⟩)) (.agg (dA f))).run Tryz.prog W=.ok () (W.setRow g (dA f)):=by
 simp only[Instr.storeAt,Instr.sureAddr,Sem.run_bind,Sem.run_pure,Result.andThen];exact run_storeVar_row W g t _ old _ hB (by rw[gV];exact oD) (by rw[gV];exact ho) (zD f)
theorem nD {F:Fence} {n:Nat} {o:Oper} {a:Act} {w:World} {K:Act->World->Prop} {Q:Exit->Act->World->Prop} (hF:∀f,F.fn f) {x:Operand} (ho:o.op=.load 207 x) {g:Nat} (hx:a.eval x=.pointer (some ⟨g,0,none⟩)) {t:TypeId} {f:Nat->List UInt8}
 (hB:Bx w g t (dA f)) (h:K (a.put o.dst (.agg (dA f))) w):o.wpIn F n Tryz.prog a w K Q:=by
 refine⟨fun f _=>hF f,?_⟩;rw [Oper.semAt_plain _ _ _ (by rw[ho];intro c h;cases h)]
 unfold execOp
 simp only[ho,hx,Js f hB,Sem.run_bind,Sem.run_pure,Result.andThen_ok];exact h
theorem lC {F:Fence} {n:Nat} {o:Oper} {a:Act} {w:World} {K:Act->World->Prop} {Q:Exit->Act->World->Prop} (hF:∀f,F.fn f) {x y:Operand} (ho:o.op=.store 207 x y) {g:Nat} (hx:a.eval x=.pointer (some ⟨g,0,none⟩)) {t:TypeId} {old:Array Value} {f:Nat->List UInt8}
 (hy:a.eval y=.agg (dA f)) (hB:Bx w g t old) (hs:old.size=101) (h:K (a.put o.dst undef) (w.setRow g (dA f))):o.wpIn F n Tryz.prog a w K Q:=by
 refine⟨fun f _=>hF f,?_⟩;rw [Oper.semAt_plain _ _ _ (by rw[ho];intro c h;cases h)]
 unfold execOp
 simp only[ho,hx,hy,Gg f hB hs,Sem.run_bind,Sem.run_pure,Result.andThen_ok];exact h
theorem qI {W:World} {g:Nat} {t:TypeId} {old:Array Value} (hB:Bx W g t old) (cs:Array Value):Bx (W.setRow g cs) g t cs:=by
 unfold Bx at *
 show (W.heap.modify g _)[g]? = _
 rw[Array.getElem?_modify,if_pos rfl,hB];rfl
theorem setRow_other {W:World} {g:Nat} (cs:Array Value) {k:Nat} (h:k≠g):(W.setRow g cs).heap[k]? = W.heap[k]? := by
 show (W.heap.modify g _)[k]? = _
 rw[Array.getElem?_modify,if_neg (fun e=>h e.symm)]
theorem below_setRow {B g:Nat} (W:World) (cs:Array Value) (h:B<=g):Below B W (W.setRow g cs) :=
 ⟨rfl,rfl,rfl,by show W.heap.size<=(W.heap.modify g _).size;simp,fun k hk=>setRow_other cs (by omega)⟩
def pt (n k:Nat):List UInt8:=Lib.itoa (Tb.ch n k:Int)
theorem yj {n k:Nat} (h:n<k):pt n k=Lib.itoa 0:=by unfold pt;rw[Tb.pY h];rfl
def qY (n k:Nat) (j:Nat):List UInt8:=if k<j then pt (n+1) j else pt n j
theorem Gx (n:Nat):qY n (n+1)=pt n:=by
 funext j
 unfold qY
 split
 · rw[yj (by omega),yj (by omega)]
 · rfl
theorem O8 (n:Nat):qY n 0=pt (n+1):=by
 funext j
 unfold qY
 split
 · rfl
 · have:j=0:=by omega
   subst this
   unfold pt
   rw[Tb.rZ,Tb.rZ]
theorem J7 (n k:Nat) (hk:0<k):(fun j=>if j=k then pt (n+1) k else qY n k j)=qY n (k-1):=by
 funext j
 unfold qY
 by_cases e:j=k
 · subst e;rw[if_pos rfl,if_pos (by omega)]
 · rw[if_neg e];by_cases h:k<j
   · rw[if_pos h,if_pos (by omega)]
   · rw[if_neg h,if_neg (by omega)]
theorem yh (n k:Nat):Ix (Tb.ch n k:Int) (pt n k):=⟨rfl⟩
theorem IY:(fun k=>if k=0 then Lib.itoa 1 else Lib.itoa 0)=pt 0:=by
 funext k
 cases k with
 | zero=>rfl
 | succ k=>rw[yj (by omega)];rfl
def Zb (x:Fin 101):Array Value:=#[.int .i64 (x.1:Int),.agg (dA (pt x.1))]
theorem ML {n:Nat} (h:n<101):(List.finRange 101).take (n+1)=(List.finRange 101).take n++[⟨n,h⟩]:=by
 rw[List.take_succ_eq_append_getElem (by simpa using h)]
 congr 2
 simp[List.getElem_finRange]
theorem rG:(Tryz.zeroCells207).size=101:=by kernel_rfl
theorem Ik {cs:Array Value} (hs:cs.size=101) {f:Nat->List UInt8} (h:∀j,j<101->cs[j]? = some (.string ⟨(f j).toArray⟩)):cs=dA f:=by
 apply Array.ext
 · rw[hs,gV]
 · intro i h1 h2;have e1:=h i (by omega);have e2:=jK f (k:=i) (by omega);rw [Array.getElem?_eq_getElem h1]at e1;rw [Array.getElem?_eq_getElem h2]at e2;exact Option.some.inj (e1.trans e2.symm)
theorem Jr (n:Nat) (hn:1<=n) (w0:World) (hE0:Env w0):Ye n Tryz.prog 230 #[] Zb (fun ys=>ys=List.finRange 101) 101 w0:=by
 intro l J Jx W hW hJ hJx L8 hY hj0;refine callsIn_of_wp Tryz.func230 rfl trivial ?_ rfl;simp only[Tryz.ntmps230,List.size_toArray,List.length_cons,List.length_nil,Nat.reduceAdd,Nat.reduceSub,Array.replicate_succ,Array.replicate_zero,List.push_toArray,List.append_toArray,List.nil_append,List.cons_append];have Ub:=aG W (.cells Tryz.zeroCells207 207);have BA:=Bx.mk W 207 Tryz.zeroCells207;have hz:=rG
 gi_wp2_with fail
 generalize Tryz.zeroCells207=zc at *
 gi_loopw [6] (fun s6 wr=>∃(k:Nat) (cs:Array Value),s6=.int .i64 k/\k<=101/\cs.size=101/\Kp (∀j,j<k->cs[j]? = some (.string ⟨(Lib.itoa 0).toArray⟩))/\Bx wr W.heap.size 207 cs/\Below W.heap.size W wr) (fun s6 _=>101-(intOf s6).toNat)
 case atStart=>exact⟨0,zc,rfl,by omega,hz,⟨fun j hj=>by omega⟩,BA,Ub⟩
 case round =>
  clear BA Ub hz;obtain ⟨k,cs,rfl,hk,hcs,hz,hB,hb⟩:=hrel;by_cases hlt:k<101
  · have t0:decide ((k:Int)<101)=true:=by simp;omega
    obtain⟨v,hv⟩:∃v,cs[k]? = some v:=⟨cs[k],Array.getElem?_eq_getElem (by omega)⟩
    have c0:=hB.cell k hv;have f0:=hB.frozen k;have hB2:=hB.set k (.string { data:=#[48] });have hb2:=aQ hb (p:=⟨W.heap.size,k,none⟩) (Nat.le_refl _) (.string { data:=#[48] })
    have hz2:Kp (∀j,j<k+1->(cs.setIfInBounds k (.string { data:=#[48] }))[j]? = some (.string ⟨(Lib.itoa 0).toArray⟩)):=⟨fun j hj=>by
     rw[Array.getElem?_setIfInBounds];by_cases e:k=j
     · rw[if_pos e,if_pos (by omega),qC]
     · rw[if_neg e];exact hz.out j (by omega)⟩
    have hs2:(cs.setIfInBounds k (.string { data:=#[48] })).size=101:=by rw[Array.size_setIfInBounds];exact hcs
    clear hz hv hB hb hY hJ hJx L8
    gi_wp2
    go_roundw
    case rel=>exact⟨k+1,_,by go_num,by omega,hs2,hz2,hB2,hb2⟩
    case measure=>simp[intOf];omega
  · obtain rfl:k=101:=by omega
    have e1:=Ik hcs (f:=fun _=>Lib.itoa 0) hz.out;subst e1;have c0:=hB.cell 0 (jK _ (by decide));have f0:=hB.frozen 0;have hB2:=hB.set 0 (.string { data:=#[49] });have hb2:=aQ hb (p:=⟨W.heap.size,0,none⟩) (Nat.le_refl _) (.string { data:=#[49] })
    have e2:(dA (fun _=>Lib.itoa 0)).setIfInBounds 0 (.string { data:=#[49] })=dA (pt 0):=by
     rw[show ({ data:=#[49] }:ByteArray)=⟨(Lib.itoa 1).toArray⟩ by rw[show Lib.itoa 1=[49] by decide +kernel],zC _ (by decide),IY]
    rw[e2]at hB2;clear hB hb hz hcs e2
    gi_wp2_with fail
    generalize wr.setCell ⟨W.heap.size,0,none⟩ (.string { data:=#[49] })=W1 at *;have hj1:=hJ _ _ _ hj0 hb2;have hs1:=hb2.size;clear hb2 c0 f0 hj0;rw [show ((101:Nat):Int)=101 from rfl]
    gi_loopw [4] (fun s4 wr=>∃k:Nat,s4=.int .i64 k/\k<=101/\(k<101->Bx wr W.heap.size 207 (dA (pt k)))/\J ((List.finRange 101).take k) wr/\W.heap.size<=wr.heap.size) (fun s4 _=>101-(intOf s4).toNat)
    case atStart=>exact⟨0,rfl,by omega,fun _=>hB2,hj1,hs1⟩
    case round =>
     clear hB2 hj1 hs1;obtain ⟨k,rfl,hk,hB,hj,hsz⟩:=hrel;by_cases hlt:k<101
     · have t0:decide ((k:Int)<101)=true:=by simp;omega
       replace hB:=hB hlt;have WB:Kp (k<101):=⟨hlt⟩
       have hfr:=fun Y (h:Fr W.heap.size wr Y)=>h.keep _ _ (Nat.le_refl _) hB
       obtain⟨fn,tmps,assign,body,hy,hR⟩:=hY _ ⟨k,hlt⟩ wr hj (by rw[List.length_take,List.length_finRange];omega);rw [←ML hlt]at hR;simp only[Zb]at hy;clear hY hj
       gi_wp2_with (refine nD (fun _=>trivial) rfl rfl hB ?_)
       refine hR.mono ?_;rintro e W3 (⟨rfl,hJ3,hk3⟩|⟨rfl,hJx3⟩)
       · have B3:Bx W3 W.heap.size 207 (dA (pt k)):=hfr W3 hk3;have hs3:=Nat.le_trans hsz hk3.size;clear hfr hR hy hB
         gi_wp2_with fail
         gi_loopw [5] (fun s5 wr=>∃m:Nat,s5=.int .i64 m/\m<=k+1/\Bx wr W.heap.size 207 (dA (qY k m))/\J ((List.finRange 101).take (k+1)) wr/\W.heap.size<=wr.heap.size) (fun s5 _=>(intOf s5).toNat)
         case atStart=>exact⟨k+1,by go_num,by omega,by rw[Gx];exact B3,hJ3,hs3⟩
         case round =>
          clear B3 hJ3 hs3;obtain ⟨m,rfl,hm,hB,hj,hsz⟩:=hrel;by_cases hin:0<m/\m<101
          · obtain⟨p,rfl⟩:∃p,m=p+1:=⟨m-1,by omega⟩
            have hp:p<100:=by omega
            have hcast:((p+1:Nat):Int)-1=(p:Int):=by omega
            have t1:decide ((p:Int)+1 > 0)=true:=by simp <;> omega
            have t2:decide ((p:Int)+1<101)=true:=by simp;omega
            have hEr:=hE0.below (L8 _ _ hj);have x1:=fun d os=>(hB.again d os).cell (p+1) (jK _ (by omega))
            have x2:=fun d os=>(hB.again d os).cell p (jK _ (by omega))
            have e1:qY k (p+1) (p+1)=pt k (p+1):=by unfold qY;rw[if_neg (by omega)]
            have e2:qY k (p+1) p=pt k p:=by unfold qY;rw[if_neg (by omega)]
            rw[e1]at x1;rw [e2]at x2;have kp:=fun d os=>JD (Sort.grow (redrawn wr d) os) (yh k (p+1)) (yh k p) (yh (k+1) (p+1)) ⟨by rw[Tb.r_,Int.natCast_add,Int.add_comm]⟩ (Tb.Bd (by omega) _) (Tb.Bd (by omega) _) (Tb.Bd (by omega) _) (by decide) (by decide) (by decide) (hEr.below (below_regrown wr d os))
            have hms:=J7 k (p+1) (by omega);rw [Nat.add_sub_cancel]at hms;replace hms:=Kp.mk hms;generalize pt k (p+1)=sa at *;generalize pt k p=sb at *;generalize pt (k+1) (p+1)=sc at *
            gi_wp2_with fail
            refine wpIn_wide.2 ?_;refine bQ 10 (by kernel_rfl) (by kernel_rfl) ?_;simp only[List.take,List.drop]
            repeat (go_big_quiet_step (first|(go_at_call 169;with_reducible exact Calls.regrown_of (kp _ _))))
            refine wpQuiet_nil ?_;rintro _ ⟨z,rfl⟩;have hbz:=below_regrown wr z.d z.os;have N7:=hB.again z.d z.os;have hjz:=hJ _ _ _ hj (hbz.mono hsz);have hsz2:=Nat.le_trans hsz hbz.size;clear x1 x2 kp hbz hB hj hsz hEr;generalize Sort.grow (redrawn wr z.d) z.os=W2 at *;have c0:=N7.cell (p+1) (jK _ (by omega));have f0:=N7.frozen (p+1);have B2:=N7.set (p+1) (.string ⟨sc.toArray⟩);rw [zC _ (by omega),hms.out]at B2;have hj2:=hJ _ _ _ hjz ((Below.refl W.heap.size W2).setCell (p:=⟨W.heap.size,p+1,none⟩) (Nat.le_refl _) (.string ⟨sc.toArray⟩));have hs2:W.heap.size<=(W2.setCell ⟨W.heap.size,p+1,none⟩ (.string ⟨sc.toArray⟩)).heap.size:=Nat.le_trans hsz2 ((Below.refl W.heap.size W2).setCell (p:=⟨W.heap.size,p+1,none⟩) (Nat.le_refl _) (.string ⟨sc.toArray⟩)).size;clear N7 hjz hsz2;go_wp2_with fail
            gi_wp2_with fail
            go_roundw
            case rel=>exact⟨p,by go_num,by omega,B2,hj2,hs2⟩
            case measure=>simp[intOf] <;> omega
          · have hend:k+1<101->Bx wr W.heap.size 207 (dA (pt (k+1))):=fun h=>by
             obtain rfl:m=0:=by omega
             rw[O8]at hB;exact hB
            rcases (show m=0∨m=101 by omega) with rfl|rfl
            · clear hB;have ZP:=WB.out;have hwr:IntKind.i64.wrap ((k:Int)+1)=(k:Int)+1:=IntWalk.i64_in _ ⟨by omega,by omega⟩
              gi_wp2_with (refine ⟨fun _ _=>trivial,?_⟩)
              go_roundw
              case rel=>exact⟨k+1,by go_num,by omega,hend,hj,hsz⟩
              case measure=>simp[intOf] <;> omega
            · clear hB;have ZP:=WB.out;have hwr:IntKind.i64.wrap ((k:Int)+1)=(k:Int)+1:=IntWalk.i64_in _ ⟨by omega,by omega⟩
              gi_wp2_with (refine ⟨fun _ _=>trivial,?_⟩)
              go_roundw
              case rel=>exact⟨k+1,by go_num,by omega,hend,hj,hsz⟩
              case measure=>simp[intOf] <;> omega
       · gi_wp2_with (refine ⟨fun _ _=>trivial,?_⟩)
         go_end0
         exact⟨⟨_,rfl⟩,.inr ⟨_,hJx3⟩⟩
     · obtain rfl:k=101:=by omega
       rw[List.take_of_length_le (by simp)]at hj;clear hY;have t0:decide (((101:Nat):Int)<101)=false:=by decide
       gi_wp2_with (refine ⟨fun _ _=>trivial,?_⟩)
       go_end0
       exact⟨⟨_,rfl⟩,.inl ⟨_,rfl,hj⟩⟩
attribute [local go_sem] Oper.semAt_some
theorem OV (n:Nat) (w:World):CallsIn Fence.wide n Tryz.prog 168 #[] w fun e w'=>e=.returned (.func (.func 230) #[] #[])/\w'=w:=by
 refine callsIn_of_wp Tryz.func168 rfl trivial ?_ rfl;simp only[Tryz.ntmps168,List.size_toArray,List.length_cons,List.length_nil,Nat.reduceAdd,Nat.reduceSub,Array.replicate_succ,Array.replicate_zero,List.push_toArray,List.append_toArray,List.nil_append,List.cons_append]
 gi_wp2
 go_ret;exact ⟨rfl,rfl⟩
theorem Dp (k:Nat) (w:World) (hk:k<=100) (hE:Env w) :
 bP 112 #[.int .i64 k] w (.agg (dA (pt k))):=by
 refine (callsIn_wide (n:=3)).1 ?_;refine callsIn_of_wp_marks Tryz.func112 rfl trivial ?_ rfl;simp only[Tryz.ntmps112,List.size_toArray,List.length_cons,List.length_nil,Nat.reduceAdd,Nat.reduceSub,Array.replicate_succ,Array.replicate_zero,List.push_toArray,List.append_toArray,List.nil_append,List.cons_append];have hb0:=bNew (aG w (.cells #[.int .i64 k] 3)) (.cells Tryz.zeroCells207 207);have B1:=(Bx.mk w 3 #[.int .i64 k]).new (.cells Tryz.zeroCells207 207);have B2:=Bx.mk (w.alloc (.cells #[.int .i64 k] 3)) 207 Tryz.zeroCells207;rw [aj]at B2;have hz:=rG
 gi_wp2_with (refine ⟨trivial,?_⟩;gi_at_call 168;refine (OV _ _).mono ?_;rintro e w' ⟨rfl,rfl⟩)
 generalize Tryz.zeroCells207=zc at *
 refine xK (by decide) (gf:=230) (lb:=#[]) rfl (enters_of Tryz.func230 (by kernel_rfl) rfl) (Jr 2 (by decide) w hE) hb0 (fun _=>rfl)
  (fun pre X=>Below w.heap.size w X/\Bx X w.heap.size 3 #[.int .i64 k]/\Bx X (w.heap.size+1) 207 zc/\∀y∈pre,y.1≠k)
  (fun _ X=>Below w.heap.size w X/\Bx X (w.heap.size+1) 207 (dA (pt k)))
  (fun s X Y h hb=>?_) (fun s X Y h hb=>?_) (fun s X h=>h.1) ⟨hb0,B1,B2,fun y hy=>by cases hy⟩
  (fun x a' X=>∃g,a'={ tmps:=#[.int .i64 k,.pointer (some ⟨w.heap.size,0,none⟩),.pointer (some ⟨w.heap.size+1,0,none⟩),.int .i64 (x.1:Int),.pointer (some ⟨g,0,none⟩),.func (.func 230) #[] #[],.int .i64 (x.1:Int),.agg (dA (pt x.1)),undef,undef,undef,undef,undef],defers:=[] }/\Bx X g 207 (dA (pt x.1)))
  (fun x a' X l o o' h ho hc=>?_) ?assign ?body ?done ?stop
 · have hs:((w.alloc (.cells #[.int .i64 k] 3)).alloc (.cells zc 207)).heap.size=w.heap.size+2:=by rw[aj,aj]
   rw[hs]at hb;exact ⟨h.1.trans (hb.mono (by omega)),h.2.1.below hb (by omega),h.2.2.1.below hb (by omega),h.2.2.2⟩
 · have hs:((w.alloc (.cells #[.int .i64 k] 3)).alloc (.cells zc 207)).heap.size=w.heap.size+2:=by rw[aj,aj]
   rw[hs]at hb;exact ⟨h.1.trans (hb.mono (by omega)),h.2.below hb (by omega)⟩
 · obtain⟨g,e,hB⟩:=h;refine ⟨g,e,(World.putObj_heap_other ?_).trans hB⟩;rintro rfl;rw [show X.heap[g]? = _ from hB]at ho;cases ho;cases hc
 case assign =>
  intro l x W K hK;simp only[Zb];have B3:=Bx.mk W 207 Tryz.zeroCells207
  gi_wp2_with (refine lC (fun _=>trivial) rfl rfl rfl B3 rG ?_)
  exact hK _ _ ((aG W _).trans (below_setRow _ _ (Nat.le_refl _))) ⟨_,rfl,qI B3 _⟩
 case body =>
  rintro l pre x a' W ⟨hb,hB1,hB2,hpre⟩ ⟨g,rfl,hB⟩ hlen;have c0:=hB1.cell 0 rfl;by_cases hx:x.1=k
  · have hx2:(x.1:Int)=(k:Int):=by omega
    rw[hx]at hB;rw [hx]
    have hfin:Fr ((w.alloc (.cells #[.int .i64 k] 3)).alloc (.cells zc 207)).heap.size W (W.setRow (w.heap.size+1) (dA (pt k))):=by
     rw[aj,aj];exact ⟨by show W.heap.size<=(W.heap.modify _ _).size;simp,fun b o hbb ho=>(setRow_other _ (by omega)).trans ho⟩
    have hbl:Below w.heap.size w (W.setRow (w.heap.size+1) (dA (pt k))):=hb.trans (below_setRow _ _ (by omega))
    gi_wp2_with (first|(refine nD (fun _=>trivial) rfl rfl hB ?_)|(refine lC (fun _=>trivial) rfl rfl rfl hB2 hz ?_))
    exact⟨hfin,hbl,qI hB2 _⟩
  · have hx2:((x.1:Int)==(k:Int))=false:=by simp;omega
    gi_wp2
    refine⟨Fr.below (aP _),hb,hB1,hB2,fun y hy=>?_⟩
    rcases List.mem_append.1 hy with hy|hy
    · exact hpre y hy
    · rw[List.mem_singleton.1 hy];exact hx
 case done =>
  rintro D xs W hD rfl ⟨_,_,_,hno⟩ _;exact absurd rfl (hno ⟨k,by omega⟩ (List.mem_finRange _))
 case stop =>
  rintro D pre W hD ⟨hb,hB⟩ hDD;rw [aj,aj]at hD
  gi_wp2
  refine⟨by simp,.inl ⟨_,_,rfl,run_takeDeferred hDD,?_⟩⟩;have Ve:Bx (W.putObj D (.deferred none)) (w.heap.size+1) 207 (dA (pt k)):=(World.putObj_heap_other (by omega)).trans hB;exact ⟨_,results_cell_row rfl _ _ (w.heap.size+1) _ (dA (pt k)) (0,0) _ rfl Ve vY rfl (by rw[gV];exact oD),rfl,hb.trans (bF (by omega) hDD)⟩
def oI (s:List UInt8):List Value:=[.string ⟨s.toArray⟩]
theorem sN (s:List UInt8):(oI s).length=1:=rfl
theorem Y5:∃i z,Tryz.prog.info? 9=some i/\i.zero=some z/\i.size=1/\z.cells.size=1/\i.bytes=16:=by
 have h:(Tryz.prog.info? 9).map (fun i=>(i.size,i.bytes,i.zero.map (·.cells.size)))=some (1,16,some 1):=by kernel_rfl
 cases hi:Tryz.prog.info? 9 with
 | none=>rw[hi]at h;cases h
 | some i =>
  rw[hi]at h;simp only[Option.map_some,Option.some.injEq,Prod.mk.injEq]at h;obtain ⟨h1,h2,h3⟩:=h
  cases hz:i.zero with
  | none=>rw[hz]at h3;cases h3
  | some z=>rw[hz]at h3;exact⟨i,z,rfl,hz,h1,by simpa using h3,h2⟩
theorem QC:Tryz.prog.underlying 34=some (.slice 9):=by kernel_rfl
theorem nO {w:World} {ops:Array Oper} {rest:List Oper} {o:Oper} {a:Act} {Q:Exit->Act->World->Prop} (hgd:o.guard=none) (s y:Operand) (ho:o.op=.call { callee:=.builtin .append,args:=#[s,y],argTypes:=#[34,34] })
 (B cap n m:Nat) (flat news:List Value) (v x:Value) (hes:a.eval s=v) (DN:a.eval y=x) (hv:dI 9 1 B cap n flat v w) (hB:B<=w.heap.size) (hs:Src Tryz.prog 1 34 x m news w) (hcm:cap<=maxLen) (h63:n+m<=2000000)
 (h:∀v' w' cap',Below B w w'->(n=cap->Below w.heap.size w w')->dI 9 1 B cap' (n+m) (flat++news) v' w'->cap'<=maxLen->wpList Tryz.prog ops Q rest (a.put o.dst v') w'):wpList Tryz.prog ops Q (o :: rest) a w:=by
 obtain⟨i,z,hi,hz,hs1,hz1,hby⟩:=Y5;exact jv hgd s y _ _ ho i z 1 B cap n m flat news v x QC hi hz hs1 hz1 hes DN hv hB hs hcm (by unfold maxLen;omega) (by rw[hby];omega) h
def wP (a:Int) (n:Nat):List (List UInt8):=(List.range (n+1)).map fun j=>Lib.itoa (a ^ j)
theorem xZ (a:Int) (n:Nat):(wP a n).length=n+1:=by simp[wP]
theorem EG (a:Int) {n k:Nat} (h:k<n+1):(wP a n)[k]? = some (Lib.itoa (a ^ k)):=by simp[wP,h]
theorem Jz (a:Int) (n:Nat):wP a (n+1)=wP a n++[Lib.itoa (a ^ (n+1))]:=by
 unfold wP;rw[List.range_succ,List.map_append];rfl
theorem nV (a:Int) (n:Nat) (w:World) (h0:0<=a) (h1:a<=1000) (hn:n<=50) (hE:Env w) :
 Calls Tryz.prog 113 #[.int .i64 a,.int .i64 n] w fun e w'=>(∃v,e=.returned v/\NI 9 1 w.heap.size (n+1) ((wP a n).flatMap oI) v w')/\Below w.heap.size w w':=by
 have hs0:Kp (wP a 0=[[49]]):=⟨by simp[wP,show Lib.itoa 1=[49] by decide +kernel]⟩
 have hb0:=aG w (.cells #[.string { data:=#[49] }] 9);have B0:=Bx.mk w 9 #[.string { data:=#[49] }]
 go_enter Tryz.func113,Tryz.ntmps113
 go_wp2_with fail
 go_loopw [5,8] (fun s5 s8 wr=>∃k:Nat,s8=.int .i64 k/\k<=n/\NI 9 1 w.heap.size (k+1) ((wP a k).flatMap oI) s5 wr/\Below w.heap.size w wr) (fun _ s8 _=>n-(intOf s8).toNat)
 case atStart=>exact⟨0,rfl,Nat.zero_le _,⟨1,⟨w.heap.size,_,rfl,Nat.le_refl _,Nat.le_refl _,B0,rfl,by rw[hs0.out];rfl⟩,by decide⟩,hb0⟩
 case round =>
  clear hs0 hb0 B0;obtain ⟨k,rfl,hk,⟨cap,hR,hcm⟩,hb⟩:=hrel;by_cases hlt:k<n
  · have t0:decide ((k:Int)<(n:Int))=true:=by simp;omega
    have hEr:=hE.below hb;have hR2:=hR;obtain ⟨g,cells,rfl,hg,hkc,hB,hcs,hfl⟩:=hR2;obtain ⟨sa,esa⟩:=Ix.ex a;obtain ⟨sk,esk⟩:=Ix.ex (a ^ k);obtain ⟨sn,esn⟩:=Ix.ex (a ^ (k+1))
    have hck:∀W,Below wr.heap.size wr W->W.cell? ⟨g,k,none⟩=some (.string ⟨sk.toArray⟩):=fun W hW=>by
     refine (hW.cell (p:=⟨g,k,none⟩) hB.lt).trans (hB.cell k ?_)
     have h2:(cells.toList.take ((k+1)*1))[k]? = some (.string ⟨sk.toArray⟩):=by
      rw[hfl];have:=flat_get (f:=oI) (size:=1) sN (wP a k) k 0 _ (EG a (by omega)) (by decide);rw [Nat.mul_one,Nat.add_zero]at this;rw [this,esk.out];rfl
     rw[List.getElem?_take,if_pos (by omega)]at h2;simpa using h2
    have hF:=fun w1 (hb1:Below wr.heap.size wr w1)=>mD a w1 (by omega) (by omega) (hEr.below hb1)
    rw[esa.out]at hF;have hT:=fun w1 (hb1:Below wr.heap.size wr w1)=>xQ w1 esk esa esn ⟨by rw[Int.pow_succ]⟩ (Tb.iH h0 h1 k) (Tb.iH h0 h1 1 |> fun h=>by rw[Int.pow_one]at h;exact h) (Tb.iH h0 h1 (k+1)) (by omega) (by decide) (by omega) (hEr.below hb1)
    have hnx:Kp ((wP a k).flatMap oI++[.string ⟨sn.toArray⟩]=(wP a (k+1)).flatMap oI):=⟨by rw[Jz,List.flatMap_append,esn.out];rfl⟩
    clear hfl hB esa esk esn hE hEr hcs;have hcast:((k+1:Nat):Int)-1=(k:Int):=by omega
    go_wp2;refine au [ak (.slice (some ⟨g,0,none⟩) (k+1) cap),ak (.slice (some ⟨g,0,none⟩) (k+1) cap),ak (.slice (some ⟨g,0,none⟩) (k+1) cap),ak (.int .i64 ((k+1:Nat):Int)),ak (.int .i64 k),ak (.pointer (some ⟨g,k,none⟩)),ak (.string ⟨sk.toArray⟩),ak (.int .i64 a),ak (.string ⟨sa.toArray⟩),ak (.string ⟨sn.toArray⟩),dI 9 1 wr.heap.size 1 1 [.string ⟨sn.toArray⟩]] 11 24 (by kernel_rfl) rfl rfl (by kernel_rfl) ?_ ?_ ?_
    · simp only[aY]
      repeat' apply And.intro
      all_goals first|exact aI _|exact aJ _ _ _ _ _ _|trivial
    · simp only[Users,List.take,List.length];refine ⟨?_,?_,?_,?_,?_,?_,?_,?_,?_,?_,?_,trivial⟩;all_goals (intro vs w1 hb1 hd;simp only[aN,Act.put,List.nil_append,List.cons_append,List.setIfInBounds_toArray,List.set_cons_succ,List.set_cons_zero,Nat.reduceAdd])
      · clear hd hF hT hck;go_wp2;exact⟨Below.refl _ _,rfl⟩
      · clear hd hF hT hck;go_wp2;exact⟨Below.refl _ _,rfl⟩
      · clear hd hF hT hck;go_wp2;exact⟨Below.refl _ _,rfl⟩
      · have h2:vs 2=_:=hd 2 rfl;clear hd hF hT hck;rw[h2];go_wp2;exact⟨Below.refl _ _,rfl⟩
      · have h3:vs 3=_:=hd 3 rfl;clear hd hF hT hck;rw[h3];go_wp2;exact⟨Below.refl _ _,rfl⟩
      · have h1:vs 1=_:=hd 1 rfl;have h4:vs 4=_:=hd 4 rfl;clear hd hF hT hck;rw[h1,h4];go_wp2;first|exact⟨Below.refl _ _,rfl⟩|exact⟨Below.refl _ _,by simp[ak]⟩
      · have h5:vs 5=_:=hd 5 rfl;have c1:=hck w1 hb1;clear hd hF hT hck;rw[h5];go_wp2;exact⟨Below.refl _ _,rfl⟩
      · clear hd hF hT hck;go_wp2;exact⟨Below.refl _ _,rfl⟩
      · have h7:vs 7=_:=hd 7 rfl;have hC:=hF w1 hb1;clear hd hF hT hck;rw[h7];go_wp2_with fail;refine hC.mono ?_;clear hC;rintro _ w9 ⟨rfl,aX⟩;go_wp2;first|rfl|exact⟨aX,rfl⟩
      · have h6:vs 6=_:=hd 6 rfl;have h8:vs 8=_:=hd 8 rfl;have hC:=hT w1 hb1;clear hd hF hT hck;rw[h6,h8];go_wp2_with fail;refine hC.mono ?_;clear hC;rintro _ w9 ⟨rfl,aX⟩;go_wp2;first|rfl|exact⟨aX,rfl⟩
      · have h9:vs 9=_:=hd 9 rfl;clear hd hF hT hck;rw[h9];go_wp2;exact ⟨(Below.refl _ _).alloc (Nat.le_refl _) _,_,_,rfl,hb1.size,Nat.le_refl _,Bx.mk _ _ _,rfl,rfl⟩
    · clear hF hT hck;intro vs w1 hb1 hRR;simp only[bV,ak]at hRR;obtain ⟨e0,e1,e2,e3,e4,e5,e6,e7,e8,e9,e10,-⟩:=hRR;simp only[List.drop,List.take,List.map,aN,Act.put,List.setIfInBounds_toArray,List.set_cons_succ,List.set_cons_zero,Nat.reduceAdd];have hR1:=aJ _ _ _ _ _ _ _ _ _ hR hb1;refine nO rfl (.tmp 10) (.tmp 20) rfl w.heap.size cap (k+1) 1 ((wP a k).flatMap oI) [.string ⟨sn.toArray⟩] (vs 0) (vs 10) rfl rfl (by rw[e0];exact hR1) (Nat.le_trans hb.size hb1.size) (dI.src (fun u hu=>by simp at hu;subst hu;rfl) QC e10) hcm (by omega) ?_;intro v' w' cap' f1 f2 f3 f4;rw [hnx.out]at f3;have hbN:=(ah hb hb1).trans f1;clear f1 f2 e0 e1 e2 e3 e4 e5 e6 e7 e8 e9 e10 hR hR1 hnx;go_wp2;exact ⟨⟨k+1,by go_num,by omega,⟨cap',f3,f4⟩,hbN⟩,by simp[intOf] <;> omega⟩
  · obtain rfl:k=n:=by omega
    have hR2:=hR;obtain ⟨g,cells,rfl,-,-,-,-,-⟩:=hR2;go_wp2;go_ret;exact ⟨⟨_,rfl,cap,hR,hcm⟩,hb⟩
end Go.Proofs.YtohgjenaclfegaaGreatDoor
namespace Rq
end Rq
namespace Go.Proofs.YtohgjenaclfegaaGreatDoor
open Go.RowKit Go.Shelf
section
variable (a b:Rat) (ha:Rq.Fq a) (hb:Rq.Fq b)
include ha hb
end
def sn:Option Rat->List UInt8
 | some q=>Lib.itoa q.num
 | none=>[]
def sd:Option Rat->List UInt8
 | some q=>Lib.itoa (q.den:Int)
 | none=>[]
def FqO (o:Option Rat):Prop:=∀q,o=some q->Rq.Fq q
noncomputable def U4 (P:Rat->Rat->Prop) (f:Rat->Rat->Rat) (a b:Option Rat):Option Rat :=
 match a,b with
 | some x,some y=>@ite _ (P x y) (Classical.propDecidable _) (some (f x y)) none
 | _,_=>none
theorem O6 {P:Rat->Rat->Prop} {f:Rat->Rat->Rat} {x y:Rat} (h:P x y):U4 P f (some x) (some y)=some (f x y):=by unfold U4;exact if_pos h
theorem SS {P:Rat->Rat->Prop} {f:Rat->Rat->Rat} {x y:Rat} (h:¬P x y):U4 P f (some x) (some y)=none:=by unfold U4;exact if_neg h
theorem JU {P:Rat->Rat->Prop} {f:Rat->Rat->Rat} {a b:Option Rat} {z:Rat} (h:U4 P f a b=some z):∃x y,a=some x/\b=some y/\P x y/\z=f x y:=by
 cases a with
 | none=>cases h
 | some x =>
  cases b with
  | none=>cases h
  | some y =>
   by_cases hp:P x y
   · rw[O6 hp]at h;exact ⟨x,y,rfl,rfl,hp,by cases h;rfl⟩
   · rw[SS hp]at h;cases h
noncomputable def Yb:=U4 Uo (fun a b=>a+b)
section
variable (a b:Option Rat) (ha:FqO a) (hb:FqO b)
include ha hb
end
theorem tC {fn:Func} {t:Tmp} {g:Nat} {n d:ByteArray} (h:fn.results=#[.cell t 77]) (tmps:Array Value) (w:World) (ht:tmps.getD t undef=.pointer (some ⟨g,0,none⟩)) (hB:Bx w g 77 #[.string n,.string d]) :
 (results fn tmps).run Tryz.prog w=.ok (.agg #[.string n,.string d]) w:=by
 have h0:=hB.cell 0 rfl;have h1:=hB.cell 1 rfl;have ht':tmps[t]?.getD undef=.pointer (some ⟨g,0,none⟩):=by simpa using ht
 simp only[results,h];simp [go_sem,ht',h0,h1,loadVar]
theorem OY (f:Nat->Int) (g1 g2 g3 g4:Nat) (k n:Nat) (den:Int) (q:Rat) (sd qa qb:List UInt8) (w:World) (hf:∀i,Rq.Sz 183 (f i)) (hn:n<=100) (hk:k<=n+1) (hd:0<den) (hds:Rq.Sz 160 den) (hsd:Ix den sd) (hE:Env w) (hq:Kp (Rat.divInt (Tb.sm f k (n+1-k)) den=q)) (lq:LQ q qa qb)
 (hT:∀(i:Nat) (s:List UInt8) (W:World),k<=i->i<=n->Ix (f i) s->Below w.heap.size w W->bP 116 #[.int .i64 i,.pointer (some ⟨g1,0,none⟩),.pointer (some ⟨g2,0,none⟩),.pointer (some ⟨g3,0,none⟩),.pointer (some ⟨g4,0,none⟩)] W (.string ⟨s.toArray⟩)) :
 bP 115 #[.int .i64 k,.int .i64 n,.string ⟨sd.toArray⟩,.func (.func 116) #[] #[.pointer (some ⟨g1,0,none⟩),.pointer (some ⟨g2,0,none⟩),.pointer (some ⟨g3,0,none⟩),.pointer (some ⟨g4,0,none⟩)]] w (.agg #[.string ⟨qa.toArray⟩,.string ⟨qb.toArray⟩]):=by
 have hb0:=aG w (.cells #[.string ⟨#[]⟩,.string ⟨#[]⟩] 77);have BR:=Bx.mk w 77 #[.string ⟨#[]⟩,.string ⟨#[]⟩];have z0:Ix 0 [48]:=⟨qC⟩
 go_enter Tryz.func115,Tryz.ntmps115
 go_wp2_with fail
 go_loopw [9,10] (fun s9 s10 wr=>∃(i:Nat) (s:List UInt8),s10=.int .i64 i/\s9=.string ⟨s.toArray⟩/\k<=i/\i<=n+1/\Ix (Tb.sm f k (i-k)) s/\Bx wr w.heap.size 77 #[.string ⟨#[]⟩,.string ⟨#[]⟩]/\Below w.heap.size w wr) (fun _ s10 _=>n+1-(intOf s10).toNat)
 case atStart=>exact⟨k,[48],rfl,rfl,Nat.le_refl _,hk,by rw[Nat.sub_self];exact z0,BR,hb0⟩
 case round =>
  clear hb0 BR z0;obtain ⟨i,s,rfl,rfl,hki,hin,hs,hB,hb⟩:=hrel;have hEr:=hE.below hb;by_cases hlt:i<=n
  · have t0:decide ((i:Int)<=(n:Int))=true:=by simp;omega
    obtain⟨st,est⟩:=Ix.ex (f i);obtain ⟨s2,es2⟩:=Ix.ex (Tb.sm f k (i+1-k));have hC:=hT i st wr hki hlt est hb;have hP:=fun w1 (hb1:Below wr.heap.size wr w1)=>JD w1 hs est es2 ⟨by rw[show i+1-k=(i-k)+1 by omega];show _=Tb.sm f k (i-k)+f (k+(i-k));rw[show k+(i-k)=i by omega]⟩ (Tb.Jl k hf (by omega)) (hf i) (Tb.Jl k hf (by omega)) (by decide) (by decide) (by decide) (hEr.below hb1)
    clear hT hs est hEr hE;go_wp2_with fail;refine hC.mono ?_;rintro _ w1 ⟨rfl,hb1⟩;have hP1:=hP w1 hb1;clear hC hP;go_wp2_with fail;refine hP1.mono ?_;rintro _ w2 ⟨rfl,hb2⟩;clear hP1;replace hB:=(hB.call hb1).call hb2;replace hb:=ah (ah hb hb1) hb2;clear hb1 hb2;go_wp2;exact ⟨⟨i+1,s2,by go_num,rfl,by omega,by omega,es2,hB,hb⟩,by simp[intOf] <;> omega⟩
  · obtain rfl:i=n+1:=by omega
    have hM:=FP (Tb.sm f k (n+1-k)) den wr ((Tb.Jl (j:=183) k hf (m:=n+1-k) (by omega)).fits (by decide)) (hds.fits (by decide)) (by omega) hEr;rw [hs.out,hsd.out,hq.out,lq.eq]at hM;have t0:decide (((n+1:Nat):Int)<=(n:Int))=false:=by simp;omega
    clear hT hs hE hEr hq lq;go_wp2_with fail;refine hM.mono ?_;rintro _ w1 ⟨rfl,hb1⟩;clear hM;have B2:=(hB.call hb1).new (.cells #[.string ⟨qa.toArray⟩,.string ⟨qb.toArray⟩] 77);have B3:=Bx.mk w1 77 #[.string ⟨qa.toArray⟩,.string ⟨qb.toArray⟩];have hb2:=bNew (ah hb hb1) (.cells #[.string ⟨qa.toArray⟩,.string ⟨qb.toArray⟩] 77);have c0:=B2.cell 0 rfl;have c1:=B2.cell 1 rfl;have f0:=B2.frozen 0;have f1:=B2.frozen 1;have d0:=B3.cell 0 rfl;have d1:=B3.cell 1 rfl;have B4:=(B2.set 0 (.string ⟨qa.toArray⟩)).set 1 (.string ⟨qb.toArray⟩);have hb4:=aQ (aQ hb2 (p:=⟨w.heap.size,0,none⟩) (Nat.le_refl _) (.string ⟨qa.toArray⟩)) (p:=⟨w.heap.size,1,none⟩) (Nat.le_refl _) (.string ⟨qb.toArray⟩);clear hB hb hb1;go_wp2;exact bodyPost_ret (tC rfl _ _ rfl B4) rfl ⟨rfl,hb4⟩
structure Pw (a:Int) (n g:Nat) (W:World):Prop where
 out:∃A cap,Bx W g 34 #[.slice A (n+1) cap]/\At 1 oI W W.heap.size A (wP a n)/\n+1<=cap
theorem Pw.call {a:Int} {n g:Nat} {W W':World} (h:Pw a n g W) (hb:Below W.heap.size W W'):Pw a n g W':=by
 obtain⟨A,cap,h1,h2,h3⟩:=h.out;exact ⟨A,cap,h1.call hb,(h2.below hb).more hb.size,h3⟩
structure Tl (n:Nat) (c e:Int) (gn ga gr gy go:Nat) (W:World):Prop where
 hn:Bx W gn 3 #[.int .i64 n]
 hr:Bx W gr 207 (dA (pt n))
 hy:Pw c n gy W
 ho:Pw (e-c) n go W
 ha:Pw e n ga W
theorem Tl.call {n:Nat} {c e:Int} {gn ga gr gy go:Nat} {W W':World} (h:Tl n c e gn ga gr gy go W) (hb:Below W.heap.size W W'):Tl n c e gn ga gr gy go W' :=
 ⟨h.hn.call hb,h.hr.call hb,h.hy.call hb,h.ho.call hb,h.ha.call hb⟩
theorem Pw.cells {a:Int} {n g:Nat} {W:World} (h:Pw a n g W):∃b off cap,n+1<=cap/\(∀d os,(Sort.grow (redrawn W d) os).cell? ⟨g,0,none⟩=some (.slice (some ⟨b,off,none⟩) (n+1) cap)) /\
 ∀(j:Nat) (s:List UInt8),j<=n->Ix (a ^ j) s->∀d os,(Sort.grow (redrawn W d) os).cell? ⟨b,off+j,none⟩=some (.string ⟨s.toArray⟩):=by
 obtain⟨A,cap,h1,h2,h3⟩:=h.out;obtain ⟨b,off,rfl,hb,hc⟩:=h2 (by rw[xZ];omega);refine ⟨b,off,cap,h3,fun d os=>(h1.again d os).cell 0 rfl,fun j s hj hs d os=>?_⟩;have h4:=hc j _ (EG a (by omega)) 0 _ rfl;rw [Nat.mul_one,Nat.add_zero,hs.out]at h4;exact ((below_regrown W d os).cell (p:=⟨b,off+j,none⟩) hb).trans h4
theorem I9 (n i:Nat) (c e:Int) (gn ga gr gy go:Nat) (s:List UInt8) (w:World) (hT:Tl n c e gn ga gr gy go w) (hn:n<=50) (hi:i<=n) (h0:0<=c) (h1:c<=e) (h2:e<=1000) (hs:Ix (Tb.tm n c (e-c) i) s) (hE:Env w) :
 bP 116 #[.int .i64 i,.pointer (some ⟨gr,0,none⟩),.pointer (some ⟨gy,0,none⟩),.pointer (some ⟨go,0,none⟩),.pointer (some ⟨gn,0,none⟩)] w (.string ⟨s.toArray⟩):=by
 obtain⟨by_,oy,cy,hcy,yb,yc⟩:=hT.hy.cells;obtain ⟨bo,oo,co,hco,ob,oc⟩:=hT.ho.cells;obtain ⟨s1,e1⟩:=Ix.ex (c ^ i);obtain ⟨s2,e2⟩:=Ix.ex ((e-c) ^ (n-i));obtain ⟨s3,e3⟩:=Ix.ex (c ^ i*(e-c) ^ (n-i));have e4:=yh n i;have gN:=fun d os=>(hT.hn.again d os).cell 0 rfl
 have gR:=fun d os=>(hT.hr.again d os).cell i (jK (pt n) (by omega))
 have y1:=yc i s1 hi e1;have o1:=oc (n-i) s2 (by omega) e2;have k1:=fun d os=>xQ (Sort.grow (redrawn w d) os) e1 e2 e3 ⟨rfl⟩ (Tb.iH h0 (by omega) i) (Tb.iH (c:=e-c) (by omega) (by omega) (n-i)) ((Tb.iH h0 (by omega) i).mul (Tb.iH (c:=e-c) (by omega) (by omega) (n-i))) (by omega) (by omega) (by omega) (hE.below (below_regrown w d os))
 have k2:=fun d os=>xQ (Sort.grow (redrawn w d) os) e4 e3 hs ⟨rfl⟩ (Tb.Bd (by omega) i) ((Tb.iH h0 (by omega) i).mul (Tb.iH (c:=e-c) (by omega) (by omega) (n-i))) (Tb.QB hn h0 (by omega) (d:=e-c) (by omega) (by omega) i) (by decide) (by omega) (by decide) (hE.below (below_regrown w d os))
 obtain⟨m,hm⟩:∃m,n-i=m:=⟨_,rfl⟩
 have hni:(n:Int)-(i:Int)=(m:Int):=by omega
 rw[hm]at o1;have hm2:m<=n:=by omega
 generalize pt n i=sp at *;clear yc oc hT e1 e2 e3 e4 hs hE hm
 go_enter Tryz.func116,Tryz.ntmps116
 go_wp2;refine wp_region_quiet_below (by kernel_rfl) (by kernel_rfl) ?_
 repeat (go_big_quiet_step (first
  | (go_at_call 117;with_reducible exact Calls.regrown_of (k1 _ _))
  | (go_at_call 117;with_reducible exact Calls.regrown_of (k2 _ _))))
 refine wpQuiet_nil ?_;rintro _ ⟨z,rfl⟩;have hbz:=below_regrown w z.d z.os;clear k1 k2 yb ob y1 o1 gN gR;generalize Sort.grow (redrawn w z.d) z.os=W2 at *;go_wp2;go_ret;exact ⟨rfl,hbz⟩
theorem I_ (n k:Nat) (c e:Int) (gn ga gr gy go:Nat) (qa qb:List UInt8) (w:World) (hT:Tl n c e gn ga gr gy go w) (hn:n<=50) (hk:k<=n+1) (h0:0<=c) (h1:c<=e) (h2:e<=1000) (h3:1<=e) (lq:LQ (Tb.Pq n k c (e-c)) qa qb) (hE:Env w) :
 bP 114 #[.int .i64 k,.pointer (some ⟨gn,0,none⟩),.pointer (some ⟨ga,0,none⟩),.pointer (some ⟨gr,0,none⟩),.pointer (some ⟨gy,0,none⟩),.pointer (some ⟨go,0,none⟩)] w (.agg #[.string ⟨qa.toArray⟩,.string ⟨qb.toArray⟩]):=by
 have Ub:=aG w (.cells #[.string ⟨#[]⟩,.string ⟨#[]⟩] 77);have BR:=Bx.mk w 77 #[.string ⟨#[]⟩,.string ⟨#[]⟩];have hTA:=hT.call Ub;have hEA:=hE.below Ub;obtain ⟨sd,esd⟩:=Ix.ex (e ^ n)
 have hq:Kp (Rat.divInt (Tb.sm (Tb.tm n c (e-c)) k (n+1-k)) (e ^ n)=Tb.Pq n k c (e-c)):=⟨by
  show _=Rat.divInt (Tb.S n k c (e-c)) ((c+(e-c)) ^ n)
  rw[show c+(e-c)=e by omega];rfl⟩
 have V9:=fun W (hW:Below (w.alloc (.cells #[.string ⟨#[]⟩,.string ⟨#[]⟩] 77)).heap.size (w.alloc (.cells #[.string ⟨#[]⟩,.string ⟨#[]⟩] 77)) W) =>
  OY (Tb.tm n c (e-c)) gr gy go gn k n (e ^ n) _ sd qa qb W (fun i=>Tb.QB hn h0 (by omega) (by omega) (by omega) i) (by omega) hk (Int.pow_pos (by omega)) ((Tb.iH (c:=e) (by omega) h2 n).mono (by omega)) esd (hEA.below hW) hq lq
   (fun i s X hki hin hs hX=>I9 n i c e gn ga gr gy go s X ((hTA.call hW).call hX) hn hin h0 h1 h2 hs ((hEA.below hW).below hX))
 obtain⟨ba,oa,ca,hca,ab,ac⟩:=hTA.ha.cells;have a1:=ac n sd (Nat.le_refl _) esd;have gN:=fun d os=>(hTA.hn.again d os).cell 0 rfl
 generalize hW0:w.alloc (.cells #[.string ⟨#[]⟩,.string ⟨#[]⟩] 77)=W0 at *;have kr:=fun d os=>V9 (Sort.grow (redrawn W0 d) os) (below_regrown W0 d os)
 clear V9 ac hTA hT hE hEA esd hq lq
 go_enter Tryz.func114,Tryz.ntmps114
 go_wp2
 try rw[hW0]
 clear hW0;refine bQ 8 (by kernel_rfl) (by kernel_rfl) ?_;simp only[List.take,List.drop]
 repeat (go_big_quiet_step (first|(go_at_call 115;with_reducible exact Calls.regrown_of (kr _ _))))
 refine wpQuiet_nil ?_;rintro _ ⟨z,rfl⟩;have hbz:=fM Ub z.d z.os;replace BR:=BR.again z.d z.os;clear kr ab a1 gN Ub;generalize Sort.grow (redrawn W0 z.d) z.os=W2 at *;have c0:=BR.cell 0 rfl;have c1:=BR.cell 1 rfl;have f0:=BR.frozen 0;have f1:=BR.frozen 1;have B4:=(BR.set 0 (.string ⟨qa.toArray⟩)).set 1 (.string ⟨qb.toArray⟩);have hb4:=aQ (aQ hbz (p:=⟨w.heap.size,0,none⟩) (Nat.le_refl _) (.string ⟨qa.toArray⟩)) (p:=⟨w.heap.size,1,none⟩) (Nat.le_refl _) (.string ⟨qb.toArray⟩);go_wp2;exact bodyPost_ret (tC rfl _ _ rfl B4) rfl ⟨rfl,hb4⟩
def Uy (c e:Int):Bool:=Tp.within e 1 1000&&Tp.within c 0 e
theorem yO {c e:Int}:Uy c e=true↔1<=e/\e<=1000/\0<=c/\c<=e:=by
 unfold Uy
 rw[Bool.and_eq_true,Tp.within_iff,Tp.within_iff];omega
theorem yB (c e:Int) (w:World) :
 bP 111 #[.agg #[.int .i64 c,.int .i64 e]] w (.bool (Uy c e)):=by
 have hI1:=fun w0=>bG (pq e 1 1000 w0)
 have hI2:=fun w0=>bG (pq c 0 e w0)
 have hd:Kp (Uy c e=(Tp.within e 1 1000&&Tp.within c 0 e)):=⟨rfl⟩
 have B:=Bx.mk w 39 #[.int .i64 c,.int .i64 e];have hb:=bNew (aP w) (.cells #[.int .i64 c,.int .i64 e] 39);have c0:=B.cell 0 rfl;have c1:=B.cell 1 rfl;generalize Tp.within c 0 e=r2 at *
 cases h1:Tp.within e 1 1000 with
 | true =>
  rw[h1]at hI1 hd;clear h1
  go_enter Tryz.func111,Tryz.ntmps111
  go_wp2_with fail;refine (hI1 _).mono ?_;rintro e w1 ⟨rfl,hb1⟩;have d0:=(B.call hb1).cell 0 rfl;have d1:=(B.call hb1).cell 1 rfl;go_wp2_with fail;refine (hI2 _).mono ?_;rintro e w2 ⟨rfl,hb2⟩;go_wp2;go_ret;exact ⟨fD (by rw[hd.out];simp),ah (ah hb hb1) hb2⟩
 | false =>
  rw[h1]at hI1 hd;clear h1
  go_enter Tryz.func111,Tryz.ntmps111
  go_wp2_with fail;refine (hI1 _).mono ?_;rintro e w1 ⟨rfl,hb1⟩;go_wp2;go_ret;exact ⟨fD (by rw[hd.out];simp),ah hb hb1⟩
def FB (i:Nat) (v:Value) (w w':World):Prop:=17<=i/\i<=20->v=.pointer (some ⟨w.heap.size,0,none⟩)/\w.heap.size<w'.heap.size
theorem FB.no {i:Nat} {v:Value} {w w':World} (h:i<17):FB i v w w':=fun e=>by omega
def KA (w w':World):Prop:=Below w.heap.size w w'
theorem Uw:RA.Cls KA:=⟨fun w=>Below.refl _ _,fun h k=>ah h k,fun w n=>⟨rfl,rfl,rfl,Nat.le_refl _,fun _ _=>rfl⟩⟩
def YW (a:Int) (n:Nat):RA.Rl:=fun _ v W=>NI 9 1 0 (n+1) ((wP a n).flatMap oI) v W
theorem OI (a:Int) (n:Nat):RA.b_ KA (YW a n):=fun x v w w' h hb=>F6 _ _ _ _ _ v w w' h hb
theorem dI.weak {e:TypeId} {size B cap n:Nat} {flat:List Value} {v:Value} {w:World} (h:dI e size B cap n flat v w):dI e size 0 cap n flat v w:=by
 obtain⟨g,cells,h1,h2,h3⟩:=h;exact ⟨g,cells,h1,Nat.zero_le _,h3⟩
theorem kU {W:World} {a b:Nat} {t t':TypeId} {cs cs':Array Value} (h:Bx W a t cs) (h':Bx W b t' cs') (hne:t≠t'):a≠b:=by
 rintro rfl;have e:=h.symm.trans h'
 injection e with e
 injection e with e1 e2
 exact hne e2
theorem JA {W:World} {a:Int} {n gb cap g:Nat} {cells:Array Value} (hB:Bx W gb 34 #[.slice (some ⟨g,0,none⟩) (n+1) cap]) (hc:n+1<=cap) (hx:Bx W g 9 cells) (hs:cells.size=cap*1) (hf:cells.toList.take ((n+1)*1)=(wP a n).flatMap oI):Pw a n gb W:=by
 have hR:dI 9 1 0 cap (wP a n).length ((wP a n).flatMap oI) (.slice (some ⟨g,0,none⟩) (n+1) cap) W:=by
  rw[xZ];exact⟨g,cells,rfl,Nat.zero_le _,hc,hx,hs,hf⟩
 obtain⟨A,e,h1,h2⟩:=hR.at sN;rw [xZ]at e h2
 injection e with e1
 subst e1;exact ⟨_,cap,hB,h1,hc⟩
def Yn (B:Nat) (t:TypeId) (cs:Array Value):RA.Rl:=fun _ v W=>∃g,v=.pointer (some ⟨g,0,none⟩)/\B<=g/\Bx W g t cs
theorem OJ (B:Nat) (t:TypeId) (cs:Array Value):RA.b_ KA (Yn B t cs):=fun x v w w' ⟨g,h1,h2,h3⟩ hb=>⟨g,h1,h2,h3.call hb⟩
theorem xJ {o:Oper} {a:Act} {w:World} {K:Act->World->Prop} {Q:Exit->Act->World->Prop} {x y:Operand} (ho:o.op=.store 207 x y) {g:Nat} (hx:a.eval x=.pointer (some ⟨g,0,none⟩)) {t:TypeId} {old:Array Value} {f:Nat->List UInt8}
 (hy:a.eval y=.agg (dA f)) (hB:Bx w g t old) (hs:old.size=101) (h:K (a.put o.dst undef) (w.setRow g (dA f))):o.wp Tryz.prog a w K Q :=
 wp_store_row 207 x y ho g (dA f) hx hy t old hB (by rw[gV];exact oD) (by rw[gV];exact hs) (zD f) h
theorem CQ (n:Nat) (c e:Int) (w:World) (hn:n<=50) (h0:0<=c) (h1:c<=e) (h2:e<=1000) (h3:1<=e) (hE:Env w) :
 Calls Tryz.prog 69 #[.int .i64 n,.agg #[.int .i64 c,.int .i64 e]] w fun e' w'=>(∃gn ga gr gy go,e'=.returned (.tuple #[.func (.func 114) #[] #[.pointer (some ⟨gn,0,none⟩),.pointer (some ⟨ga,0,none⟩),.pointer (some ⟨gr,0,none⟩),.pointer (some ⟨gy,0,none⟩),.pointer (some ⟨go,0,none⟩)],.int .i64 0])/\Tl n c e gn ga gr gy go w')/\Below w.heap.size w w':=by
 have B0:=(Bx.mk w 3 #[.int .i64 n]).new (.cells #[.int .i64 c,.int .i64 e] 39);have B1:=Bx.mk (w.alloc (.cells #[.int .i64 n] 3)) 39 #[.int .i64 c,.int .i64 e];rw [aj]at B1;have hb:=bNew (aG w (.cells #[.int .i64 n] 3)) (.cells #[.int .i64 c,.int .i64 e] 39);have hC:=fun w0=>yB c e w0
 rw[yO.2 ⟨h3,h2,h0,h1⟩]at hC;have hI:=fun w0=>pq n 0 50 w0
 rw[Tp.within_iff.2 ⟨by omega,by omega⟩]at hI;have c0:=B0.cell 0 rfl;have c1:=B1.cell 0 rfl;have c2:=B1.cell 1 rfl
 go_enter Tryz.func69,Tryz.ntmps69
 go_upto_region 3 with (first|(go_at_call 111;refine (hC _).mono ?_;rintro e w1 ⟨rfl,hb1⟩;clear hC;have d0:=(B0.call hb1).cell 0 rfl)|(go_at_call 70;refine (hI _).mono ?_;rintro e w2 ⟨rfl,rfl⟩;clear hI))
 replace hb:=ah hb hb1;replace B0:=B0.call hb1;replace B1:=B1.call hb1;have hE1:=hE.below hb;clear c0 c1 c2 d0 hb1 hE
 refine RA.au (F:=FB) Uw [] [RA.ak (.int .i64 n),RA.ak (.agg (dA (pt n))),RA.ak (.pointer (some ⟨w.heap.size+1,0,none⟩)),RA.ak (.int .i64 c),RA.ak (.int .i64 n),YW c n,RA.ak (.pointer (some ⟨w.heap.size+1,1,none⟩)),RA.ak (.int .i64 e),RA.ak (.pointer (some ⟨w.heap.size+1,0,none⟩)),RA.ak (.int .i64 c),RA.ak (.int .i64 (e-c)),RA.ak (.int .i64 n),YW (e-c) n,RA.ak (.pointer (some ⟨w.heap.size+1,1,none⟩)),RA.ak (.int .i64 e),RA.ak (.int .i64 n),YW e n,
  Yn w1.heap.size 207 Tryz.zeroCells207,Yn w1.heap.size 34 #[.slice none 0 0],Yn w1.heap.size 34 #[.slice none 0 0],Yn w1.heap.size 34 #[.slice none 0 0]] 21 36 (fun i=>decide (17<=i)&&decide (i<=20)) (fun _ _ h=>h.size) (fun p hp v w w' h=>h (by simpa using hp)) rfl rfl rfl (by kernel_rfl) (by kernel_rfl) ?_ ?_ ?_
 · simp only[RA.aY]
   repeat' apply And.intro
   all_goals first|exact RA.aI _|exact OI _ _|exact OJ _ _ _|trivial
 · simp only[RA.aT,List.take,List.length];refine ⟨?_,?_,?_,?_,?_,?_,?_,?_,?_,?_,?_,?_,?_,?_,?_,?_,?_,?_,?_,?_,?_,trivial⟩;all_goals (intro vs w2 hb2 hd;simp only[RA.aN,Act.put,List.nil_append,List.cons_append,List.setIfInBounds_toArray,List.set_cons_succ,List.set_cons_zero,Nat.reduceAdd])
   · have q0:=(B0.call hb2).cell 0 rfl;clear hd;go_wp2;exact⟨Below.refl _ _,rfl,FB.no (by decide)⟩
   · have e0:vs 0=_:=hd 0 rfl;have hC:=Dp n w2 (by omega) (hE1.below hb2);clear hd;rw[e0];go_wp2_with fail;refine hC.mono ?_;clear hC;rintro _ w9 ⟨rfl,aX⟩;go_wp2;exact ⟨aX,rfl,FB.no (by decide)⟩
   · clear hd;go_wp2;exact⟨Below.refl _ _,rfl,FB.no (by decide)⟩
   · have e2:vs 2=_:=hd 2 rfl;have q0:=(B1.call hb2).cell 0 rfl;clear hd;rw[e2];go_wp2;exact⟨Below.refl _ _,rfl,FB.no (by decide)⟩
   · have q0:=(B0.call hb2).cell 0 rfl;clear hd;go_wp2;exact⟨Below.refl _ _,rfl,FB.no (by decide)⟩
   · have e3:vs 3=_:=hd 3 rfl;have e4:vs 4=_:=hd 4 rfl;have hC:=nV (c) n w2 (by omega) (by omega) hn (hE1.below hb2);clear hd;rw[e3,e4];go_wp2_with fail;refine hC.mono ?_;clear hC;rintro _ w9 ⟨⟨v9,rfl,cap,Ce,vJ⟩,aX⟩;have V_:=Ce;obtain ⟨x9,x8,rfl,-,-,-,-,-⟩:=V_;go_wp2;exact ⟨aX,⟨cap,Ce.weak,vJ⟩,FB.no (by decide)⟩
   · clear hd;go_wp2;exact⟨Below.refl _ _,rfl,FB.no (by decide)⟩
   · have e6:vs 6=_:=hd 6 rfl;have q0:=(B1.call hb2).cell 1 rfl;clear hd;rw[e6];go_wp2;exact⟨Below.refl _ _,rfl,FB.no (by decide)⟩
   · clear hd;go_wp2;exact⟨Below.refl _ _,rfl,FB.no (by decide)⟩
   · have e8:vs 8=_:=hd 8 rfl;have q0:=(B1.call hb2).cell 0 rfl;clear hd;rw[e8];go_wp2;exact⟨Below.refl _ _,rfl,FB.no (by decide)⟩
   · have e7:vs 7=_:=hd 7 rfl;have e9:vs 9=_:=hd 9 rfl;clear hd;rw[e7,e9];go_wp2;exact⟨Below.refl _ _,rfl,FB.no (by decide)⟩
   · have q0:=(B0.call hb2).cell 0 rfl;clear hd;go_wp2;exact⟨Below.refl _ _,rfl,FB.no (by decide)⟩
   · have e10:vs 10=_:=hd 10 rfl;have e11:vs 11=_:=hd 11 rfl;have hC:=nV (e-c) n w2 (by omega) (by omega) hn (hE1.below hb2);clear hd;rw[e10,e11];go_wp2_with fail;refine hC.mono ?_;clear hC;rintro _ w9 ⟨⟨v9,rfl,cap,Ce,vJ⟩,aX⟩;have V_:=Ce;obtain ⟨x9,x8,rfl,-,-,-,-,-⟩:=V_;go_wp2;exact ⟨aX,⟨cap,Ce.weak,vJ⟩,FB.no (by decide)⟩
   · clear hd;go_wp2;exact⟨Below.refl _ _,rfl,FB.no (by decide)⟩
   · have e13:vs 13=_:=hd 13 rfl;have q0:=(B1.call hb2).cell 1 rfl;clear hd;rw[e13];go_wp2;exact⟨Below.refl _ _,rfl,FB.no (by decide)⟩
   · have q0:=(B0.call hb2).cell 0 rfl;clear hd;go_wp2;exact⟨Below.refl _ _,rfl,FB.no (by decide)⟩
   · have e14:vs 14=_:=hd 14 rfl;have e15:vs 15=_:=hd 15 rfl;have hC:=nV (e) n w2 (by omega) (by omega) hn (hE1.below hb2);clear hd;rw[e14,e15];go_wp2_with fail;refine hC.mono ?_;clear hC;rintro _ w9 ⟨⟨v9,rfl,cap,Ce,vJ⟩,aX⟩;have V_:=Ce;obtain ⟨x9,x8,rfl,-,-,-,-,-⟩:=V_;go_wp2;exact ⟨aX,⟨cap,Ce.weak,vJ⟩,FB.no (by decide)⟩
   · clear hd;go_wp2;exact⟨aG _ _,⟨_,rfl,Below.size hb2,Bx.mk _ _ _⟩,fun _=>⟨rfl,by rw[aj];omega⟩⟩
   · clear hd;go_wp2;exact⟨aG _ _,⟨_,rfl,Below.size hb2,Bx.mk _ _ _⟩,fun _=>⟨rfl,by rw[aj];omega⟩⟩
   · clear hd;go_wp2;exact⟨aG _ _,⟨_,rfl,Below.size hb2,Bx.mk _ _ _⟩,fun _=>⟨rfl,by rw[aj];omega⟩⟩
   · clear hd;go_wp2;exact⟨aG _ _,⟨_,rfl,Below.size hb2,Bx.mk _ _ _⟩,fun _=>⟨rfl,by rw[aj];omega⟩⟩
 · intro vs W1 hba hR hne;simp only[RA.bV,RA.ak]at hR;obtain ⟨e0,e1,e2,e3,e4,⟨k5,⟨x5,y5,e5,-,l5,X5,z5,f5⟩,-⟩,e6,e7,e8,e9,e10,e11,⟨k12,⟨x12,YE,e12,-,l12,X12,z12,f12⟩,-⟩,e13,e14,e15,⟨k16,⟨x16,YD,e16,-,l16,X16,z16,f16⟩,-⟩,⟨g17,e17,b17,Vr⟩,⟨g18,e18,b18,B18⟩,⟨g19,e19,b19,B19⟩,⟨g20,e20,b20,B20⟩,-⟩:=hR
   have ne:∀i j x y,17<=i->i<=20->17<=j->j<=20->i≠j->vs i=.pointer (some ⟨x,0,none⟩)->vs j=.pointer (some ⟨y,0,none⟩)->x≠y:=fun i j x y h1 h2 h3 h4 h5 h6 h7 h8 =>
    hne i j (by omega) (by omega) (by simp[h1,h2]) (by simp[h3,h4]) h5 (by rw[h6,h7,h8])
   have n1:=ne 17 18 _ _ (by decide) (by decide) (by decide) (by decide) (by decide) e17 e18;have n2:=ne 17 19 _ _ (by decide) (by decide) (by decide) (by decide) (by decide) e17 e19;have n3:=ne 17 20 _ _ (by decide) (by decide) (by decide) (by decide) (by decide) e17 e20;have n4:=ne 18 19 _ _ (by decide) (by decide) (by decide) (by decide) (by decide) e18 e19;have n5:=ne 18 20 _ _ (by decide) (by decide) (by decide) (by decide) (by decide) e18 e20;have n6:=ne 19 20 _ _ (by decide) (by decide) (by decide) (by decide) (by decide) e19 e20;replace hba:Below w1.heap.size w1 W1:=hba;simp only[List.drop,List.take,List.map,RA.aN,Act.put,List.setIfInBounds_toArray,List.set_cons_succ,List.set_cons_zero,Nat.reduceAdd];rw [e0,e1,e2,e3,e4,e5,e6,e7,e8,e9,e10,e11,e12,e13,e14,e15,e16,e17,e18,e19,e20];have hzz:=rG;generalize Tryz.zeroCells207=zc at *;clear e0 e1 e2 e3 e4 e5 e6 e7 e8 e9 e10 e11 e12 e13 e14 e15 e16 e17 e18 e19 e20 ne hne;refine wpList_plain rfl fun _ hK=>xJ rfl rfl rfl Vr hzz (hK _ _ ?_)
   have hbR:=hba.trans ((below_setRow W1 (dA (pt n)) b17).mono (Nat.le_refl _));have R17:=qI Vr (dA (pt n));have SX:Bx (W1.setRow g17 (dA (pt n))) g18 34 #[.slice none 0 0]:=(setRow_other _ (fun h=>n1 h.symm)).trans B18;have o19:Bx (W1.setRow g17 (dA (pt n))) g19 34 #[.slice none 0 0]:=(setRow_other _ (fun h=>n2 h.symm)).trans B19;have o20:Bx (W1.setRow g17 (dA (pt n))) g20 34 #[.slice none 0 0]:=(setRow_other _ (fun h=>n3 h.symm)).trans B20;have m5:Bx (W1.setRow g17 (dA (pt n))) x5 9 y5:=(setRow_other _ (kU X5 Vr (by decide))).trans X5;have m12:Bx (W1.setRow g17 (dA (pt n))) x12 9 YE:=(setRow_other _ (kU X12 Vr (by decide))).trans X12;have m16:Bx (W1.setRow g17 (dA (pt n))) x16 9 YD:=(setRow_other _ (kU X16 Vr (by decide))).trans X16;clear Vr B18 B19 B20 X5 X12 X16;generalize W1.setRow g17 (dA (pt n))=W2 at *;have dz0:=SX.cell 0 rfl;have fz0:=SX.frozen 0;have RU:Bx (W2.setCell ⟨g18,0,none⟩ (.slice (some ⟨x5,0,none⟩) (n+1) k5)) g17 207 (dA (pt n)):=R17.far (p:=⟨g18,0,none⟩) (n1) (.slice (some ⟨x5,0,none⟩) (n+1) k5);have QM:Bx (W2.setCell ⟨g18,0,none⟩ (.slice (some ⟨x5,0,none⟩) (n+1) k5)) g18 34 #[.slice (some ⟨x5,0,none⟩) (n+1) k5]:=by simpa using SX.set 0 (.slice (some ⟨x5,0,none⟩) (n+1) k5)
   have tX:Bx (W2.setCell ⟨g18,0,none⟩ (.slice (some ⟨x5,0,none⟩) (n+1) k5)) g19 34 #[.slice none 0 0]:=o19.far (p:=⟨g18,0,none⟩) (fun h=>n4 h.symm) (.slice (some ⟨x5,0,none⟩) (n+1) k5);have QH:Bx (W2.setCell ⟨g18,0,none⟩ (.slice (some ⟨x5,0,none⟩) (n+1) k5)) g20 34 #[.slice none 0 0]:=o20.far (p:=⟨g18,0,none⟩) (fun h=>n5 h.symm) (.slice (some ⟨x5,0,none⟩) (n+1) k5);have Ti:Bx (W2.setCell ⟨g18,0,none⟩ (.slice (some ⟨x5,0,none⟩) (n+1) k5)) x5 9 y5:=m5.far (p:=⟨g18,0,none⟩) (kU m5 SX (by decide)) (.slice (some ⟨x5,0,none⟩) (n+1) k5);have Ku:Bx (W2.setCell ⟨g18,0,none⟩ (.slice (some ⟨x5,0,none⟩) (n+1) k5)) x12 9 YE:=m12.far (p:=⟨g18,0,none⟩) (kU m12 SX (by decide)) (.slice (some ⟨x5,0,none⟩) (n+1) k5);have Kr:Bx (W2.setCell ⟨g18,0,none⟩ (.slice (some ⟨x5,0,none⟩) (n+1) k5)) x16 9 YD:=m16.far (p:=⟨g18,0,none⟩) (kU m16 SX (by decide)) (.slice (some ⟨x5,0,none⟩) (n+1) k5);have Xl:Below w1.heap.size w1 (W2.setCell ⟨g18,0,none⟩ (.slice (some ⟨x5,0,none⟩) (n+1) k5)):=hbR.setCell (p:=⟨g18,0,none⟩) b18 (.slice (some ⟨x5,0,none⟩) (n+1) k5);have dz1:=tX.cell 0 rfl;have fz1:=tX.frozen 0;have RQ:Bx ((W2.setCell ⟨g18,0,none⟩ (.slice (some ⟨x5,0,none⟩) (n+1) k5)).setCell ⟨g19,0,none⟩ (.slice (some ⟨x12,0,none⟩) (n+1) k12)) g17 207 (dA (pt n)):=RU.far (p:=⟨g19,0,none⟩) (n2) (.slice (some ⟨x12,0,none⟩) (n+1) k12);have QL:Bx ((W2.setCell ⟨g18,0,none⟩ (.slice (some ⟨x5,0,none⟩) (n+1) k5)).setCell ⟨g19,0,none⟩ (.slice (some ⟨x12,0,none⟩) (n+1) k12)) g18 34 #[.slice (some ⟨x5,0,none⟩) (n+1) k5]:=QM.far (p:=⟨g19,0,none⟩) (n4) (.slice (some ⟨x12,0,none⟩) (n+1) k12);have QJ:Bx ((W2.setCell ⟨g18,0,none⟩ (.slice (some ⟨x5,0,none⟩) (n+1) k5)).setCell ⟨g19,0,none⟩ (.slice (some ⟨x12,0,none⟩) (n+1) k12)) g19 34 #[.slice (some ⟨x12,0,none⟩) (n+1) k12]:=by simpa using tX.set 0 (.slice (some ⟨x12,0,none⟩) (n+1) k12)
   have tV:Bx ((W2.setCell ⟨g18,0,none⟩ (.slice (some ⟨x5,0,none⟩) (n+1) k5)).setCell ⟨g19,0,none⟩ (.slice (some ⟨x12,0,none⟩) (n+1) k12)) g20 34 #[.slice none 0 0]:=QH.far (p:=⟨g19,0,none⟩) (fun h=>n6 h.symm) (.slice (some ⟨x12,0,none⟩) (n+1) k12);have Td:Bx ((W2.setCell ⟨g18,0,none⟩ (.slice (some ⟨x5,0,none⟩) (n+1) k5)).setCell ⟨g19,0,none⟩ (.slice (some ⟨x12,0,none⟩) (n+1) k12)) x5 9 y5:=Ti.far (p:=⟨g19,0,none⟩) (kU Ti tX (by decide)) (.slice (some ⟨x12,0,none⟩) (n+1) k12);have Kt:Bx ((W2.setCell ⟨g18,0,none⟩ (.slice (some ⟨x5,0,none⟩) (n+1) k5)).setCell ⟨g19,0,none⟩ (.slice (some ⟨x12,0,none⟩) (n+1) k12)) x12 9 YE:=Ku.far (p:=⟨g19,0,none⟩) (kU Ku tX (by decide)) (.slice (some ⟨x12,0,none⟩) (n+1) k12);have Kq:Bx ((W2.setCell ⟨g18,0,none⟩ (.slice (some ⟨x5,0,none⟩) (n+1) k5)).setCell ⟨g19,0,none⟩ (.slice (some ⟨x12,0,none⟩) (n+1) k12)) x16 9 YD:=Kr.far (p:=⟨g19,0,none⟩) (kU Kr tX (by decide)) (.slice (some ⟨x12,0,none⟩) (n+1) k12);have Xk:Below w1.heap.size w1 ((W2.setCell ⟨g18,0,none⟩ (.slice (some ⟨x5,0,none⟩) (n+1) k5)).setCell ⟨g19,0,none⟩ (.slice (some ⟨x12,0,none⟩) (n+1) k12)):=Xl.setCell (p:=⟨g19,0,none⟩) b19 (.slice (some ⟨x12,0,none⟩) (n+1) k12);have dz2:=tV.cell 0 rfl;have fz2:=tV.frozen 0;have RP:Bx (((W2.setCell ⟨g18,0,none⟩ (.slice (some ⟨x5,0,none⟩) (n+1) k5)).setCell ⟨g19,0,none⟩ (.slice (some ⟨x12,0,none⟩) (n+1) k12)).setCell ⟨g20,0,none⟩ (.slice (some ⟨x16,0,none⟩) (n+1) k16)) g17 207 (dA (pt n)):=RQ.far (p:=⟨g20,0,none⟩) (n3) (.slice (some ⟨x16,0,none⟩) (n+1) k16);have QK:Bx (((W2.setCell ⟨g18,0,none⟩ (.slice (some ⟨x5,0,none⟩) (n+1) k5)).setCell ⟨g19,0,none⟩ (.slice (some ⟨x12,0,none⟩) (n+1) k12)).setCell ⟨g20,0,none⟩ (.slice (some ⟨x16,0,none⟩) (n+1) k16)) g18 34 #[.slice (some ⟨x5,0,none⟩) (n+1) k5]:=QL.far (p:=⟨g20,0,none⟩) (n5) (.slice (some ⟨x16,0,none⟩) (n+1) k16);have QI:Bx (((W2.setCell ⟨g18,0,none⟩ (.slice (some ⟨x5,0,none⟩) (n+1) k5)).setCell ⟨g19,0,none⟩ (.slice (some ⟨x12,0,none⟩) (n+1) k12)).setCell ⟨g20,0,none⟩ (.slice (some ⟨x16,0,none⟩) (n+1) k16)) g19 34 #[.slice (some ⟨x12,0,none⟩) (n+1) k12]:=QJ.far (p:=⟨g20,0,none⟩) (n6) (.slice (some ⟨x16,0,none⟩) (n+1) k16);have QG:Bx (((W2.setCell ⟨g18,0,none⟩ (.slice (some ⟨x5,0,none⟩) (n+1) k5)).setCell ⟨g19,0,none⟩ (.slice (some ⟨x12,0,none⟩) (n+1) k12)).setCell ⟨g20,0,none⟩ (.slice (some ⟨x16,0,none⟩) (n+1) k16)) g20 34 #[.slice (some ⟨x16,0,none⟩) (n+1) k16]:=by simpa using tV.set 0 (.slice (some ⟨x16,0,none⟩) (n+1) k16)
   have VH:Bx (((W2.setCell ⟨g18,0,none⟩ (.slice (some ⟨x5,0,none⟩) (n+1) k5)).setCell ⟨g19,0,none⟩ (.slice (some ⟨x12,0,none⟩) (n+1) k12)).setCell ⟨g20,0,none⟩ (.slice (some ⟨x16,0,none⟩) (n+1) k16)) x5 9 y5:=Td.far (p:=⟨g20,0,none⟩) (kU Td tV (by decide)) (.slice (some ⟨x16,0,none⟩) (n+1) k16);have QT:Bx (((W2.setCell ⟨g18,0,none⟩ (.slice (some ⟨x5,0,none⟩) (n+1) k5)).setCell ⟨g19,0,none⟩ (.slice (some ⟨x12,0,none⟩) (n+1) k12)).setCell ⟨g20,0,none⟩ (.slice (some ⟨x16,0,none⟩) (n+1) k16)) x12 9 YE:=Kt.far (p:=⟨g20,0,none⟩) (kU Kt tV (by decide)) (.slice (some ⟨x16,0,none⟩) (n+1) k16);have QS:Bx (((W2.setCell ⟨g18,0,none⟩ (.slice (some ⟨x5,0,none⟩) (n+1) k5)).setCell ⟨g19,0,none⟩ (.slice (some ⟨x12,0,none⟩) (n+1) k12)).setCell ⟨g20,0,none⟩ (.slice (some ⟨x16,0,none⟩) (n+1) k16)) x16 9 YD:=Kq.far (p:=⟨g20,0,none⟩) (kU Kq tV (by decide)) (.slice (some ⟨x16,0,none⟩) (n+1) k16);have TY:Below w1.heap.size w1 (((W2.setCell ⟨g18,0,none⟩ (.slice (some ⟨x5,0,none⟩) (n+1) k5)).setCell ⟨g19,0,none⟩ (.slice (some ⟨x12,0,none⟩) (n+1) k12)).setCell ⟨g20,0,none⟩ (.slice (some ⟨x16,0,none⟩) (n+1) k16)):=Xk.setCell (p:=⟨g20,0,none⟩) b20 (.slice (some ⟨x16,0,none⟩) (n+1) k16);have hfin:Tl n c e w.heap.size g20 g17 g18 g19 (((W2.setCell ⟨g18,0,none⟩ (.slice (some ⟨x5,0,none⟩) (n+1) k5)).setCell ⟨g19,0,none⟩ (.slice (some ⟨x12,0,none⟩) (n+1) k12)).setCell ⟨g20,0,none⟩ (.slice (some ⟨x16,0,none⟩) (n+1) k16)):=⟨B0.call TY,RP,JA QK l5 VH z5 f5,JA QI l12 QT z12 f12,JA QG l16 QS z16 f16⟩
   have Xo:=ah hb TY;clear R17 SX o19 o20 m5 m12 m16 RU RQ RP QM QL QK tX QJ QI QH tV QG Ti Td VH Ku Kt QT Kr Kq QS Xl Xk TY hbR B0 B1 hba f5 f12 f16 z5 z12 z16;go_wp2;exact bodyPost_ret (results_tmp2 rfl _ _ _) rfl ⟨⟨_,_,_,_,_,rfl,hfin⟩,Xo⟩
end Go.Proofs.YtohgjenaclfegaaGreatDoor

import Derived.Test.YtelljijajgiabaaGreatDoorQ07
import Derived.RangeFuncFrom
import Derived.RangeFuncWrites
import Derived.Deep.WholeRow
set_option linter.unusedVariables false
set_option linter.unusedSimpArgs false
set_option maxRecDepth 100000
set_option maxHeartbeats 8000000
namespace Go.Proofs.YtelljijajgiabaaGreatDoor
open Go.RowKit Go.Shelf
attribute [local go_sem] Oper.semAt_some
def b_ (f:Nat->List UInt8):Array Value:=((List.range 101).map fun k=>Value.string ⟨(f k).toArray⟩).toArray
theorem gK (f:Nat->List UInt8):(b_ f).size=101:=by simp[b_]
theorem jr (f:Nat->List UInt8) {k:Nat} (h:k<101):(b_ f)[k]? = some (.string ⟨(f k).toArray⟩):=by
 simp[b_,h]
theorem FY (f:Nat->List UInt8) {k:Nat} (h:k<101) (s:List UInt8):(b_ f).setIfInBounds k (.string ⟨s.toArray⟩)=b_ (fun j=>if j=k then s else f j):=by
 apply Array.ext
 · simp[b_]
 · intro i h1 h2;simp only[b_,List.setIfInBounds_toArray,List.getElem_toArray,List.getElem_set,List.getElem_map,List.getElem_range];by_cases e:k=i
   · subst e;simp
   · rw[if_neg e,if_neg (fun h=>e h.symm)]
theorem y9 (f:Nat->List UInt8):(b_ f).all (·.oneCell')=true:=by
 rw[Array.all_eq_true_iff_forall_mem];intro v hv;simp only[b_,List.mem_toArray,List.mem_map]at hv;obtain ⟨k,-,rfl⟩:=hv;rfl
theorem wE:Tryz.prog.underlying 180=some (.array 101 9):=by kernel_rfl
theorem l9:(Tryz.prog.info? 180).map (·.size)=some 101:=by kernel_rfl
theorem PL {W:World} {g:Nat} {t:TypeId} (f:Nat->List UInt8) (hB:Bx W g t (b_ f)):(Instr.loadAt 180 (.pointer (some ⟨g,0,none⟩))).run Tryz.prog W=.ok (.agg (b_ f)) W:=by
 simp only[Instr.loadAt,Instr.sureAddr,Sem.run_bind,Sem.run_pure,Result.andThen];exact run_loadVar_row W g t _ _ (0,0) _ hB wE rfl (by rw[gK];exact l9)
theorem MR {W:World} {g:Nat} {t:TypeId} {old:Array Value} (f:Nat->List UInt8) (hB:Bx W g t old) (ho:old.size=101):(Instr.storeAt 180 (.pointer (some ⟨g,0,none⟩)) (.agg (b_ f))).run Tryz.prog W=.ok () (W.setRow g (b_ f)):=by
 simp only[Instr.storeAt,Instr.sureAddr,Sem.run_bind,Sem.run_pure,Result.andThen];exact run_storeVar_row W g t _ old _ hB (by rw[gK];exact l9) (by rw[gK];exact ho) (y9 f)
theorem sJ {F:Fence} {n:Nat} {o:Oper} {a:Act} {w:World} {K:Act->World->Prop} {Q:Exit->Act->World->Prop} (hF:∀f,F.fn f) {x:Operand} (ho:o.op=.load 180 x) {g:Nat} (hx:a.eval x=.pointer (some ⟨g,0,none⟩)) {t:TypeId} {f:Nat->List UInt8}
 (hB:Bx w g t (b_ f)) (h:K (a.put o.dst (.agg (b_ f))) w):o.wpIn F n Tryz.prog a w K Q:=by
 refine⟨fun f _=>hF f,?_⟩;rw [Oper.semAt_plain _ _ _ (by rw[ho];intro c h;cases h)]
 unfold execOp
 simp only[ho,hx,PL f hB,Sem.run_bind,Sem.run_pure,Result.andThen_ok];exact h
theorem qE {F:Fence} {n:Nat} {o:Oper} {a:Act} {w:World} {K:Act->World->Prop} {Q:Exit->Act->World->Prop} (hF:∀f,F.fn f) {x y:Operand} (ho:o.op=.store 180 x y) {g:Nat} (hx:a.eval x=.pointer (some ⟨g,0,none⟩)) {t:TypeId} {old:Array Value} {f:Nat->List UInt8}
 (hy:a.eval y=.agg (b_ f)) (hB:Bx w g t old) (hs:old.size=101) (h:K (a.put o.dst undef) (w.setRow g (b_ f))):o.wpIn F n Tryz.prog a w K Q:=by
 refine⟨fun f _=>hF f,?_⟩;rw [Oper.semAt_plain _ _ _ (by rw[ho];intro c h;cases h)]
 unfold execOp
 simp only[ho,hx,hy,MR f hB hs,Sem.run_bind,Sem.run_pure,Result.andThen_ok];exact h
theorem oJ {W:World} {g:Nat} {t:TypeId} {old:Array Value} (hB:Bx W g t old) (cs:Array Value):Bx (W.setRow g cs) g t cs:=by
 unfold Bx at *
 show (W.heap.modify g _)[g]? = _
 rw[Array.getElem?_modify,if_pos rfl,hB];rfl
theorem setRow_other {W:World} {g:Nat} (cs:Array Value) {k:Nat} (h:k≠g):(W.setRow g cs).heap[k]? = W.heap[k]? := by
 show (W.heap.modify g _)[k]? = _
 rw[Array.getElem?_modify,if_neg (fun e=>h e.symm)]
theorem below_setRow {B g:Nat} (W:World) (cs:Array Value) (h:B<=g):Below B W (W.setRow g cs) :=
 ⟨rfl,rfl,rfl,by show W.heap.size<=(W.heap.modify g _).size;simp,fun k hk=>setRow_other cs (by omega)⟩
def pt (n k:Nat):List UInt8:=Lib.itoa (Tb.ch n k:Int)
theorem Ed {n k:Nat} (h:n<k):pt n k=Lib.itoa 0:=by unfold pt;rw[Tb.sF h];rfl
def yx (n k:Nat) (j:Nat):List UInt8:=if k<j then pt (n+1) j else pt n j
theorem Np (n:Nat):yx n (n+1)=pt n:=by
 funext j
 unfold yx
 split
 · rw[Ed (by omega),Ed (by omega)]
 · rfl
theorem U3 (n:Nat):yx n 0=pt (n+1):=by
 funext j
 unfold yx
 split
 · rfl
 · have:j=0:=by omega
   subst this
   unfold pt
   rw[Tb.jE,Tb.jE]
theorem Qm (n k:Nat) (hk:0<k):(fun j=>if j=k then pt (n+1) k else yx n k j)=yx n (k-1):=by
 funext j
 unfold yx
 by_cases e:j=k
 · subst e;rw[if_pos rfl,if_pos (by omega)]
 · rw[if_neg e];by_cases h:k<j
   · rw[if_pos h,if_pos (by omega)]
   · rw[if_neg h,if_neg (by omega)]
theorem tK (n k:Nat):Ix (Tb.ch n k:Int) (pt n k):=⟨rfl⟩
theorem OT:(fun k=>if k=0 then Lib.itoa 1 else Lib.itoa 0)=pt 0:=by
 funext k
 cases k with
 | zero=>rfl
 | succ k=>rw[Ed (by omega)];rfl
def rwA (x:Fin 101):Array Value:=#[.int .i64 (x.1:Int),.agg (b_ (pt x.1))]
theorem RG {n:Nat} (h:n<101):(List.finRange 101).take (n+1)=(List.finRange 101).take n++[⟨n,h⟩]:=by
 rw[List.take_succ_eq_append_getElem (by simpa using h)]
 congr 2
 simp[List.getElem_finRange]
theorem uw:(Tryz.zeroCells180).size=101:=by kernel_rfl
theorem N9 {cs:Array Value} (hs:cs.size=101) {f:Nat->List UInt8} (h:∀j,j<101->cs[j]? = some (.string ⟨(f j).toArray⟩)):cs=b_ f:=by
 apply Array.ext
 · rw[hs,gK]
 · intro i h1 h2;have e1:=h i (by omega);have e2:=jr f (k:=i) (by omega);rw [Array.getElem?_eq_getElem h1]at e1;rw [Array.getElem?_eq_getElem h2]at e2;exact Option.some.inj (e1.trans e2.symm)
theorem PK (n:Nat) (hn:1<=n) (w0:World) (hE0:Env w0):VJ n Tryz.prog 218 #[] rwA (fun ys=>ys=List.finRange 101) 101 w0:=by
 intro l J Jx W hW hJ hJx hJw hY hj0;refine callsIn_of_wp Tryz.func218 rfl trivial ?_ rfl;simp only[Tryz.ntmps218,List.size_toArray,List.length_cons,List.length_nil,Nat.reduceAdd,Nat.reduceSub,Array.replicate_succ,Array.replicate_zero,List.push_toArray,List.append_toArray,List.nil_append,List.cons_append];have TY:=au W (.cells Tryz.zeroCells180 180);have BA:=Bx.mk W 180 Tryz.zeroCells180;have hz:=uw
 gi_wp2_with fail
 generalize Tryz.zeroCells180=zc at *
 gi_loopw [6] (fun s6 wr=>∃(k:Nat) (cs:Array Value),s6=.int .i64 k/\k<=101/\cs.size=101/\Kp (∀j,j<k->cs[j]? = some (.string ⟨(Lib.itoa 0).toArray⟩))/\Bx wr W.heap.size 180 cs/\Below W.heap.size W wr) (fun s6 _=>101-(intOf s6).toNat)
 case atStart=>exact⟨0,zc,rfl,by omega,hz,⟨fun j hj=>by omega⟩,BA,TY⟩
 case round =>
  clear BA TY hz;obtain ⟨k,cs,rfl,hk,hcs,hz,hB,hb⟩:=hrel;by_cases hlt:k<101
  · have t0:decide ((k:Int)<101)=true:=by simp;omega
    obtain⟨v,hv⟩:∃v,cs[k]? = some v:=⟨cs[k],Array.getElem?_eq_getElem (by omega)⟩
    have c0:=hB.cell k hv;have f0:=hB.frozen k;have hB2:=hB.set k (.string { data:=#[48] });have hb2:=aJ hb (p:=⟨W.heap.size,k,none⟩) (Nat.le_refl _) (.string { data:=#[48] })
    have hz2:Kp (∀j,j<k+1->(cs.setIfInBounds k (.string { data:=#[48] }))[j]? = some (.string ⟨(Lib.itoa 0).toArray⟩)):=⟨fun j hj=>by
     rw[Array.getElem?_setIfInBounds];by_cases e:k=j
     · rw[if_pos e,if_pos (by omega),jy]
     · rw[if_neg e];exact hz.out j (by omega)⟩
    have hs2:(cs.setIfInBounds k (.string { data:=#[48] })).size=101:=by rw[Array.size_setIfInBounds];exact hcs
    clear hz hv hB hb hY hJ hJx hJw
    gi_wp2
    go_roundw
    case rel=>exact⟨k+1,_,by go_num,by omega,hs2,hz2,hB2,hb2⟩
    case measure=>simp[intOf];omega
  · obtain rfl:k=101:=by omega
    have e1:=N9 hcs (f:=fun _=>Lib.itoa 0) hz.out;subst e1;have c0:=hB.cell 0 (jr _ (by decide));have f0:=hB.frozen 0;have hB2:=hB.set 0 (.string { data:=#[49] });have hb2:=aJ hb (p:=⟨W.heap.size,0,none⟩) (Nat.le_refl _) (.string { data:=#[49] })
    have e2:(b_ (fun _=>Lib.itoa 0)).setIfInBounds 0 (.string { data:=#[49] })=b_ (pt 0):=by
     rw[show ({ data:=#[49] }:ByteArray)=⟨(Lib.itoa 1).toArray⟩ by rw[show Lib.itoa 1=[49] by decide +kernel],FY _ (by decide),OT]
    rw[e2]at hB2;clear hB hb hz hcs e2
    gi_wp2_with fail
    generalize wr.setCell ⟨W.heap.size,0,none⟩ (.string { data:=#[49] })=W1 at *;have hj1:=hJ _ _ _ hj0 hb2;have hs1:=hb2.size;clear hb2 c0 f0 hj0;rw [show ((101:Nat):Int)=101 from rfl]
    gi_loopw [4] (fun s4 wr=>∃k:Nat,s4=.int .i64 k/\k<=101/\(k<101->Bx wr W.heap.size 180 (b_ (pt k)))/\J ((List.finRange 101).take k) wr/\W.heap.size<=wr.heap.size) (fun s4 _=>101-(intOf s4).toNat)
    case atStart=>exact⟨0,rfl,by omega,fun _=>hB2,hj1,hs1⟩
    case round =>
     clear hB2 hj1 hs1;obtain ⟨k,rfl,hk,hB,hj,hsz⟩:=hrel;by_cases hlt:k<101
     · have t0:decide ((k:Int)<101)=true:=by simp;omega
       replace hB:=hB hlt;have aaf:Kp (k<101):=⟨hlt⟩
       have hfr:=fun Y (h:Fr W.heap.size wr Y)=>h.keep _ _ (Nat.le_refl _) hB
       obtain⟨fn,tmps,assign,body,hy,hR⟩:=hY _ ⟨k,hlt⟩ wr hj (by rw[List.length_take,List.length_finRange];omega);rw [←RG hlt]at hR;simp only[rwA]at hy;clear hY hj
       gi_wp2_with (refine sJ (fun _=>trivial) rfl rfl hB ?_)
       refine hR.mono ?_;rintro e W3 (⟨rfl,hJ3,hk3⟩|⟨rfl,hJx3⟩)
       · have B3:Bx W3 W.heap.size 180 (b_ (pt k)):=hfr W3 hk3;have hs3:=Nat.le_trans hsz hk3.size;clear hfr hR hy hB
         gi_wp2_with fail
         gi_loopw [5] (fun s5 wr=>∃m:Nat,s5=.int .i64 m/\m<=k+1/\Bx wr W.heap.size 180 (b_ (yx k m))/\J ((List.finRange 101).take (k+1)) wr/\W.heap.size<=wr.heap.size) (fun s5 _=>(intOf s5).toNat)
         case atStart=>exact⟨k+1,by go_num,by omega,by rw[Np];exact B3,hJ3,hs3⟩
         case round =>
          clear B3 hJ3 hs3;obtain ⟨m,rfl,hm,hB,hj,hsz⟩:=hrel;by_cases hin:0<m/\m<101
          · obtain⟨p,rfl⟩:∃p,m=p+1:=⟨m-1,by omega⟩
            have hp:p<100:=by omega
            have hcast:((p+1:Nat):Int)-1=(p:Int):=by omega
            have t1:decide ((p:Int)+1 > 0)=true:=by simp <;> omega
            have t2:decide ((p:Int)+1<101)=true:=by simp;omega
            have hEr:=hE0.below (hJw _ _ hj);have x1:=fun d os=>(hB.again d os).cell (p+1) (jr _ (by omega))
            have x2:=fun d os=>(hB.again d os).cell p (jr _ (by omega))
            have e1:yx k (p+1) (p+1)=pt k (p+1):=by unfold yx;rw[if_neg (by omega)]
            have e2:yx k (p+1) p=pt k p:=by unfold yx;rw[if_neg (by omega)]
            rw[e1]at x1;rw [e2]at x2;have kp:=fun d os=>Jt (Sort.grow (redrawn wr d) os) (tK k (p+1)) (tK k p) (tK (k+1) (p+1)) ⟨by rw[Tb.pU,Int.natCast_add,Int.add_comm]⟩ (Tb.qZ (by omega) _) (Tb.qZ (by omega) _) (Tb.qZ (by omega) _) (by decide) (by decide) (by decide) (hEr.below (below_regrown wr d os))
            have hms:=Qm k (p+1) (by omega);rw [Nat.add_sub_cancel]at hms;replace hms:=Kp.mk hms;generalize pt k (p+1)=sa at *;generalize pt k p=sb at *;generalize pt (k+1) (p+1)=sc at *
            gi_wp2_with fail
            refine wpIn_wide.2 ?_;refine fD 10 (by kernel_rfl) (by kernel_rfl) ?_;simp only[List.take,List.drop]
            repeat (go_big_quiet_step (first|(go_at_call 193;with_reducible exact Calls.regrown_of (kp _ _))))
            refine wpQuiet_nil ?_;rintro _ ⟨z,rfl⟩;have hbz:=below_regrown wr z.d z.os;have hBz:=hB.again z.d z.os;have hjz:=hJ _ _ _ hj (hbz.mono hsz);have hsz2:=Nat.le_trans hsz hbz.size;clear x1 x2 kp hbz hB hj hsz hEr;generalize Sort.grow (redrawn wr z.d) z.os=W2 at *;have c0:=hBz.cell (p+1) (jr _ (by omega));have f0:=hBz.frozen (p+1);have B2:=hBz.set (p+1) (.string ⟨sc.toArray⟩);rw [FY _ (by omega),hms.out]at B2;have hj2:=hJ _ _ _ hjz ((Below.refl W.heap.size W2).setCell (p:=⟨W.heap.size,p+1,none⟩) (Nat.le_refl _) (.string ⟨sc.toArray⟩));have hs2:W.heap.size<=(W2.setCell ⟨W.heap.size,p+1,none⟩ (.string ⟨sc.toArray⟩)).heap.size:=Nat.le_trans hsz2 ((Below.refl W.heap.size W2).setCell (p:=⟨W.heap.size,p+1,none⟩) (Nat.le_refl _) (.string ⟨sc.toArray⟩)).size;clear hBz hjz hsz2;go_wp2_with fail
            gi_wp2_with fail
            go_roundw
            case rel=>exact⟨p,by go_num,by omega,B2,hj2,hs2⟩
            case measure=>simp[intOf] <;> omega
          · have hend:k+1<101->Bx wr W.heap.size 180 (b_ (pt (k+1))):=fun h=>by
             obtain rfl:m=0:=by omega
             rw[U3]at hB;exact hB
            rcases (show m=0∨m=101 by omega) with rfl|rfl
            · clear hB;have hltA:=aaf.out;have hwr:IntKind.i64.wrap ((k:Int)+1)=(k:Int)+1:=IntWalk.i64_in _ ⟨by omega,by omega⟩
              gi_wp2_with (refine ⟨fun _ _=>trivial,?_⟩)
              go_roundw
              case rel=>exact⟨k+1,by go_num,by omega,hend,hj,hsz⟩
              case measure=>simp[intOf] <;> omega
            · clear hB;have hltA:=aaf.out;have hwr:IntKind.i64.wrap ((k:Int)+1)=(k:Int)+1:=IntWalk.i64_in _ ⟨by omega,by omega⟩
              gi_wp2_with (refine ⟨fun _ _=>trivial,?_⟩)
              go_roundw
              case rel=>exact⟨k+1,by go_num,by omega,hend,hj,hsz⟩
              case measure=>simp[intOf] <;> omega
       · gi_wp2_with (refine ⟨fun _ _=>trivial,?_⟩)
         go_end0
         exact⟨⟨_,rfl⟩,.inr ⟨_,hJx3⟩⟩
     · obtain rfl:k=101:=by omega
       rw[List.take_of_length_le (by simp)]at hj;clear hY;have t0:decide (((101:Nat):Int)<101)=false:=by decide
       gi_wp2_with (refine ⟨fun _ _=>trivial,?_⟩)
       go_end0
       exact⟨⟨_,rfl⟩,.inl ⟨_,rfl,hj⟩⟩
attribute [local go_sem] Oper.semAt_some
theorem UG (n:Nat) (w:World):CallsIn Fence.wide n Tryz.prog 192 #[] w fun e w'=>e=.returned (.func (.func 218) #[] #[])/\w'=w:=by
 refine callsIn_of_wp Tryz.func192 rfl trivial ?_ rfl;simp only[Tryz.ntmps192,List.size_toArray,List.length_cons,List.length_nil,Nat.reduceAdd,Nat.reduceSub,Array.replicate_succ,Array.replicate_zero,List.push_toArray,List.append_toArray,List.nil_append,List.cons_append]
 gi_wp2
 go_ret;exact ⟨rfl,rfl⟩
theorem o9 (k:Nat) (w:World) (hk:k<=100) (hE:Env w) :
 aW 153 #[.int .i64 k] w (.agg (b_ (pt k))):=by
 refine (callsIn_wide (n:=3)).1 ?_;refine callsIn_of_wp_marks Tryz.func153 rfl trivial ?_ rfl;simp only[Tryz.ntmps153,List.size_toArray,List.length_cons,List.length_nil,Nat.reduceAdd,Nat.reduceSub,Array.replicate_succ,Array.replicate_zero,List.push_toArray,List.append_toArray,List.nil_append,List.cons_append];have hb0:=bNew (au w (.cells #[.int .i64 k] 3)) (.cells Tryz.zeroCells180 180);have B1:=(Bx.mk w 3 #[.int .i64 k]).new (.cells Tryz.zeroCells180 180);have B2:=Bx.mk (w.alloc (.cells #[.int .i64 k] 3)) 180 Tryz.zeroCells180;rw [ah]at B2;have hz:=uw
 gi_wp2_with (refine ⟨trivial,?_⟩;gi_at_call 192;refine (UG _ _).mono ?_;rintro e w' ⟨rfl,rfl⟩)
 generalize Tryz.zeroCells180=zc at *
 refine uD (by decide) (gf:=218) (lb:=#[]) rfl (enters_of Tryz.func218 (by kernel_rfl) rfl) (PK 2 (by decide) w hE) hb0 (fun _=>rfl)
  (fun pre X=>Below w.heap.size w X/\Bx X w.heap.size 3 #[.int .i64 k]/\Bx X (w.heap.size+1) 180 zc/\∀y∈pre,y.1≠k)
  (fun _ X=>Below w.heap.size w X/\Bx X (w.heap.size+1) 180 (b_ (pt k)))
  (fun s X Y h hb=>?_) (fun s X Y h hb=>?_) (fun s X h=>h.1) ⟨hb0,B1,B2,fun y hy=>by cases hy⟩
  (fun x a' X=>∃g,a'={ tmps:=#[.int .i64 k,.pointer (some ⟨w.heap.size,0,none⟩),.pointer (some ⟨w.heap.size+1,0,none⟩),.int .i64 (x.1:Int),.pointer (some ⟨g,0,none⟩),.func (.func 218) #[] #[],.int .i64 (x.1:Int),.agg (b_ (pt x.1)),undef,undef,undef,undef,undef],defers:=[] }/\Bx X g 180 (b_ (pt x.1)))
  (fun x a' X l o o' h ho hc=>?_) ?assign ?body ?done ?stop
 · have hs:((w.alloc (.cells #[.int .i64 k] 3)).alloc (.cells zc 180)).heap.size=w.heap.size+2:=by rw[ah,ah]
   rw[hs]at hb;exact ⟨h.1.trans (hb.mono (by omega)),h.2.1.below hb (by omega),h.2.2.1.below hb (by omega),h.2.2.2⟩
 · have hs:((w.alloc (.cells #[.int .i64 k] 3)).alloc (.cells zc 180)).heap.size=w.heap.size+2:=by rw[ah,ah]
   rw[hs]at hb;exact ⟨h.1.trans (hb.mono (by omega)),h.2.below hb (by omega)⟩
 · obtain⟨g,e,hB⟩:=h;refine ⟨g,e,(World.putObj_heap_other ?_).trans hB⟩;rintro rfl;rw [show X.heap[g]? = _ from hB]at ho;cases ho;cases hc
 case assign =>
  intro l x W K hK;simp only[rwA];have B3:=Bx.mk W 180 Tryz.zeroCells180
  gi_wp2_with (refine qE (fun _=>trivial) rfl rfl rfl B3 uw ?_)
  exact hK _ _ ((au W _).trans (below_setRow _ _ (Nat.le_refl _))) ⟨_,rfl,oJ B3 _⟩
 case body =>
  rintro l pre x a' W ⟨hb,hB1,hB2,hpre⟩ ⟨g,rfl,hB⟩ hlen;have c0:=hB1.cell 0 rfl;by_cases hx:x.1=k
  · have hx2:(x.1:Int)=(k:Int):=by omega
    rw[hx]at hB;rw [hx]
    have hfin:Fr ((w.alloc (.cells #[.int .i64 k] 3)).alloc (.cells zc 180)).heap.size W (W.setRow (w.heap.size+1) (b_ (pt k))):=by
     rw[ah,ah];exact ⟨by show W.heap.size<=(W.heap.modify _ _).size;simp,fun b o hbb ho=>(setRow_other _ (by omega)).trans ho⟩
    have hbl:Below w.heap.size w (W.setRow (w.heap.size+1) (b_ (pt k))):=hb.trans (below_setRow _ _ (by omega))
    gi_wp2_with (first|(refine sJ (fun _=>trivial) rfl rfl hB ?_)|(refine qE (fun _=>trivial) rfl rfl rfl hB2 hz ?_))
    exact⟨hfin,hbl,oJ hB2 _⟩
  · have hx2:((x.1:Int)==(k:Int))=false:=by simp;omega
    gi_wp2
    refine⟨Fr.below (gq _),hb,hB1,hB2,fun y hy=>?_⟩
    rcases List.mem_append.1 hy with hy|hy
    · exact hpre y hy
    · rw[List.mem_singleton.1 hy];exact hx
 case done =>
  rintro D xs W hD rfl ⟨_,_,_,hno⟩ _;exact absurd rfl (hno ⟨k,by omega⟩ (List.mem_finRange _))
 case stop =>
  rintro D pre W hD ⟨hb,hB⟩ hDD;rw [ah,ah]at hD
  gi_wp2
  refine⟨by simp,.inl ⟨_,_,rfl,run_takeDeferred hDD,?_⟩⟩;have YC:Bx (W.putObj D (.deferred none)) (w.heap.size+1) 180 (b_ (pt k)):=(World.putObj_heap_other (by omega)).trans hB;exact ⟨_,results_cell_row rfl _ _ (w.heap.size+1) _ (b_ (pt k)) (0,0) _ rfl YC wE rfl (by rw[gK];exact l9),rfl,hb.trans (iV (by omega) hDD)⟩
open Go.RowKit
def bG (P:Program) (ops:Array Oper) (ps:List (Value->World->Prop)) (w0:World) (a0:Act):List (Option Tmp)->List Oper->List (Value->World->Prop)->Prop
 | pre,o :: l,q :: qs=>(∀(vs:Nat->Value) (w:World),Below w0.heap.size w0 w->(∀j,zZ o j=true->rel ps j (vs j) w) ->
  wpList P ops (fun e a' w'=>e=.normal/\a'.defers=a0.defers/\Below w.heap.size w w'/\q (qV o a') w') [o] (aQ vs 0 pre a0) w)/\bG P ops ps w0 a0 (pre++[o.dst]) l qs
 | _,_,_=>True
theorem bG.rg {P:Program} {ps:List (Value->World->Prop)} {w0:World} {a0:Act} {L:List Oper} {n:Nat} (hnp:n<=ps.length):∀(l:List Oper) (k:Nat),(∀j,l[j]? = (L.take n)[k+j]?)->bG P L.toArray ps w0 a0 ((L.take k).map (·.dst)) l (ps.drop k)->RS.dw (fun w w'=>Below w.heap.size w w') (fun _=>none) P L.toArray (fun i _ v w=>rel ps i v w) w0 a0 k l
 | [],_,_,_=>trivial
 | o :: l,k,hl,h=>by
  have h0:(L.take n)[k]? = some o:=by simpa using (hl 0).symm
  obtain⟨hkn,hLo⟩:=fC h0;have hkp:k<ps.length:=by omega
  rw[List.drop_eq_getElem_cons hkp]at h;refine ⟨fun vs w hb hE=>?_,bG.rg hnp l (k+1) (fun j=>by have:=hl (j+1);simpa [Nat.add_assoc,Nat.add_comm 1 j] using this) ?_⟩
  · have hu:=h.1 vs w hb fun j hj=>by
     obtain⟨e,he,t_⟩:=List.any_eq_true.1 hj;simp only[Bool.and_eq_true,beq_iff_eq]at t_;have:=RS.iH _ hE e he t_.1
     rwa [t_.2]at this
    have hfr:seen L.toArray vs k a0=aQ vs 0 ((L.take k).map (·.dst)) a0:=dK vs _ 0 a0;rw [hfr];have hq:ps[k]=ps.getD k jJ:=by simp[List.getD_eq_getElem?_getD,hkp]
    rw[hq]at hu;exact hu
  · have h2:=h.2
    have e1:(L.take k).map (·.dst)++[o.dst]=(L.take (k+1)).map (·.dst):=by
     rw[List.take_add_one,hLo];simp
    rw[e1]at h2;exact h2
def uK (s:List UInt8):List Value:=[.string ⟨s.toArray⟩]
theorem yZ (s:List UInt8):(uK s).length=1:=rfl
theorem ZF:∃i z,Tryz.prog.info? 9=some i/\i.zero=some z/\i.size=1/\z.cells.size=1/\i.bytes=16:=by
 have h:(Tryz.prog.info? 9).map (fun i=>(i.size,i.bytes,i.zero.map (·.cells.size)))=some (1,16,some 1):=by kernel_rfl
 cases hi:Tryz.prog.info? 9 with
 | none=>rw[hi]at h;cases h
 | some i =>
  rw[hi]at h;simp only[Option.map_some,Option.some.injEq,Prod.mk.injEq]at h;obtain ⟨h1,h2,h3⟩:=h
  cases hz:i.zero with
  | none=>rw[hz]at h3;cases h3
  | some z=>rw[hz]at h3;exact⟨i,z,rfl,hz,h1,by simpa using h3,h2⟩
theorem V8:Tryz.prog.underlying 192=some (.slice 9):=by kernel_rfl
theorem sZ {w:World} {ops:Array Oper} {rest:List Oper} {o:Oper} {a:Act} {Q:Exit->Act->World->Prop} (hgd:o.guard=none) (s y:Operand) (ho:o.op=.call { callee:=.builtin .append,args:=#[s,y],argTypes:=#[192,192] })
 (B cap n m:Nat) (flat news:List Value) (v x:Value) (hes:a.eval s=v) (EC:a.eval y=x) (hv:cO 9 1 B cap n flat v w) (hB:B<=w.heap.size) (hs:Src Tryz.prog 1 192 x m news w) (hcm:cap<=maxLen) (h63:n+m<=2000000)
 (h:∀v' w' cap',Below B w w'->(n=cap->Below w.heap.size w w')->cO 9 1 B cap' (n+m) (flat++news) v' w'->cap'<=maxLen->wpList Tryz.prog ops Q rest (a.put o.dst v') w'):wpList Tryz.prog ops Q (o :: rest) a w:=by
 obtain⟨i,z,hi,hz,hs1,hz1,hby⟩:=ZF;exact gW hgd s y _ _ ho i z 1 B cap n m flat news v x V8 hi hz hs1 hz1 hes EC hv hB hs hcm (by unfold maxLen;omega) (by rw[hby];omega) h
def CW (a:Int) (n:Nat):List (List UInt8):=(List.range (n+1)).map fun j=>Lib.itoa (a ^ j)
theorem Ec (a:Int) (n:Nat):(CW a n).length=n+1:=by simp[CW]
theorem KU (a:Int) {n k:Nat} (h:k<n+1):(CW a n)[k]? = some (Lib.itoa (a ^ k)):=by simp[CW,h]
theorem P5 (a:Int) (n:Nat):CW a (n+1)=CW a n++[Lib.itoa (a ^ (n+1))]:=by
 unfold CW;rw[List.range_succ,List.map_append];rfl
theorem tN (a:Int) (n:Nat) (w:World) (h0:0<=a) (h1:a<=1000) (hn:n<=50) (hE:Env w) :
 Calls Tryz.prog 189 #[.int .i64 a,.int .i64 n] w fun e w'=>(∃v,e=.returned v/\TM 9 1 w.heap.size (n+1) ((CW a n).flatMap uK) v w')/\Below w.heap.size w w':=by
 have hs0:Kp (CW a 0=[[49]]):=⟨by simp[CW,show Lib.itoa 1=[49] by decide +kernel]⟩
 have hb0:=au w (.cells #[.string { data:=#[49] }] 9);have B0:=Bx.mk w 9 #[.string { data:=#[49] }]
 go_enter Tryz.func189,Tryz.ntmps189
 go_wp2_with fail
 go_loopw [5,8] (fun s5 s8 wr=>∃k:Nat,s8=.int .i64 k/\k<=n/\TM 9 1 w.heap.size (k+1) ((CW a k).flatMap uK) s5 wr/\Below w.heap.size w wr) (fun _ s8 _=>n-(intOf s8).toNat)
 case atStart=>exact⟨0,rfl,Nat.zero_le _,⟨1,⟨w.heap.size,_,rfl,Nat.le_refl _,Nat.le_refl _,B0,rfl,by rw[hs0.out];rfl⟩,by decide⟩,hb0⟩
 case round =>
  clear hs0 hb0 B0;obtain ⟨k,rfl,hk,⟨cap,hR,hcm⟩,hb⟩:=hrel;by_cases hlt:k<n
  · have t0:decide ((k:Int)<(n:Int))=true:=by simp;omega
    have hEr:=hE.below hb;have hR2:=hR;obtain ⟨g,cells,rfl,hg,hkc,hB,hcs,hfl⟩:=hR2;obtain ⟨sa,esa⟩:=Ix.ex a;obtain ⟨sk,esk⟩:=Ix.ex (a ^ k);obtain ⟨sn,WX⟩:=Ix.ex (a ^ (k+1))
    have hck:∀W,Below wr.heap.size wr W->W.cell? ⟨g,k,none⟩=some (.string ⟨sk.toArray⟩):=fun W hW=>by
     refine (hW.cell (p:=⟨g,k,none⟩) hB.lt).trans (hB.cell k ?_)
     have h2:(cells.toList.take ((k+1)*1))[k]? = some (.string ⟨sk.toArray⟩):=by
      rw[hfl];have:=flat_get (f:=uK) (size:=1) yZ (CW a k) k 0 _ (KU a (by omega)) (by decide);rw [Nat.mul_one,Nat.add_zero]at this;rw [this,esk.out];rfl
     rw[List.getElem?_take,if_pos (by omega)]at h2;simpa using h2
    have hF:=fun w1 (hb1:Below wr.heap.size wr w1)=>rG a w1 (by omega) (by omega) (hEr.below hb1)
    rw[esa.out]at hF;have hT:=fun w1 (hb1:Below wr.heap.size wr w1)=>yH w1 esk esa WX ⟨by rw[Int.pow_succ]⟩ (Tb.jU h0 h1 k) (Tb.jU h0 h1 1 |> fun h=>by rw[Int.pow_one]at h;exact h) (Tb.jU h0 h1 (k+1)) (by omega) (by decide) (by omega) (hEr.below hb1)
    have hnx:Kp ((CW a k).flatMap uK++[.string ⟨sn.toArray⟩]=(CW a (k+1)).flatMap uK):=⟨by rw[P5,List.flatMap_append,WX.out];rfl⟩
    clear hfl hB esa esk WX hE hEr hcs;have hcast:((k+1:Nat):Int)-1=(k:Int):=by omega
    go_wp2;refine aA [ak (.slice (some ⟨g,0,none⟩) (k+1) cap),ak (.slice (some ⟨g,0,none⟩) (k+1) cap),ak (.slice (some ⟨g,0,none⟩) (k+1) cap),ak (.int .i64 ((k+1:Nat):Int)),ak (.int .i64 k),ak (.pointer (some ⟨g,k,none⟩)),ak (.string ⟨sk.toArray⟩),ak (.int .i64 a),ak (.string ⟨sa.toArray⟩),ak (.string ⟨sn.toArray⟩),cO 9 1 wr.heap.size 1 1 [.string ⟨sn.toArray⟩]] 11 24 (by kernel_rfl) rfl rfl (by kernel_rfl) ?_ ?_ ?_
    · simp only[bV]
      repeat' apply And.intro
      all_goals first|exact aF _|exact aS _ _ _ _ _ _|trivial
    · simp only[Users,List.take,List.length];refine ⟨?_,?_,?_,?_,?_,?_,?_,?_,?_,?_,?_,trivial⟩;all_goals (intro vs w1 hb1 hd;simp only[aQ,Act.put,List.nil_append,List.cons_append,List.setIfInBounds_toArray,List.set_cons_succ,List.set_cons_zero,Nat.reduceAdd])
      · clear hd hF hT hck;go_wp2;exact⟨Below.refl _ _,rfl⟩
      · clear hd hF hT hck;go_wp2;exact⟨Below.refl _ _,rfl⟩
      · clear hd hF hT hck;go_wp2;exact⟨Below.refl _ _,rfl⟩
      · have h2:vs 2=_:=hd 2 rfl;clear hd hF hT hck;rw[h2];go_wp2;exact⟨Below.refl _ _,rfl⟩
      · have h3:vs 3=_:=hd 3 rfl;clear hd hF hT hck;rw[h3];go_wp2;exact⟨Below.refl _ _,rfl⟩
      · have h1:vs 1=_:=hd 1 rfl;have h4:vs 4=_:=hd 4 rfl;clear hd hF hT hck;rw[h1,h4];go_wp2;first|exact⟨Below.refl _ _,rfl⟩|exact⟨Below.refl _ _,by simp[ak]⟩
      · have h5:vs 5=_:=hd 5 rfl;have c1:=hck w1 hb1;clear hd hF hT hck;rw[h5];go_wp2;exact⟨Below.refl _ _,rfl⟩
      · clear hd hF hT hck;go_wp2;exact⟨Below.refl _ _,rfl⟩
      · have h7:vs 7=_:=hd 7 rfl;have hC:=hF w1 hb1;clear hd hF hT hck;rw[h7];go_wp2_with fail;refine hC.mono ?_;clear hC;rintro _ w9 ⟨rfl,aY⟩;go_wp2;first|rfl|exact⟨aY,rfl⟩
      · have h6:vs 6=_:=hd 6 rfl;have h8:vs 8=_:=hd 8 rfl;have hC:=hT w1 hb1;clear hd hF hT hck;rw[h6,h8];go_wp2_with fail;refine hC.mono ?_;clear hC;rintro _ w9 ⟨rfl,aY⟩;go_wp2;first|rfl|exact⟨aY,rfl⟩
      · have h9:vs 9=_:=hd 9 rfl;clear hd hF hT hck;rw[h9];go_wp2;exact ⟨(Below.refl _ _).alloc (Nat.le_refl _) _,_,_,rfl,hb1.size,Nat.le_refl _,Bx.mk _ _ _,rfl,rfl⟩
    · clear hF hT hck;intro vs w1 hb1 hRR;simp only[cZ,ak]at hRR;obtain ⟨e0,e1,e2,e3,e4,e5,e6,e7,e8,e9,e10,-⟩:=hRR;simp only[List.drop,List.take,List.map,aQ,Act.put,List.setIfInBounds_toArray,List.set_cons_succ,List.set_cons_zero,Nat.reduceAdd];have hR1:=aS _ _ _ _ _ _ _ _ _ hR hb1;refine sZ rfl (.tmp 10) (.tmp 20) rfl w.heap.size cap (k+1) 1 ((CW a k).flatMap uK) [.string ⟨sn.toArray⟩] (vs 0) (vs 10) rfl rfl (by rw[e0];exact hR1) (Nat.le_trans hb.size hb1.size) (cO.src (fun u hu=>by simp at hu;subst hu;rfl) V8 e10) hcm (by omega) ?_;intro v' w' cap' f1 f2 f3 f4;rw [hnx.out]at f3;have hbN:=(aj hb hb1).trans f1;clear f1 f2 e0 e1 e2 e3 e4 e5 e6 e7 e8 e9 e10 hR hR1 hnx;go_wp2;exact ⟨⟨k+1,by go_num,by omega,⟨cap',f3,f4⟩,hbN⟩,by simp[intOf] <;> omega⟩
  · obtain rfl:k=n:=by omega
    have hR2:=hR;obtain ⟨g,cells,rfl,-,-,-,-,-⟩:=hR2;go_wp2;go_ret;exact ⟨⟨_,rfl,cap,hR,hcm⟩,hb⟩
end Go.Proofs.YtelljijajgiabaaGreatDoor
namespace Rq
end Rq
namespace Go.Proofs.YtelljijajgiabaaGreatDoor
open Go.RowKit Go.Shelf
def Out (P:Prop) (q:Rat) (n d:List UInt8) (e:Int):Prop:=(e=0/\P/\Rq.Fq q/\LQ q n d)∨(e=40/\¬P/\n=[]/\d=[])
theorem PO {f:FuncId} {a b:Value} {q:Rat} {n d:List UInt8} (lq:LQ q n d) {w0:World} (h:aW f #[a,b] w0 (.tuple #[QV q,.int .i64 0])):aW f #[a,b] w0 (.tuple #[.agg #[.string ⟨n.toArray⟩,.string ⟨d.toArray⟩],.int .i64 0]):=by
 rw[lq.eq]at h;exact h
section
variable (a b:Rat) (ha:Rq.Fq a) (hb:Rq.Fq b)
include ha hb
theorem VT:∃(n d:List UInt8) (e:Int),Out (jY a b) (a+b) n d e/\∀w0,Env w0->aW 90 #[QV a,QV b] w0 (.tuple #[.agg #[.string ⟨n.toArray⟩,.string ⟨d.toArray⟩],.int .i64 e]):=by
 by_cases h:jY a b
 · obtain⟨n,d,lq⟩:=LQ.ex (a+b);refine ⟨n,d,0,.inl ⟨rfl,h,?_,lq⟩,fun w0 hE=>PO lq (Oq a b w0 hE ha hb h)⟩;rw [←Rq.TG];exact Rq.F9 (Int.mul_ne_zero (Rq.lQ a) (Rq.lQ b)) h.2.2.1 h.2.2.2
 · exact⟨[],[],40,.inr ⟨rfl,h,rfl,rfl⟩,fun w0 hE=>Oo a b w0 hE ha hb h⟩
end
def sn:Option Rat->List UInt8
 | some q=>Lib.itoa q.num
 | none=>[]
def sd:Option Rat->List UInt8
 | some q=>Lib.itoa (q.den:Int)
 | none=>[]
def eO:Option Rat->Int
 | some _=>0
 | none=>40
def VO (o:Option Rat):Value:=.agg #[.string ⟨(sn o).toArray⟩,.string ⟨(sd o).toArray⟩]
def OA (o:Option Rat):Prop:=∀q,o=some q->Rq.Fq q
noncomputable def UR (P:Rat->Rat->Prop) (f:Rat->Rat->Rat) (a b:Option Rat):Option Rat :=
 match a,b with
 | some x,some y=>@ite _ (P x y) (Classical.propDecidable _) (some (f x y)) none
 | _,_=>none
theorem uY {P:Rat->Rat->Prop} {f:Rat->Rat->Rat} {x y:Rat} (h:P x y):UR P f (some x) (some y)=some (f x y):=by unfold UR;exact if_pos h
theorem Qd {P:Rat->Rat->Prop} {f:Rat->Rat->Rat} {x y:Rat} (h:¬P x y):UR P f (some x) (some y)=none:=by unfold UR;exact if_neg h
theorem Gx {P:Rat->Rat->Prop} {f:Rat->Rat->Rat} {a b:Option Rat} {z:Rat} (h:UR P f a b=some z):∃x y,a=some x/\b=some y/\P x y/\z=f x y:=by
 cases a with
 | none=>cases h
 | some x =>
  cases b with
  | none=>cases h
  | some y =>
   by_cases hp:P x y
   · rw[uY hp]at h;exact ⟨x,y,rfl,rfl,hp,by cases h;rfl⟩
   · rw[Qd hp]at h;cases h
def AY (a b:Rat):Prop:=Ig.fits (a.num*b.num)/\Ig.fits ((a.den:Int)*b.den)
noncomputable def um:=UR jY (fun a b=>a+b)
theorem ok_none:Rq.okB (sn none) (sd none)=false:=Qg
theorem lens {o:Option Rat} (h:OA o):(sn o).length<=1000000/\(sd o).length<=1000000:=by
 cases o with
 | none=>exact⟨by decide,by decide⟩
 | some q=>exact⟨aV (h q rfl).num,aV (h q rfl).den⟩
theorem YF {f:FuncId} {P:Rat->Rat->Prop} {g:Rat->Rat->Rat}
 (hno:∀(a1 a2 b1 b2:List UInt8) (w:World),Env w->a1.length<=1000000->a2.length<=1000000->b1.length<=1000000->b2.length<=1000000->(Rq.okB a1 a2=false∨Rq.okB b1 b2=false)->aW f #[.agg #[.string ⟨a1.toArray⟩,.string ⟨a2.toArray⟩],.agg #[.string ⟨b1.toArray⟩,.string ⟨b2.toArray⟩]] w (.tuple #[QZ,.int .i64 40]))
 (hout:∀a b:Rat,Rq.Fq a->Rq.Fq b->∃(n d:List UInt8) (e:Int),Out (P a b) (g a b) n d e/\∀w0,Env w0->aW f #[QV a,QV b] w0 (.tuple #[.agg #[.string ⟨n.toArray⟩,.string ⟨d.toArray⟩],.int .i64 e]))
 (a b:Option Rat) (ha:OA a) (hb:OA b):OA (UR P g a b)/\∀w0,Env w0->aW f #[VO a,VO b] w0 (.tuple #[VO (UR P g a b),.int .i64 (eO (UR P g a b))]):=by
 have la:=lens ha;have lb:=lens hb
 cases a with
 | none=>exact⟨(fun q h=>by cases h),fun w0 hE=>hno _ _ _ _ w0 hE la.1 la.2 lb.1 lb.2 (.inl ok_none)⟩
 | some x =>
  cases b with
  | none=>exact⟨(fun q h=>by cases h),fun w0 hE=>hno _ _ _ _ w0 hE la.1 la.2 lb.1 lb.2 (.inr ok_none)⟩
  | some y =>
   obtain⟨n,d,e,ho,hc⟩:=hout x y (ha x rfl) (hb y rfl)
   rcases ho with ⟨rfl,hp,hf,lq⟩|⟨rfl,hp,rfl,rfl⟩
   · rw[uY hp];refine ⟨fun q h=>by cases h;exact hf,fun w0 hE=>?_⟩;have:=hc w0 hE;rw [←lq.eq]at this;exact this
   · rw[Qd hp];exact ⟨(fun q h=>by cases h),fun w0 hE=>hc w0 hE⟩
section
variable (a b:Option Rat) (ha:OA a) (hb:OA b)
include ha hb
theorem IC:OA (um a b)/\∀w0,Env w0->aW 90 #[VO a,VO b] w0 (.tuple #[VO (um a b),.int .i64 (eO (um a b))]) :=
 YF (fun a1 a2 b1 b2 w hE h1 h2 h3 h4 h=>TN a1 a2 b1 b2 w hE h1 h2 h3 h4 h) (fun x y hx hy=>VT x y hx hy) a b ha hb
end
end Go.Proofs.YtelljijajgiabaaGreatDoor

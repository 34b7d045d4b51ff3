import Derived.Test.YtelljijajgiabaaGreatDoorQ07
import Derived.RangeFuncFrom
import Derived.RangeFuncWrites
import Derived.Deep.WholeRow
set_option linter.unusedVariables false
set_option linter.unusedSimpArgs false
set_option maxRecDepth 100000
set_option maxHeartbeats 8000000
namespace Go.Proofs.YtelljijajgiabaaGreatDoor
open Go.RowKit Go.Shelf
attribute [local go_sem] Oper.semAt_some
def rowC (f:Nat->List UInt8):Array Value:=((List.range 101).map fun k=>Value.string ⟨(f k).toArray⟩).toArray
theorem rowC_size (f:Nat->List UInt8):(rowC f).size=101:=by simp[rowC]
theorem rowC_get (f:Nat->List UInt8) {k:Nat} (h:k<101):(rowC f)[k]? = some (.string ⟨(f k).toArray⟩):=by
 simp[rowC,h]
theorem rowC_set (f:Nat->List UInt8) {k:Nat} (h:k<101) (s:List UInt8):(rowC f).setIfInBounds k (.string ⟨s.toArray⟩)=rowC (fun j=>if j=k then s else f j):=by
 apply Array.ext
 · simp[rowC]
 · intro i h1 h2;simp only[rowC,List.setIfInBounds_toArray,List.getElem_toArray,List.getElem_set,List.getElem_map,List.getElem_range];by_cases e:k=i
   · subst e;simp
   · rw[if_neg e,if_neg (fun h=>e h.symm)]
theorem rowC_one (f:Nat->List UInt8):(rowC f).all (·.oneCell')=true:=by
 rw[Array.all_eq_true_iff_forall_mem];intro v hv;simp only[rowC,List.mem_toArray,List.mem_map]at hv;obtain ⟨k,-,rfl⟩:=hv;rfl
theorem tri_under:Tryz.prog.underlying 180=some (.array 101 9):=by kernel_rfl
theorem tri_size:(Tryz.prog.info? 180).map (·.size)=some 101:=by kernel_rfl
theorem row_load {W:World} {g:Nat} {t:TypeId} (f:Nat->List UInt8) (hB:Bx W g t (rowC f)):(Instr.loadAt 180 (.pointer (some ⟨g,0,none⟩))).run Tryz.prog W=.ok (.agg (rowC f)) W:=by
 simp only[Instr.loadAt,Instr.sureAddr,Sem.run_bind,Sem.run_pure,Result.andThen];exact run_loadVar_row W g t _ _ (0,0) _ hB tri_under rfl (by rw[rowC_size];exact tri_size)
theorem row_store {W:World} {g:Nat} {t:TypeId} {old:Array Value} (f:Nat->List UInt8) (hB:Bx W g t old) (ho:old.size=101):(Instr.storeAt 180 (.pointer (some ⟨g,0,none⟩)) (.agg (rowC f))).run Tryz.prog W=.ok () (W.setRow g (rowC f)):=by
 simp only[Instr.storeAt,Instr.sureAddr,Sem.run_bind,Sem.run_pure,Result.andThen];exact run_storeVar_row W g t _ old _ hB (by rw[rowC_size];exact tri_size) (by rw[rowC_size];exact ho) (rowC_one f)
theorem wpIn_row_load {F:Fence} {n:Nat} {o:Oper} {a:Act} {w:World} {K:Act->World->Prop} {Q:Exit->Act->World->Prop} (hF:∀f,F.fn f) {x:Operand} (ho:o.op=.load 180 x) {g:Nat} (hx:a.eval x=.pointer (some ⟨g,0,none⟩)) {t:TypeId} {f:Nat->List UInt8}
 (hB:Bx w g t (rowC f)) (h:K (a.put o.dst (.agg (rowC f))) w):o.wpIn F n Tryz.prog a w K Q:=by
 refine⟨fun f _=>hF f,?_⟩;rw [Oper.semAt_plain _ _ _ (by rw[ho];intro c h;cases h)]
 unfold execOp
 simp only[ho,hx,row_load f hB,Sem.run_bind,Sem.run_pure,Result.andThen_ok];exact h
theorem wpIn_row_store {F:Fence} {n:Nat} {o:Oper} {a:Act} {w:World} {K:Act->World->Prop} {Q:Exit->Act->World->Prop} (hF:∀f,F.fn f) {x y:Operand} (ho:o.op=.store 180 x y) {g:Nat} (hx:a.eval x=.pointer (some ⟨g,0,none⟩)) {t:TypeId} {old:Array Value} {f:Nat->List UInt8}
 (hy:a.eval y=.agg (rowC f)) (hB:Bx w g t old) (hs:old.size=101) (h:K (a.put o.dst undef) (w.setRow g (rowC f))):o.wpIn F n Tryz.prog a w K Q:=by
 refine⟨fun f _=>hF f,?_⟩;rw [Oper.semAt_plain _ _ _ (by rw[ho];intro c h;cases h)]
 unfold execOp
 simp only[ho,hx,hy,row_store f hB hs,Sem.run_bind,Sem.run_pure,Result.andThen_ok];exact h
theorem bx_setRow {W:World} {g:Nat} {t:TypeId} {old:Array Value} (hB:Bx W g t old) (cs:Array Value):Bx (W.setRow g cs) g t cs:=by
 unfold Bx at *
 show (W.heap.modify g _)[g]? = _
 rw[Array.getElem?_modify,if_pos rfl,hB];rfl
theorem setRow_other {W:World} {g:Nat} (cs:Array Value) {k:Nat} (h:k≠g):(W.setRow g cs).heap[k]? = W.heap[k]? := by
 show (W.heap.modify g _)[k]? = _
 rw[Array.getElem?_modify,if_neg (fun e=>h e.symm)]
theorem below_setRow {B g:Nat} (W:World) (cs:Array Value) (h:B<=g):Below B W (W.setRow g cs) :=
 ⟨rfl,rfl,rfl,by show W.heap.size<=(W.heap.modify g _).size;simp,fun k hk=>setRow_other cs (by omega)⟩
def pt (n k:Nat):List UInt8:=Lib.itoa (Tb.ch n k:Int)
theorem pt_over {n k:Nat} (h:n<k):pt n k=Lib.itoa 0:=by unfold pt;rw[Tb.ch_over h];rfl
def mixT (n k:Nat) (j:Nat):List UInt8:=if k<j then pt (n+1) j else pt n j
theorem mix_start (n:Nat):mixT n (n+1)=pt n:=by
 funext j
 unfold mixT
 split
 · rw[pt_over (by omega),pt_over (by omega)]
 · rfl
theorem mix_end (n:Nat):mixT n 0=pt (n+1):=by
 funext j
 unfold mixT
 split
 · rfl
 · have:j=0:=by omega
   subst this
   unfold pt
   rw[Tb.ch_zero,Tb.ch_zero]
theorem mix_step (n k:Nat) (hk:0<k):(fun j=>if j=k then pt (n+1) k else mixT n k j)=mixT n (k-1):=by
 funext j
 unfold mixT
 by_cases e:j=k
 · subst e;rw[if_pos rfl,if_pos (by omega)]
 · rw[if_neg e];by_cases h:k<j
   · rw[if_pos h,if_pos (by omega)]
   · rw[if_neg h,if_neg (by omega)]
theorem pt_sum (n k:Nat):Ix (Tb.ch n k:Int) (pt n k):=⟨rfl⟩
theorem zero_row:(fun k=>if k=0 then Lib.itoa 1 else Lib.itoa 0)=pt 0:=by
 funext k
 cases k with
 | zero=>rfl
 | succ k=>rw[pt_over (by omega)];rfl
def rwA (x:Fin 101):Array Value:=#[.int .i64 (x.1:Int),.agg (rowC (pt x.1))]
theorem fin_take {n:Nat} (h:n<101):(List.finRange 101).take (n+1)=(List.finRange 101).take n++[⟨n,h⟩]:=by
 rw[List.take_succ_eq_append_getElem (by simpa using h)]
 congr 2
 simp[List.getElem_finRange]
theorem zc_size:(Tryz.zeroCells180).size=101:=by kernel_rfl
theorem cells_row {cs:Array Value} (hs:cs.size=101) {f:Nat->List UInt8} (h:∀j,j<101->cs[j]? = some (.string ⟨(f j).toArray⟩)):cs=rowC f:=by
 apply Array.ext
 · rw[hs,rowC_size]
 · intro i h1 h2;have e1:=h i (by omega);have e2:=rowC_get f (k:=i) (by omega);rw [Array.getElem?_eq_getElem h1]at e1;rw [Array.getElem?_eq_getElem h2]at e2;exact Option.some.inj (e1.trans e2.symm)
theorem rows_seq (n:Nat) (hn:1<=n) (w0:World) (hE0:Env w0):SeqC n Tryz.prog 218 #[] rwA (fun ys=>ys=List.finRange 101) 101 w0:=by
 intro l J Jx W hW hJ hJx hJw hY hj0;refine callsIn_of_wp Tryz.func218 rfl trivial ?_ rfl;simp only[Tryz.ntmps218,List.size_toArray,List.length_cons,List.length_nil,Nat.reduceAdd,Nat.reduceSub,Array.replicate_succ,Array.replicate_zero,List.push_toArray,List.append_toArray,List.nil_append,List.cons_append];have hbA:=bNewW W (.cells Tryz.zeroCells180 180);have BA:=Bx.mk W 180 Tryz.zeroCells180;have hz:=zc_size
 gi_wp2_with fail
 generalize Tryz.zeroCells180=zc at *
 gi_loopw [6] (fun s6 wr=>∃(k:Nat) (cs:Array Value),s6=.int .i64 k/\k<=101/\cs.size=101/\Kp (∀j,j<k->cs[j]? = some (.string ⟨(Lib.itoa 0).toArray⟩))/\Bx wr W.heap.size 180 cs/\Below W.heap.size W wr) (fun s6 _=>101-(intOf s6).toNat)
 case atStart=>exact⟨0,zc,rfl,by omega,hz,⟨fun j hj=>by omega⟩,BA,hbA⟩
 case round =>
  clear BA hbA hz;obtain ⟨k,cs,rfl,hk,hcs,hz,hB,hb⟩:=hrel;by_cases hlt:k<101
  · have t0:decide ((k:Int)<101)=true:=by simp;omega
    obtain⟨v,hv⟩:∃v,cs[k]? = some v:=⟨cs[k],Array.getElem?_eq_getElem (by omega)⟩
    have c0:=hB.cell k hv;have f0:=hB.frozen k;have hB2:=hB.set k (.string { data:=#[48] });have hb2:=bSet hb (p:=⟨W.heap.size,k,none⟩) (Nat.le_refl _) (.string { data:=#[48] })
    have hz2:Kp (∀j,j<k+1->(cs.setIfInBounds k (.string { data:=#[48] }))[j]? = some (.string ⟨(Lib.itoa 0).toArray⟩)):=⟨fun j hj=>by
     rw[Array.getElem?_setIfInBounds];by_cases e:k=j
     · rw[if_pos e,if_pos (by omega),itoa_0]
     · rw[if_neg e];exact hz.out j (by omega)⟩
    have hs2:(cs.setIfInBounds k (.string { data:=#[48] })).size=101:=by rw[Array.size_setIfInBounds];exact hcs
    clear hz hv hB hb hY hJ hJx hJw
    gi_wp2
    go_roundw
    case rel=>exact⟨k+1,_,by go_num,by omega,hs2,hz2,hB2,hb2⟩
    case measure=>simp[intOf];omega
  · obtain rfl:k=101:=by omega
    have e1:=cells_row hcs (f:=fun _=>Lib.itoa 0) hz.out;subst e1;have c0:=hB.cell 0 (rowC_get _ (by decide));have f0:=hB.frozen 0;have hB2:=hB.set 0 (.string { data:=#[49] });have hb2:=bSet hb (p:=⟨W.heap.size,0,none⟩) (Nat.le_refl _) (.string { data:=#[49] })
    have e2:(rowC (fun _=>Lib.itoa 0)).setIfInBounds 0 (.string { data:=#[49] })=rowC (pt 0):=by
     rw[show ({ data:=#[49] }:ByteArray)=⟨(Lib.itoa 1).toArray⟩ by rw[show Lib.itoa 1=[49] by decide +kernel],rowC_set _ (by decide),zero_row]
    rw[e2]at hB2;clear hB hb hz hcs e2
    gi_wp2_with fail
    generalize wr.setCell ⟨W.heap.size,0,none⟩ (.string { data:=#[49] })=W1 at *;have hj1:=hJ _ _ _ hj0 hb2;have hs1:=hb2.size;clear hb2 c0 f0 hj0;rw [show ((101:Nat):Int)=101 from rfl]
    gi_loopw [4] (fun s4 wr=>∃k:Nat,s4=.int .i64 k/\k<=101/\(k<101->Bx wr W.heap.size 180 (rowC (pt k)))/\J ((List.finRange 101).take k) wr/\W.heap.size<=wr.heap.size) (fun s4 _=>101-(intOf s4).toNat)
    case atStart=>exact⟨0,rfl,by omega,fun _=>hB2,hj1,hs1⟩
    case round =>
     clear hB2 hj1 hs1;obtain ⟨k,rfl,hk,hB,hj,hsz⟩:=hrel;by_cases hlt:k<101
     · have t0:decide ((k:Int)<101)=true:=by simp;omega
       replace hB:=hB hlt;have hltK:Kp (k<101):=⟨hlt⟩
       have hfr:=fun Y (h:Fr W.heap.size wr Y)=>h.keep _ _ (Nat.le_refl _) hB
       obtain⟨fn,tmps,assign,body,hy,hR⟩:=hY _ ⟨k,hlt⟩ wr hj (by rw[List.length_take,List.length_finRange];omega);rw [←fin_take hlt]at hR;simp only[rwA]at hy;clear hY hj
       gi_wp2_with (refine wpIn_row_load (fun _=>trivial) rfl rfl hB ?_)
       refine hR.mono ?_;rintro e W3 (⟨rfl,hJ3,hk3⟩|⟨rfl,hJx3⟩)
       · have B3:Bx W3 W.heap.size 180 (rowC (pt k)):=hfr W3 hk3;have hs3:=Nat.le_trans hsz hk3.size;clear hfr hR hy hB
         gi_wp2_with fail
         gi_loopw [5] (fun s5 wr=>∃m:Nat,s5=.int .i64 m/\m<=k+1/\Bx wr W.heap.size 180 (rowC (mixT k m))/\J ((List.finRange 101).take (k+1)) wr/\W.heap.size<=wr.heap.size) (fun s5 _=>(intOf s5).toNat)
         case atStart=>exact⟨k+1,by go_num,by omega,by rw[mix_start];exact B3,hJ3,hs3⟩
         case round =>
          clear B3 hJ3 hs3;obtain ⟨m,rfl,hm,hB,hj,hsz⟩:=hrel;by_cases hin:0<m/\m<101
          · obtain⟨p,rfl⟩:∃p,m=p+1:=⟨m-1,by omega⟩
            have hp:p<100:=by omega
            have hcast:((p+1:Nat):Int)-1=(p:Int):=by omega
            have t1:decide ((p:Int)+1 > 0)=true:=by simp <;> omega
            have t2:decide ((p:Int)+1<101)=true:=by simp;omega
            have hEr:=hE0.below (hJw _ _ hj);have x1:=fun d os=>(hB.again d os).cell (p+1) (rowC_get _ (by omega))
            have x2:=fun d os=>(hB.again d os).cell p (rowC_get _ (by omega))
            have e1:mixT k (p+1) (p+1)=pt k (p+1):=by unfold mixT;rw[if_neg (by omega)]
            have e2:mixT k (p+1) p=pt k p:=by unfold mixT;rw[if_neg (by omega)]
            rw[e1]at x1;rw [e2]at x2;have kp:=fun d os=>plus_s (Sort.grow (redrawn wr d) os) (pt_sum k (p+1)) (pt_sum k p) (pt_sum (k+1) (p+1)) ⟨by rw[Tb.ch_succ,Int.natCast_add,Int.add_comm]⟩ (Tb.ch_sz (by omega) _) (Tb.ch_sz (by omega) _) (Tb.ch_sz (by omega) _) (by decide) (by decide) (by decide) (hEr.below (below_regrown wr d os))
            have hms:=mix_step k (p+1) (by omega);rw [Nat.add_sub_cancel]at hms;replace hms:=Kp.mk hms;generalize pt k (p+1)=sa at *;generalize pt k p=sb at *;generalize pt (k+1) (p+1)=sc at *
            gi_wp2_with fail
            refine wpIn_wide.2 ?_;refine wp_region_below_tail 10 (by kernel_rfl) (by kernel_rfl) ?_;simp only[List.take,List.drop]
            repeat (go_big_quiet_step (first|(go_at_call 193;with_reducible exact Calls.regrown_of (kp _ _))))
            refine wpQuiet_nil ?_;rintro _ ⟨z,rfl⟩;have hbz:=below_regrown wr z.d z.os;have hBz:=hB.again z.d z.os;have hjz:=hJ _ _ _ hj (hbz.mono hsz);have hsz2:=Nat.le_trans hsz hbz.size;clear x1 x2 kp hbz hB hj hsz hEr;generalize Sort.grow (redrawn wr z.d) z.os=W2 at *;have c0:=hBz.cell (p+1) (rowC_get _ (by omega));have f0:=hBz.frozen (p+1);have B2:=hBz.set (p+1) (.string ⟨sc.toArray⟩);rw [rowC_set _ (by omega),hms.out]at B2;have hj2:=hJ _ _ _ hjz ((Below.refl W.heap.size W2).setCell (p:=⟨W.heap.size,p+1,none⟩) (Nat.le_refl _) (.string ⟨sc.toArray⟩));have hs2:W.heap.size<=(W2.setCell ⟨W.heap.size,p+1,none⟩ (.string ⟨sc.toArray⟩)).heap.size:=Nat.le_trans hsz2 ((Below.refl W.heap.size W2).setCell (p:=⟨W.heap.size,p+1,none⟩) (Nat.le_refl _) (.string ⟨sc.toArray⟩)).size;clear hBz hjz hsz2;go_wp2_with fail
            gi_wp2_with fail
            go_roundw
            case rel=>exact⟨p,by go_num,by omega,B2,hj2,hs2⟩
            case measure=>simp[intOf] <;> omega
          · have hend:k+1<101->Bx wr W.heap.size 180 (rowC (pt (k+1))):=fun h=>by
             obtain rfl:m=0:=by omega
             rw[mix_end]at hB;exact hB
            rcases (show m=0∨m=101 by omega) with rfl|rfl
            · clear hB;have hltA:=hltK.out;have hwr:IntKind.i64.wrap ((k:Int)+1)=(k:Int)+1:=IntWalk.i64_in _ ⟨by omega,by omega⟩
              gi_wp2_with (refine ⟨fun _ _=>trivial,?_⟩)
              go_roundw
              case rel=>exact⟨k+1,by go_num,by omega,hend,hj,hsz⟩
              case measure=>simp[intOf] <;> omega
            · clear hB;have hltA:=hltK.out;have hwr:IntKind.i64.wrap ((k:Int)+1)=(k:Int)+1:=IntWalk.i64_in _ ⟨by omega,by omega⟩
              gi_wp2_with (refine ⟨fun _ _=>trivial,?_⟩)
              go_roundw
              case rel=>exact⟨k+1,by go_num,by omega,hend,hj,hsz⟩
              case measure=>simp[intOf] <;> omega
       · gi_wp2_with (refine ⟨fun _ _=>trivial,?_⟩)
         go_end0
         exact⟨⟨_,rfl⟩,.inr ⟨_,hJx3⟩⟩
     · obtain rfl:k=101:=by omega
       rw[List.take_of_length_le (by simp)]at hj;clear hY;have t0:decide (((101:Nat):Int)<101)=false:=by decide
       gi_wp2_with (refine ⟨fun _ _=>trivial,?_⟩)
       go_end0
       exact⟨⟨_,rfl⟩,.inl ⟨_,rfl,hj⟩⟩
attribute [local go_sem] Oper.semAt_some
theorem rows_in (n:Nat) (w:World):CallsIn Fence.wide n Tryz.prog 192 #[] w fun e w'=>e=.returned (.func (.func 218) #[] #[])/\w'=w:=by
 refine callsIn_of_wp Tryz.func192 rfl trivial ?_ rfl;simp only[Tryz.ntmps192,List.size_toArray,List.length_cons,List.length_nil,Nat.reduceAdd,Nat.reduceSub,Array.replicate_succ,Array.replicate_zero,List.push_toArray,List.append_toArray,List.nil_append,List.cons_append]
 gi_wp2
 go_ret;exact ⟨rfl,rfl⟩
theorem pascal_any (k:Nat) (w:World) (hk:k<=100) (hE:Env w) :
 Calls Tryz.prog 153 #[.int .i64 k] w fun e w'=>e=.returned (.agg (rowC (pt k)))/\Below w.heap.size w w':=by
 refine (callsIn_wide (n:=3)).1 ?_;refine callsIn_of_wp_marks Tryz.func153 rfl trivial ?_ rfl;simp only[Tryz.ntmps153,List.size_toArray,List.length_cons,List.length_nil,Nat.reduceAdd,Nat.reduceSub,Array.replicate_succ,Array.replicate_zero,List.push_toArray,List.append_toArray,List.nil_append,List.cons_append];have hb0:=bNew (bNewW w (.cells #[.int .i64 k] 3)) (.cells Tryz.zeroCells180 180);have B1:=(Bx.mk w 3 #[.int .i64 k]).new (.cells Tryz.zeroCells180 180);have B2:=Bx.mk (w.alloc (.cells #[.int .i64 k] 3)) 180 Tryz.zeroCells180;rw [alloc_size]at B2;have hz:=zc_size
 gi_wp2_with (refine ⟨trivial,?_⟩;gi_at_call 192;refine (rows_in _ _).mono ?_;rintro e w' ⟨rfl,rfl⟩)
 generalize Tryz.zeroCells180=zc at *
 refine wpIn_range_c (by decide) (gf:=218) (lb:=#[]) rfl (enters_of Tryz.func218 (by kernel_rfl) rfl) (rows_seq 2 (by decide) w hE) hb0 (fun _=>rfl)
  (fun pre X=>Below w.heap.size w X/\Bx X w.heap.size 3 #[.int .i64 k]/\Bx X (w.heap.size+1) 180 zc/\∀y∈pre,y.1≠k)
  (fun _ X=>Below w.heap.size w X/\Bx X (w.heap.size+1) 180 (rowC (pt k)))
  (fun s X Y h hb=>?_) (fun s X Y h hb=>?_) (fun s X h=>h.1) ⟨hb0,B1,B2,fun y hy=>by cases hy⟩
  (fun x a' X=>∃g,a'={ tmps:=#[.int .i64 k,.pointer (some ⟨w.heap.size,0,none⟩),.pointer (some ⟨w.heap.size+1,0,none⟩),.int .i64 (x.1:Int),.pointer (some ⟨g,0,none⟩),.func (.func 218) #[] #[],.int .i64 (x.1:Int),.agg (rowC (pt x.1)),undef,undef,undef,undef,undef],defers:=[] }/\Bx X g 180 (rowC (pt x.1)))
  (fun x a' X l o o' h ho hc=>?_) ?assign ?body ?done ?stop
 · have hs:((w.alloc (.cells #[.int .i64 k] 3)).alloc (.cells zc 180)).heap.size=w.heap.size+2:=by rw[alloc_size,alloc_size]
   rw[hs]at hb;exact ⟨h.1.trans (hb.mono (by omega)),h.2.1.below hb (by omega),h.2.2.1.below hb (by omega),h.2.2.2⟩
 · have hs:((w.alloc (.cells #[.int .i64 k] 3)).alloc (.cells zc 180)).heap.size=w.heap.size+2:=by rw[alloc_size,alloc_size]
   rw[hs]at hb;exact ⟨h.1.trans (hb.mono (by omega)),h.2.below hb (by omega)⟩
 · obtain⟨g,e,hB⟩:=h;refine ⟨g,e,(World.putObj_heap_other ?_).trans hB⟩;rintro rfl;rw [show X.heap[g]? = _ from hB]at ho;cases ho;cases hc
 case assign =>
  intro l x W K hK;simp only[rwA];have B3:=Bx.mk W 180 Tryz.zeroCells180
  gi_wp2_with (refine wpIn_row_store (fun _=>trivial) rfl rfl rfl B3 zc_size ?_)
  exact hK _ _ ((bNewW W _).trans (below_setRow _ _ (Nat.le_refl _))) ⟨_,rfl,bx_setRow B3 _⟩
 case body =>
  rintro l pre x a' W ⟨hb,hB1,hB2,hpre⟩ ⟨g,rfl,hB⟩ hlen;have c0:=hB1.cell 0 rfl;by_cases hx:x.1=k
  · have hx2:(x.1:Int)=(k:Int):=by omega
    rw[hx]at hB;rw [hx]
    have hfin:Fr ((w.alloc (.cells #[.int .i64 k] 3)).alloc (.cells zc 180)).heap.size W (W.setRow (w.heap.size+1) (rowC (pt k))):=by
     rw[alloc_size,alloc_size];exact ⟨by show W.heap.size<=(W.heap.modify _ _).size;simp,fun b o hbb ho=>(setRow_other _ (by omega)).trans ho⟩
    have hbl:Below w.heap.size w (W.setRow (w.heap.size+1) (rowC (pt k))):=hb.trans (below_setRow _ _ (by omega))
    gi_wp2_with (first|(refine wpIn_row_load (fun _=>trivial) rfl rfl hB ?_)|(refine wpIn_row_store (fun _=>trivial) rfl rfl rfl hB2 hz ?_))
    exact⟨hfin,hbl,bx_setRow hB2 _⟩
  · have hx2:((x.1:Int)==(k:Int))=false:=by simp;omega
    gi_wp2
    refine⟨Fr.below (bStart _),hb,hB1,hB2,fun y hy=>?_⟩
    rcases List.mem_append.1 hy with hy|hy
    · exact hpre y hy
    · rw[List.mem_singleton.1 hy];exact hx
 case done =>
  rintro D xs W hD rfl ⟨_,_,_,hno⟩ _;exact absurd rfl (hno ⟨k,by omega⟩ (List.mem_finRange _))
 case stop =>
  rintro D pre W hD ⟨hb,hB⟩ hDD;rw [alloc_size,alloc_size]at hD
  gi_wp2
  refine⟨by simp,.inl ⟨_,_,rfl,run_takeDeferred hDD,?_⟩⟩;have hB9:Bx (W.putObj D (.deferred none)) (w.heap.size+1) 180 (rowC (pt k)):=(World.putObj_heap_other (by omega)).trans hB;exact ⟨_,results_cell_row rfl _ _ (w.heap.size+1) _ (rowC (pt k)) (0,0) _ rfl hB9 tri_under rfl (by rw[rowC_size];exact tri_size),rfl,hb.trans (below_put (by omega) hDD)⟩
open Go.RowKit
def looksG (ops:Array Oper) (n:Nat):Bool :=
 (List.range n).all fun i=>match ops[i]? with
  | none=>true
  | some o=>(match o.op with|.select ..=>false|_=>true) &&
   (o.looksAt ops).all fun t=>(List.range ops.size).all fun j=>match ops[j]? with|some oj=>oj.dst != some t||decide (j<i)||decide (n<=j)|none=>true
theorem wanted_same {ops:Array Oper} {o:Oper} {a b:Act} (hsz:a.tmps.size=b.tmps.size) (h:∀t∈o.looksAt ops,a.tmps.getD t undef=b.tmps.getD t undef):Region.wanted o (yielded ops a.tmps)=Region.wanted o (yielded ops b.tmps):=by
 unfold Region.wanted
 cases hg:o.guard with
 | none=>rfl
 | some g =>
  obtain⟨j,want⟩:=g;simp only
  congr 1
  unfold yielded
  cases hd:(ops[j]?).bind (·.dst) with
  | none=>rfl
  | some t =>
   have ht:t∈o.looksAt ops:=by
    unfold Oper.looksAt
    rw[hg];simp [hd]
   have h1:=h t ht;simp only[Option.bind_some];by_cases hlt:t<a.tmps.size
   · have hlt':t<b.tmps.size:=hsz ▸ hlt;simp only[Array.getD_eq_getD_getElem?,Array.getElem?_eq_getElem hlt,Array.getElem?_eq_getElem hlt',Option.getD_some]at h1;rw [Array.getElem?_eq_getElem hlt,Array.getElem?_eq_getElem hlt',h1]
   · rw[Array.getElem?_eq_none (Nat.le_of_not_lt hlt),Array.getElem?_eq_none (Nat.le_of_not_lt (hsz ▸ hlt))]
section
variable {P:Program} {ops:Array Oper} {R:Nat->Value->World->Prop} {w0:World} {a0:Act} {Q:Exit->Act->World->Prop}
theorem step_of_userG {n i:Nat} {o:Oper} (hok:okRG ops a0.tmps.size=true) (hlk:looksG ops n=true) (hi:i<n) (hin:n<=ops.size) (ho:ops[i]? = some o) (h:UserRG P ops R w0 a0 i o):StepRG P ops n R w0 a0 Q i o:=by
 intro a w hb hsame hdeps;have h1:=List.all_eq_true.1 hlk i (List.mem_range.2 hi);simp only[ho,Bool.and_eq_true]at h1;obtain ⟨hsel,hl⟩:=h1;have hu:=h (slotV ops a) w hb (AllE_of _ fun e he hbd=>hdeps e (by simpa using he) hbd)
 have hslots:∀t∈o.looksAt ops,(seen ops (slotV ops a) i a0).tmps.getD t undef=a.tmps.getD t undef:=fun t ht=>by
  have h2:=List.all_eq_true.1 hl t ht;refine seen_slot (Nat.le_of_lt hi) hok hsame fun j oj hj hd=>?_
  have h3:=List.all_eq_true.1 h2 j (List.mem_range.2 (Array.getElem?_eq_some_iff.1 hj).1);simpa [hj,hd] using h3
 have hsz:=putAll_size (slotV ops a) (ops.toList.take i) 0 a0;have hsz':(seen ops (slotV ops a) i a0).tmps.size=a.tmps.size:=by rw[seen,hsz.1,hsame.2.1]
 have hput:∀v,dstV o ((seen ops (slotV ops a) i a0).put o.dst v)=if o.dst.isSome then v else undef:=by
  intro v
  unfold dstV
  cases hd:o.dst with
  | none=>rfl
  | some d =>
   simp only[Option.isSome_some,if_true];rw [getD_put,if_pos ⟨rfl,by rw[seen,hsz.1];exact (okRG_spec hok ho).2.1 d hd⟩]
 simp only[wpList]at hu;rw [wanted_same hsz' hslots]at hu;by_cases hw:Region.wanted o (yielded ops a.tmps)=true
 · rw[if_pos hw]at hu ⊢
   have hexec:execOp a.eval o=execOp (seen ops (slotV ops a) i a0).eval o:=by
    refine execOp_congr o (fun cs b e=>by rw[e]at hsel;simp at hsel) fun x hx=>?_
    cases x with
    | tmp t=>exact (hslots t (List.mem_append_left _ (List.mem_filterMap.2 ⟨.tmp t,by simpa using hx,rfl⟩))).symm
    | _=>rfl
   rcases hu with hu|hu
   · unfold Oper.wp at hu ⊢
     rw[hexec];generalize (execOp (seen ops (slotV ops a) i a0).eval o).run P w=r at hu
     cases r with
     | halt x w'=>cases x <;> simp only[Oper.upon]at hu ⊢ <;> first|exact absurd hu.1 (by simp)|exact hu
     | ok nx w' =>
      cases nx <;> simp only[Oper.upon]at hu ⊢
      case value v=>exact⟨v,rfl,hu.2.2.1,by rw[←hput];exact hu.2.2.2⟩
      case skip=>exact⟨undef,rfl,hu.2.2.1,by rw[←hput];exact hu.2.2.2⟩
      case defer d =>
       exfalso
       have:=hu.2.1;have h9:=congrArg List.length this;cases hd:o.dst <;> simp[hd,Act.put,seen,hsz.2]at h9
      case enter f args =>
       refine Calls.mono hu fun e w'' he=>?_
       cases e with
       | returned v=>exact⟨v,rfl,he.2.2.1,by rw[←hput];exact he.2.2.2⟩
       | panicked c=>exact absurd he.1 (by simp)
       | outgrown=>exact (not_letsOut (R:=R i) he).elim
      case row s args=>exact Rows.mono hu fun v w'' he=>⟨v,rfl,he.2.2.1,by rw[←hput];exact he.2.2.2⟩
      all_goals exact hu.elim
   · exact (not_letsOut (R:=R i) hu.2).elim
 · rw[if_neg hw]at hu ⊢;have h9:=hu.2.2.2;rw [hput]at h9
   split at h9 <;> exact h9
end
def UsersG (P:Program) (ops:Array Oper) (ps:List (Value->World->Prop)) (w0:World) (a0:Act):List (Option Tmp)->List Oper->List (Value->World->Prop)->Prop
 | pre,o :: l,q :: qs=>(∀(vs:Nat->Value) (w:World),Below w0.heap.size w0 w->(∀j,depB o j=true->rel ps j (vs j) w) ->
  wpList P ops (fun e a' w'=>e=.normal/\a'.defers=a0.defers/\Below w.heap.size w w'/\q (dstV o a') w') [o] (putD vs 0 pre a0) w)/\UsersG P ops ps w0 a0 (pre++[o.dst]) l qs
 | _,_,_=>True
theorem UsersG.rg {P:Program} {ps:List (Value->World->Prop)} {w0:World} {a0:Act} {L:List Oper} {n:Nat} (hnp:n<=ps.length):∀(l:List Oper) (k:Nat),(∀j,l[j]? = (L.take n)[k+j]?)->UsersG P L.toArray ps w0 a0 ((L.take k).map (·.dst)) l (ps.drop k)->UsersRG P L.toArray (rel ps) w0 a0 k l
 | [],_,_,_=>trivial
 | o :: l,k,hl,h=>by
  have h0:(L.take n)[k]? = some o:=by simpa using (hl 0).symm
  obtain⟨hkn,hLo⟩:=take_get' h0;have hkp:k<ps.length:=by omega
  rw[List.drop_eq_getElem_cons hkp]at h;refine ⟨fun vs w hb hE=>?_,UsersG.rg hnp l (k+1) (fun j=>by have:=hl (j+1);simpa [Nat.add_assoc,Nat.add_comm 1 j] using this) ?_⟩
  · have hu:=h.1 vs w hb fun j hj=>by
     obtain⟨e,he,hej⟩:=List.any_eq_true.1 hj;simp only[Bool.and_eq_true,beq_iff_eq]at hej;have:=AllE_get _ hE e he hej.1
     rwa [hej.2]at this
    have hfr:seen L.toArray vs k a0=putD vs 0 ((L.take k).map (·.dst)) a0:=putAll_D vs _ 0 a0;rw [hfr];have hq:ps[k]=ps.getD k Anyv:=by simp[List.getD_eq_getElem?_getD,hkp]
    rw[hq]at hu;exact hu
  · have h2:=h.2
    have e1:(L.take k).map (·.dst)++[o.dst]=(L.take (k+1)).map (·.dst):=by
     rw[List.take_add_one,hLo];simp
    rw[e1]at h2;exact h2
def strC (s:List UInt8):List Value:=[.string ⟨s.toArray⟩]
theorem strC_len (s:List UInt8):(strC s).length=1:=rfl
theorem strI:∃i z,Tryz.prog.info? 9=some i/\i.zero=some z/\i.size=1/\z.cells.size=1/\i.bytes=16:=by
 have h:(Tryz.prog.info? 9).map (fun i=>(i.size,i.bytes,i.zero.map (·.cells.size)))=some (1,16,some 1):=by kernel_rfl
 cases hi:Tryz.prog.info? 9 with
 | none=>rw[hi]at h;cases h
 | some i =>
  rw[hi]at h;simp only[Option.map_some,Option.some.injEq,Prod.mk.injEq]at h;obtain ⟨h1,h2,h3⟩:=h
  cases hz:i.zero with
  | none=>rw[hz]at h3;cases h3
  | some z=>rw[hz]at h3;exact⟨i,z,rfl,hz,h1,by simpa using h3,h2⟩
theorem strsT:Tryz.prog.underlying 192=some (.slice 9):=by kernel_rfl
theorem wpList_append_strs {w:World} {ops:Array Oper} {rest:List Oper} {o:Oper} {a:Act} {Q:Exit->Act->World->Prop} (hgd:o.guard=none) (s y:Operand) (ho:o.op=.call { callee:=.builtin .append,args:=#[s,y],argTypes:=#[192,192] })
 (B cap n m:Nat) (flat news:List Value) (v x:Value) (hes:a.eval s=v) (hey:a.eval y=x) (hv:RowC 9 1 B cap n flat v w) (hB:B<=w.heap.size) (hs:Src Tryz.prog 1 192 x m news w) (hcm:cap<=maxLen) (h63:n+m<=2000000)
 (h:∀v' w' cap',Below B w w'->(n=cap->Below w.heap.size w w')->RowC 9 1 B cap' (n+m) (flat++news) v' w'->cap'<=maxLen->wpList Tryz.prog ops Q rest (a.put o.dst v') w'):wpList Tryz.prog ops Q (o :: rest) a w:=by
 obtain⟨i,z,hi,hz,hs1,hz1,hby⟩:=strI;exact wpList_append_row hgd s y _ _ ho i z 1 B cap n m flat news v x strsT hi hz hs1 hz1 hes hey hv hB hs hcm (by unfold maxLen;omega) (by rw[hby];omega) h
def pwl (a:Int) (n:Nat):List (List UInt8):=(List.range (n+1)).map fun j=>Lib.itoa (a ^ j)
theorem pwl_len (a:Int) (n:Nat):(pwl a n).length=n+1:=by simp[pwl]
theorem pwl_get (a:Int) {n k:Nat} (h:k<n+1):(pwl a n)[k]? = some (Lib.itoa (a ^ k)):=by simp[pwl,h]
theorem pwl_succ (a:Int) (n:Nat):pwl a (n+1)=pwl a n++[Lib.itoa (a ^ (n+1))]:=by
 unfold pwl;rw[List.range_succ,List.map_append];rfl
theorem powers_any (a:Int) (n:Nat) (w:World) (h0:0<=a) (h1:a<=1000) (hn:n<=50) (hE:Env w) :
 Calls Tryz.prog 189 #[.int .i64 a,.int .i64 n] w fun e w'=>(∃v,e=.returned v/\RowN 9 1 w.heap.size (n+1) ((pwl a n).flatMap strC) v w')/\Below w.heap.size w w':=by
 have hs0:Kp (pwl a 0=[[49]]):=⟨by simp[pwl,show Lib.itoa 1=[49] by decide +kernel]⟩
 have hb0:=bNewW w (.cells #[.string { data:=#[49] }] 9);have B0:=Bx.mk w 9 #[.string { data:=#[49] }]
 go_enter Tryz.func189,Tryz.ntmps189
 go_wp2_with fail
 go_loopw [5,8] (fun s5 s8 wr=>∃k:Nat,s8=.int .i64 k/\k<=n/\RowN 9 1 w.heap.size (k+1) ((pwl a k).flatMap strC) s5 wr/\Below w.heap.size w wr) (fun _ s8 _=>n-(intOf s8).toNat)
 case atStart=>exact⟨0,rfl,Nat.zero_le _,⟨1,⟨w.heap.size,_,rfl,Nat.le_refl _,Nat.le_refl _,B0,rfl,by rw[hs0.out];rfl⟩,by decide⟩,hb0⟩
 case round =>
  clear hs0 hb0 B0;obtain ⟨k,rfl,hk,⟨cap,hR,hcm⟩,hb⟩:=hrel;by_cases hlt:k<n
  · have t0:decide ((k:Int)<(n:Int))=true:=by simp;omega
    have hEr:=hE.below hb;have hR2:=hR;obtain ⟨g,cells,rfl,hg,hkc,hB,hcs,hfl⟩:=hR2;obtain ⟨sa,esa⟩:=Ix.ex a;obtain ⟨sk,esk⟩:=Ix.ex (a ^ k);obtain ⟨sn,esn⟩:=Ix.ex (a ^ (k+1))
    have hck:∀W,Below wr.heap.size wr W->W.cell? ⟨g,k,none⟩=some (.string ⟨sk.toArray⟩):=fun W hW=>by
     refine (hW.cell (p:=⟨g,k,none⟩) hB.lt).trans (hB.cell k ?_)
     have h2:(cells.toList.take ((k+1)*1))[k]? = some (.string ⟨sk.toArray⟩):=by
      rw[hfl];have:=flat_get (f:=strC) (size:=1) strC_len (pwl a k) k 0 _ (pwl_get a (by omega)) (by decide);rw [Nat.mul_one,Nat.add_zero]at this;rw [this,esk.out];rfl
     rw[List.getElem?_take,if_pos (by omega)]at h2;simpa using h2
    have hF:=fun w1 (hb1:Below wr.heap.size wr w1)=>FromInt_any a w1 (by omega) (by omega) (hEr.below hb1)
    rw[esa.out]at hF;have hT:=fun w1 (hb1:Below wr.heap.size wr w1)=>times_s w1 esk esa esn ⟨by rw[Int.pow_succ]⟩ (Tb.pow_sz h0 h1 k) (Tb.pow_sz h0 h1 1 |> fun h=>by rw[Int.pow_one]at h;exact h) (Tb.pow_sz h0 h1 (k+1)) (by omega) (by decide) (by omega) (hEr.below hb1)
    have hnx:Kp ((pwl a k).flatMap strC++[.string ⟨sn.toArray⟩]=(pwl a (k+1)).flatMap strC):=⟨by rw[pwl_succ,List.flatMap_append,esn.out];rfl⟩
    clear hfl hB esa esk esn hE hEr hcs;have hcast:((k+1:Nat):Int)-1=(k:Int):=by omega
    go_wp2;refine wp_region_rgl [Eqv (.slice (some ⟨g,0,none⟩) (k+1) cap),Eqv (.slice (some ⟨g,0,none⟩) (k+1) cap),Eqv (.slice (some ⟨g,0,none⟩) (k+1) cap),Eqv (.int .i64 ((k+1:Nat):Int)),Eqv (.int .i64 k),Eqv (.pointer (some ⟨g,k,none⟩)),Eqv (.string ⟨sk.toArray⟩),Eqv (.int .i64 a),Eqv (.string ⟨sa.toArray⟩),Eqv (.string ⟨sn.toArray⟩),RowC 9 1 wr.heap.size 1 1 [.string ⟨sn.toArray⟩]] 11 24 (by kernel_rfl) rfl rfl (by kernel_rfl) ?_ ?_ ?_
    · simp only[AllS]
      repeat' apply And.intro
      all_goals first|exact stab_eqv _|exact stab_rowC _ _ _ _ _ _|trivial
    · simp only[Users,List.take,List.length];refine ⟨?_,?_,?_,?_,?_,?_,?_,?_,?_,?_,?_,trivial⟩;all_goals (intro vs w1 hb1 hd;simp only[putD,Act.put,List.nil_append,List.cons_append,List.setIfInBounds_toArray,List.set_cons_succ,List.set_cons_zero,Nat.reduceAdd])
      · clear hd hF hT hck;go_wp2;exact⟨Below.refl _ _,rfl⟩
      · clear hd hF hT hck;go_wp2;exact⟨Below.refl _ _,rfl⟩
      · clear hd hF hT hck;go_wp2;exact⟨Below.refl _ _,rfl⟩
      · have h2:vs 2=_:=hd 2 rfl;clear hd hF hT hck;rw[h2];go_wp2;exact⟨Below.refl _ _,rfl⟩
      · have h3:vs 3=_:=hd 3 rfl;clear hd hF hT hck;rw[h3];go_wp2;exact⟨Below.refl _ _,rfl⟩
      · have h1:vs 1=_:=hd 1 rfl;have h4:vs 4=_:=hd 4 rfl;clear hd hF hT hck;rw[h1,h4];go_wp2;first|exact⟨Below.refl _ _,rfl⟩|exact⟨Below.refl _ _,by simp[Eqv]⟩
      · have h5:vs 5=_:=hd 5 rfl;have c1:=hck w1 hb1;clear hd hF hT hck;rw[h5];go_wp2;exact⟨Below.refl _ _,rfl⟩
      · clear hd hF hT hck;go_wp2;exact⟨Below.refl _ _,rfl⟩
      · have h7:vs 7=_:=hd 7 rfl;have hC:=hF w1 hb1;clear hd hF hT hck;rw[h7];go_wp2_with fail;refine hC.mono ?_;clear hC;rintro _ w9 ⟨rfl,hb9⟩;go_wp2;first|rfl|exact⟨hb9,rfl⟩
      · have h6:vs 6=_:=hd 6 rfl;have h8:vs 8=_:=hd 8 rfl;have hC:=hT w1 hb1;clear hd hF hT hck;rw[h6,h8];go_wp2_with fail;refine hC.mono ?_;clear hC;rintro _ w9 ⟨rfl,hb9⟩;go_wp2;first|rfl|exact⟨hb9,rfl⟩
      · have h9:vs 9=_:=hd 9 rfl;clear hd hF hT hck;rw[h9];go_wp2;exact ⟨(Below.refl _ _).alloc (Nat.le_refl _) _,_,_,rfl,hb1.size,Nat.le_refl _,Bx.mk _ _ _,rfl,rfl⟩
    · clear hF hT hck;intro vs w1 hb1 hRR;simp only[AllR,Eqv]at hRR;obtain ⟨e0,e1,e2,e3,e4,e5,e6,e7,e8,e9,e10,-⟩:=hRR;simp only[List.drop,List.take,List.map,putD,Act.put,List.setIfInBounds_toArray,List.set_cons_succ,List.set_cons_zero,Nat.reduceAdd];have hR1:=stab_rowC _ _ _ _ _ _ _ _ _ hR hb1;refine wpList_append_strs rfl (.tmp 10) (.tmp 20) rfl w.heap.size cap (k+1) 1 ((pwl a k).flatMap strC) [.string ⟨sn.toArray⟩] (vs 0) (vs 10) rfl rfl (by rw[e0];exact hR1) (Nat.le_trans hb.size hb1.size) (RowC.src (fun u hu=>by simp at hu;subst hu;rfl) strsT e10) hcm (by omega) ?_;intro v' w' cap' f1 f2 f3 f4;rw [hnx.out]at f3;have hbN:=(bCall hb hb1).trans f1;clear f1 f2 e0 e1 e2 e3 e4 e5 e6 e7 e8 e9 e10 hR hR1 hnx;go_wp2;exact ⟨⟨k+1,by go_num,by omega,⟨cap',f3,f4⟩,hbN⟩,by simp[intOf] <;> omega⟩
  · obtain rfl:k=n:=by omega
    have hR2:=hR;obtain ⟨g,cells,rfl,-,-,-,-,-⟩:=hR2;go_wp2;go_ret;exact ⟨⟨_,rfl,cap,hR,hcm⟩,hb⟩
end Go.Proofs.YtelljijajgiabaaGreatDoor
namespace Rq
end Rq
namespace Go.Proofs.YtelljijajgiabaaGreatDoor
open Go.RowKit Go.Shelf
def Out (P:Prop) (q:Rat) (n d:List UInt8) (e:Int):Prop:=(e=0/\P/\Rq.Fq q/\LQ q n d)∨(e=40/\¬P/\n=[]/\d=[])
theorem ret_cast {f:FuncId} {a b:Value} {q:Rat} {n d:List UInt8} (lq:LQ q n d) {w0:World} (h:Calls Tryz.prog f #[a,b] w0 fun e w'=>e=.returned (.tuple #[QV q,.int .i64 0])/\Below w0.heap.size w0 w'):Calls Tryz.prog f #[a,b] w0 fun e w'=>e=.returned (.tuple #[.agg #[.string ⟨n.toArray⟩,.string ⟨d.toArray⟩],.int .i64 0])/\Below w0.heap.size w0 w':=by
 rw[lq.eq]at h;exact h
section
variable (a b:Rat) (ha:Rq.Fq a) (hb:Rq.Fq b)
include ha hb
theorem Add_out:∃(n d:List UInt8) (e:Int),Out (fitAdd a b) (a+b) n d e/\∀w0,Env w0->Calls Tryz.prog 90 #[QV a,QV b] w0 fun e' w'=>e'=.returned (.tuple #[.agg #[.string ⟨n.toArray⟩,.string ⟨d.toArray⟩],.int .i64 e])/\Below w0.heap.size w0 w':=by
 by_cases h:fitAdd a b
 · obtain⟨n,d,lq⟩:=LQ.ex (a+b);refine ⟨n,d,0,.inl ⟨rfl,h,?_,lq⟩,fun w0 hE=>ret_cast lq (QAdd_good a b w0 hE ha hb h)⟩;rw [←Rq.add_is];exact Rq.red_fits (Int.mul_ne_zero (Rq.den_ne' a) (Rq.den_ne' b)) h.2.2.1 h.2.2.2
 · exact⟨[],[],40,.inr ⟨rfl,h,rfl,rfl⟩,fun w0 hE=>QAdd_over a b w0 hE ha hb h⟩
end
def sn:Option Rat->List UInt8
 | some q=>Lib.itoa q.num
 | none=>[]
def sd:Option Rat->List UInt8
 | some q=>Lib.itoa (q.den:Int)
 | none=>[]
def eO:Option Rat->Int
 | some _=>0
 | none=>40
def VO (o:Option Rat):Value:=.agg #[.string ⟨(sn o).toArray⟩,.string ⟨(sd o).toArray⟩]
def FqO (o:Option Rat):Prop:=∀q,o=some q->Rq.Fq q
noncomputable def opO (P:Rat->Rat->Prop) (f:Rat->Rat->Rat) (a b:Option Rat):Option Rat :=
 match a,b with
 | some x,some y=>@ite _ (P x y) (Classical.propDecidable _) (some (f x y)) none
 | _,_=>none
theorem opO_yes {P:Rat->Rat->Prop} {f:Rat->Rat->Rat} {x y:Rat} (h:P x y):opO P f (some x) (some y)=some (f x y):=by unfold opO;exact if_pos h
theorem opO_no {P:Rat->Rat->Prop} {f:Rat->Rat->Rat} {x y:Rat} (h:¬P x y):opO P f (some x) (some y)=none:=by unfold opO;exact if_neg h
theorem opO_some {P:Rat->Rat->Prop} {f:Rat->Rat->Rat} {a b:Option Rat} {z:Rat} (h:opO P f a b=some z):∃x y,a=some x/\b=some y/\P x y/\z=f x y:=by
 cases a with
 | none=>cases h
 | some x =>
  cases b with
  | none=>cases h
  | some y =>
   by_cases hp:P x y
   · rw[opO_yes hp]at h;exact ⟨x,y,rfl,rfl,hp,by cases h;rfl⟩
   · rw[opO_no hp]at h;cases h
noncomputable def addO:=opO fitAdd (fun a b=>a+b)
theorem ok_none:Rq.okB (sn none) (sd none)=false:=ok_empty
theorem lens {o:Option Rat} (h:FqO o):(sn o).length<=1000000/\(sd o).length<=1000000:=by
 cases o with
 | none=>exact⟨by decide,by decide⟩
 | some q=>exact⟨fits_small (h q rfl).num,fits_small (h q rfl).den⟩
theorem gen_op {f:FuncId} {P:Rat->Rat->Prop} {g:Rat->Rat->Rat}
 (hno:∀(a1 a2 b1 b2:List UInt8) (w:World),Env w->a1.length<=1000000->a2.length<=1000000->b1.length<=1000000->b2.length<=1000000->(Rq.okB a1 a2=false∨Rq.okB b1 b2=false)->Calls Tryz.prog f #[.agg #[.string ⟨a1.toArray⟩,.string ⟨a2.toArray⟩],.agg #[.string ⟨b1.toArray⟩,.string ⟨b2.toArray⟩]] w fun e w'=>e=.returned (.tuple #[QZ,.int .i64 40])/\Below w.heap.size w w')
 (hout:∀a b:Rat,Rq.Fq a->Rq.Fq b->∃(n d:List UInt8) (e:Int),Out (P a b) (g a b) n d e/\∀w0,Env w0->Calls Tryz.prog f #[QV a,QV b] w0 fun e' w'=>e'=.returned (.tuple #[.agg #[.string ⟨n.toArray⟩,.string ⟨d.toArray⟩],.int .i64 e])/\Below w0.heap.size w0 w')
 (a b:Option Rat) (ha:FqO a) (hb:FqO b):FqO (opO P g a b)/\∀w0,Env w0->Calls Tryz.prog f #[VO a,VO b] w0 fun e' w'=>e'=.returned (.tuple #[VO (opO P g a b),.int .i64 (eO (opO P g a b))])/\Below w0.heap.size w0 w':=by
 have la:=lens ha;have lb:=lens hb
 cases a with
 | none=>exact⟨(fun q h=>by cases h),fun w0 hE=>hno _ _ _ _ w0 hE la.1 la.2 lb.1 lb.2 (.inl ok_none)⟩
 | some x =>
  cases b with
  | none=>exact⟨(fun q h=>by cases h),fun w0 hE=>hno _ _ _ _ w0 hE la.1 la.2 lb.1 lb.2 (.inr ok_none)⟩
  | some y =>
   obtain⟨n,d,e,ho,hc⟩:=hout x y (ha x rfl) (hb y rfl)
   rcases ho with ⟨rfl,hp,hf,lq⟩|⟨rfl,hp,rfl,rfl⟩
   · rw[opO_yes hp];refine ⟨fun q h=>by cases h;exact hf,fun w0 hE=>?_⟩;have:=hc w0 hE;rw [←lq.eq]at this;exact this
   · rw[opO_no hp];exact ⟨(fun q h=>by cases h),fun w0 hE=>hc w0 hE⟩
section
variable (a b:Option Rat) (ha:FqO a) (hb:FqO b)
include ha hb
theorem addO_any:FqO (addO a b)/\∀w0,Env w0->Calls Tryz.prog 90 #[VO a,VO b] w0 fun e' w'=>e'=.returned (.tuple #[VO (addO a b),.int .i64 (eO (addO a b))])/\Below w0.heap.size w0 w' :=
 gen_op (fun a1 a2 b1 b2 w hE h1 h2 h3 h4 h=>QAdd_not a1 a2 b1 b2 w hE h1 h2 h3 h4 h) (fun x y hx hy=>Add_out x y hx hy) a b ha hb
end
end Go.Proofs.YtelljijajgiabaaGreatDoor

import Derived.Test.YtohgjenaclfegaaGreatDoorQT05
import Derived.RangeFuncFrom
import Derived.RangeFuncWrites
set_option linter.unusedVariables false
set_option linter.unusedSimpArgs false
set_option maxRecDepth 100000
set_option maxHeartbeats 8000000
namespace Go.Proofs.YtohgjenaclfegaaGreatDoor
open Go.RowKit Go.Shelf
attribute [local go_sem] Oper.semAt_some
def hoV (h:Tf.Ho):Value:=.agg #[.int .i64 h.n,.int .i64 h.f,.string ⟨h.b.1.toArray⟩,.string ⟨h.b.2.toArray⟩,.int .i64 h.v,.int .i64 h.d]
abbrev OfE (l:List Tf.Ho) (n:Int):={ h:Tf.Ho // h∈l/\h.n=n }
def ofA {l:List Tf.Ho} {n:Int} (x:OfE l n):Array Value:=#[hoV x.1]
def ofS (l:List Tf.Ho) (n:Int) (ys:List (OfE l n)):Prop:=∀h∈l,h.n=n->∃y∈ys,y.1=h
theorem Xa (n:Nat) (A:Option Addr) (k cap:Nat) (number:Int) (w:World):CallsIn Fence.wide n Tryz.prog 110 #[.slice A k cap,.int .i64 number] w fun e w'=>e=.returned (.func (.func 167) #[] #[.pointer (some ⟨w.heap.size,0,none⟩),.pointer (some ⟨w.heap.size+1,0,none⟩)])/\w'=(w.alloc (.cells #[.slice A k cap] 144)).alloc (.cells #[.int .i64 number] 3):=by
 refine callsIn_of_wp Tryz.func110 rfl trivial ?_ rfl;simp only[Tryz.ntmps110,List.size_toArray,List.length_cons,List.length_nil,Nat.reduceAdd,Nat.reduceSub,Array.replicate_succ,Array.replicate_zero,List.push_toArray,List.append_toArray,List.nil_append,List.cons_append]
 gi_wp2
 go_ret;exact ⟨rfl,rfl⟩
theorem PO (n:Nat) (hn1:1<=n) (l:List Tf.Ho) (A:Option Addr) (cap g1 g2:Nat) (number:Int) (w0:World) (hA:At 6 j_ w0 w0.heap.size A l) (hn:l.length<=cap) (hl:l.length<=9223372036854775807)
 (B1:Bx w0 g1 144 #[.slice A l.length cap]) (B2:Bx w0 g2 3 #[.int .i64 number]) :
 WC n Tryz.prog 167 #[.pointer (some ⟨g1,0,none⟩),.pointer (some ⟨g2,0,none⟩)] (ofA (l:=l) (n:=number)) (ofS l number) l.length w0:=by
 intro lp J Jx W hW hJ hJx VU hY hj0;refine callsIn_of_wp Tryz.func167 rfl trivial ?_ rfl;simp only[Tryz.ntmps167,List.size_toArray,List.length_cons,List.length_nil,Nat.reduceAdd,Nat.reduceSub,Array.replicate_succ,Array.replicate_zero,List.push_toArray,List.append_toArray,List.nil_append,List.cons_append];have e1:=(B1.below hW B1.lt).cell 0 rfl
 gi_wp2_with fail
 clear e1
 gi_loopw [8] (fun s8 wr=>∃(k:Nat) (pre:List (OfE l number)),s8=.int .i64 k/\k<=l.length/\pre.length<=k/\Kp (∀(j:Nat) (hj:j<l.length),j<k->l[j].n=number->∃y∈pre,y.1=l[j])/\J pre wr/\W.heap.size<=wr.heap.size) (fun s8 _=>l.length-(intOf s8).toNat)
 case atStart=>exact⟨0,[],rfl,Nat.zero_le _,Nat.le_refl _,⟨fun j hj h=>by omega⟩,hj0,Nat.le_refl _⟩
 case round =>
  clear hj0;obtain ⟨k,pre,rfl,hk,hp,hno,hj,hsz⟩:=hrel;by_cases hlt:k<l.length
  · obtain⟨b,off,rfl,hbB,hcell⟩:=hA (by omega);have hck:l[k]? = some l[k]:=List.getElem?_eq_getElem hlt;have hb0:=VU _ _ hj;have hcl:=fun (j:Nat) u (hj:(j_ l[k])[j]? = some u)=>(hb0.cell (p:=⟨b,off+k*6+j,none⟩) hbB).trans (hcell k _ hck j u hj)
    have g0:=hcl 0 _ rfl;have g1':=hcl 1 _ rfl;have g2':=hcl 2 _ rfl;have g3:=hcl 3 _ rfl;have g4:=hcl 4 _ rfl;have g5:=hcl 5 _ rfl;simp only[Nat.add_zero]at g0;have C2:=(B2.below hb0 B2.lt)
    have x0:=(C2.new (.cells #[.int .i64 l[k].n,.int .i64 l[k].f,.string ⟨l[k].b.1.toArray⟩,.string ⟨l[k].b.2.toArray⟩,.int .i64 l[k].v,.int .i64 l[k].d] 141)).cell 0 rfl;have B3:=Bx.mk wr 141 #[.int .i64 l[k].n,.int .i64 l[k].f,.string ⟨l[k].b.1.toArray⟩,.string ⟨l[k].b.2.toArray⟩,.int .i64 l[k].v,.int .i64 l[k].d];obtain ⟨h0,h1,h2,h3,h4,h5⟩:=B3.p6;have hbn:=aA wr (.cells #[.int .i64 l[k].n,.int .i64 l[k].f,.string ⟨l[k].b.1.toArray⟩,.string ⟨l[k].b.2.toArray⟩,.int .i64 l[k].v,.int .i64 l[k].d] 141);have hjn:=hJ _ _ _ hj (hbn.mono hsz);clear hcl C2 B3;by_cases hnn:l[k].n=number
    · have hmem:l[k]∈l/\l[k].n=number:=⟨List.getElem_mem hlt,hnn⟩
      obtain⟨fn,tmps,assign,body,hy,hR⟩:=hY pre ⟨l[k],hmem⟩ _ hjn (by omega);simp only[ofA,hoV]at hy
      have hnx:Kp (∀(j:Nat) (hj:j<l.length),j<k+1->l[j].n=number->∃y∈pre++[⟨l[k],hmem⟩],y.1=l[j]):=⟨fun j hj hjk hn2=>by
       rcases Nat.lt_or_ge j k with h1|h1
       · obtain⟨y,h2,h3⟩:=hno.out j hj h1 hn2;exact ⟨y,List.mem_append_left _ h2,h3⟩
       · obtain rfl:j=k:=by omega
         exact⟨⟨l[j],hmem⟩,by simp,rfl⟩⟩
      have Y5:(l[k].n==number)=true:=by simpa using hnn
      have hsz2:=Nat.le_trans hsz hbn.size;have hlen:(pre++[(⟨l[k],hmem⟩:OfE l number)]).length<=k+1:=by simp;omega
      generalize pre++[(⟨l[k],hmem⟩:OfE l number)]=pre2 at *;clear hY hj hno hcell hA hck hnn hmem hjn hbn hb0;generalize l[k]=x at *
      gi_wp2_with fail
      refine hR.mono ?_;rintro e W3 (⟨rfl,hJ3,hk3⟩|⟨rfl,hJx3⟩)
      · have hs3:=Nat.le_trans hsz2 hk3.size;clear hR hy hk3
        gi_wp2_with fail
        go_roundw
        case rel=>exact⟨k+1,pre2,by go_num,by omega,hlen,hnx,hJ3,hs3⟩
        case measure=>simp[intOf];omega
      · clear hR hy
        gi_wp2_with fail
        exact bodyPost_ret (results_none rfl _ _ _) rfl ⟨⟨_,rfl⟩,.inr ⟨_,hJx3⟩⟩
    · have Y5:(l[k].n==number)=false:=by simpa using hnn
      have hnx:Kp (∀(j:Nat) (hj:j<l.length),j<k+1->l[j].n=number->∃y∈pre,y.1=l[j]):=⟨fun j hj hjk hn2=>by
       rcases Nat.lt_or_ge j k with h1|h1
       · exact hno.out j hj h1 hn2
       · obtain rfl:j=k:=by omega
         exact absurd hn2 hnn⟩
      have hsz2:=Nat.le_trans hsz hbn.size;clear hY hj hno hcell hA hck hnn hbn hb0;generalize l[k]=x at *
      gi_wp2
      refine⟨fun _ h=>(by cases h),?_⟩
      gi_wp2
      go_roundw
      case rel=>exact⟨k+1,pre,by go_num,by omega,by omega,hnx,hjn,hsz2⟩
      case measure=>simp[intOf];omega
  · obtain rfl:k=l.length:=by omega
    have hS:ofS l number pre:=fun h hh hn2=>by
     obtain⟨j,hj,rfl⟩:=List.getElem_of_mem hh;exact hno.out j hj hj hn2
    clear hY hno
    gi_wp2
    go_end0
    exact⟨⟨_,rfl⟩,.inl ⟨_,hS,hj⟩⟩
attribute [local go_sem] Oper.semAt_some
theorem fU {fn:Func} {t:Tmp} {g:Nat} {b:Bool} (h:fn.results=#[.cell t 4]) (tmps:Array Value) (w:World) (ht:tmps.getD t undef=.pointer (some ⟨g,0,none⟩)) (hB:Bx w g 4 #[.bool b]) :
 (results fn tmps).run Tryz.prog w=.ok (.bool b) w:=by
 have h0:=hB.cell 0 rfl;have ht':tmps[t]?.getD undef=.pointer (some ⟨g,0,none⟩):=by simpa using ht
 simp only[results,h];simp [go_sem,ht',h0,loadVar]
theorem sO (a:Array Value) (p:Tmp) (v:Value):(#[p].zip #[v]).foldl (fun t x=>t.setIfInBounds x.1 x.2) a=a.setIfInBounds p v:=by simp
theorem Fr.set {B g i:Nat} {W:World} {u:Value} (hg:g<B):Fr B W (W.setCell ⟨g,i,none⟩ u) :=
 ⟨((Below.refl 0 W).setCell (p:=⟨g,i,none⟩) (Nat.zero_le _) u).size,fun b o hb ho=>(Below.heap_setCell W ⟨g,i,none⟩ u b (by show b≠g;omega)).trans ho⟩
theorem wX (c e lo re pay:Int) (l:List Tf.Ho) (A:Option Addr) (cap:Nat) (w:World) (hA:At 6 j_ w w.heap.size A l) (hn:l.length<=cap) (hl:l.length<=9223372036854775807) (hs:∀h∈l,Yi h) (hE:Env w) :
 aT 68 #[.agg #[.int .i64 c,.int .i64 e,.int .i64 lo,.int .i64 re,.int .i64 pay],.slice A l.length cap] w (.bool (vS ⟨c,e,lo,re,pay⟩ l)):=by
 refine (callsIn_wide (n:=4)).1 ?_;refine callsIn_of_wp_marks Tryz.func68 rfl trivial ?_ rfl;simp only[Tryz.ntmps68,List.size_toArray,List.length_cons,List.length_nil,Nat.reduceAdd,Nat.reduceSub,Array.replicate_succ,Array.replicate_zero,List.push_toArray,List.append_toArray,List.nil_append,List.cons_append];have hR:=fun w0=>nC c e lo re pay w0
 have hb:=bNew (aA w (.cells #[.int .i64 c,.int .i64 e,.int .i64 lo,.int .i64 re,.int .i64 pay] 135)) (.cells #[.bool false] 4);have B:=(Bx.mk w 135 #[.int .i64 c,.int .i64 e,.int .i64 lo,.int .i64 re,.int .i64 pay]).new (.cells #[.bool false] 4);have BR:=Bx.mk (w.alloc (.cells #[.int .i64 c,.int .i64 e,.int .i64 lo,.int .i64 re,.int .i64 pay] 135)) 4 #[.bool false];rw [aj]at BR;obtain ⟨c0,c1,c2,c3,c4⟩:=B.p5;refine wpIn_wide.2 ?_
 cases Xt:Gh c e lo re pay with
 | false =>
  rw[Xt]at hR;have hd:Kp (vS ⟨c,e,lo,re,pay⟩ l=false):=⟨zV Xt⟩
  generalize vS ⟨c,e,lo,re,pay⟩ l=res at *;obtain rfl:=hd.out;go_wp2_with fail;refine (hR _).mono ?_;rintro _ w1 ⟨rfl,hb1⟩;replace BR:=BR.call hb1;replace hb:=ah hb hb1;have d0:=BR.cell 0 rfl;have f0:=BR.frozen 0;clear c0 c1 c2 c3 c4;go_wp2;exact ⟨_,fU rfl _ _ rfl (BR.set 0 (.bool false)),rfl,aK hb (p:=⟨w.heap.size+1,0,none⟩) (Nat.le_succ _) _⟩
 | true =>
  rw[Xt]at hR;have hch:=GR Xt;have hok:=pq.1 Xt;have hlo1:=hok.l1;have hlo2:=hok.l2;have hre1:=hok.r1;have hre2:=hok.r2;dsimp only at hlo1 hlo2 hre1 hre2;by_cases h20:20<l.length
  · have hd:Kp (vS ⟨c,e,lo,re,pay⟩ l=false):=⟨uZ fun hv=>Tf.Va.Vh h20 hv.2⟩
    generalize vS ⟨c,e,lo,re,pay⟩ l=res at *;obtain rfl:=hd.out;clear hok hA hs;go_wp2_with fail;refine (hR _).mono ?_;rintro _ w1 ⟨rfl,hb1⟩;replace BR:=BR.call hb1;replace hb:=ah hb hb1;have d0:=BR.cell 0 rfl;have f0:=BR.frozen 0;clear c0 c1 c2 c3 c4;go_wp2;exact ⟨_,fU rfl _ _ rfl (BR.set 0 (.bool false)),rfl,aK hb (p:=⟨w.heap.size+1,0,none⟩) (Nat.le_succ _) _⟩
  · have CZ:Kp (¬Tf.Va (DU c e) ⟨c,e,lo,re,pay⟩ l->vS ⟨c,e,lo,re,pay⟩ l=false):=⟨fun h=>uZ fun hv=>h hv.2⟩
    have yt:Kp (Tf.Va (DU c e) ⟨c,e,lo,re,pay⟩ l->vS ⟨c,e,lo,re,pay⟩ l=true):=⟨fun h=>wY ⟨hok,h⟩⟩
    clear hok;generalize vS ⟨c,e,lo,re,pay⟩ l=res at *;go_wp2_with fail;refine (hR _).mono ?_;rintro _ w1 ⟨rfl,hb1⟩;replace B:=B.call hb1;replace BR:=BR.call hb1;replace hb:=ah hb hb1;clear c0 c1 c2 c3 c4 hb1 hR;go_wp2;obtain ⟨vb,hvb⟩:∃vb,vb=Value.bool (decide (20<(l.length:Int))):=⟨_,rfl⟩
    rw[←hvb];clear hvb;refine wp_loop (fun a' w'=>∃(k:Nat) (ds:List Deferred) (u5 u6 u7 u19 u20 u21 u22 u23 u24 u25 u26 u27 u28 u29 u30 u31 u32 u33 u34 u35 u36 u37 u38 u39 u40 u41 u42 u43 u44 u45 u46 u47 u48 u49 u50 u51 u52 u53 u54 u55 u56 u57 u58:Value),(k<=l.length/\Kp (Tf.Va (DU c e) ⟨c,e,lo,re,pay⟩ (l.take k))/\Bx w' w.heap.size 135 #[.int .i64 c,.int .i64 e,.int .i64 lo,.int .i64 re,.int .i64 pay]/\Bx w' (w.heap.size+1) 4 #[.bool false]/\Below w.heap.size w w'/\Marks (w.heap.size+2) w'.heap.size ds w')/\a'={ tmps:=#[.agg #[.int .i64 c,.int .i64 e,.int .i64 lo,.int .i64 re,.int .i64 pay],.slice A l.length cap,.pointer (some ⟨w.heap.size,0,none⟩),undef,.pointer (some ⟨w.heap.size+1,0,none⟩),u5,u6,u7,.agg #[.int .i64 c,.int .i64 e,.int .i64 lo,.int .i64 re,.int .i64 pay],.bool true,.bool false,.bool false,.slice A l.length cap,.int .i64 l.length,vb,vb,.slice A l.length cap,.int .i64 l.length,.int .i64 k,u19,u20,u21,u22,u23,u24,u25,u26,u27,u28,u29,u30,u31,u32,u33,u34,u35,u36,u37,u38,u39,u40,u41,u42,u43,u44,u45,u46,u47,u48,u49,u50,u51,u52,u53,u54,u55,u56,u57,u58],defers:=ds }) (fun a' _=>l.length-(intOf (a'.tmps.getD 18 undef)).toNat) ?start ?round
    case start=>exact⟨0,[],_,_,_,_,_,_,_,_,_,_,_,_,_,_,_,_,_,_,_,_,_,_,_,_,_,_,_,_,_,_,_,_,_,_,_,_,_,_,_,_,_,_,_,⟨Nat.zero_le _,⟨Tf.Va.nil _ _⟩,B,BR,hb,Marks.nil _ _ _⟩,rfl⟩
    case round =>
     clear B BR hb;rintro _ wr ⟨k,ds,u5,u6,u7,u19,u20,u21,u22,u23,u24,u25,u26,u27,u28,u29,u30,u31,u32,u33,u34,u35,u36,u37,u38,u39,u40,u41,u42,u43,u44,u45,u46,u47,u48,u49,u50,u51,u52,u53,u54,u55,u56,u57,u58,⟨hk,hva,B,BR,hb,hM⟩,rfl⟩;have hlow:=BR.lt;by_cases hlt:k<l.length
     · obtain⟨b,off,rfl,hbB,hcell⟩:=hA (by omega);have hck:l[k]? = some l[k]:=List.getElem?_eq_getElem hlt;have hcl:=fun (j:Nat) u (hj:(j_ l[k])[j]? = some u)=>(hb.cell (p:=⟨b,off+k*6+j,none⟩) hbB).trans (hcell k _ hck j u hj)
       have g0:=hcl 0 _ rfl;have g1:=hcl 1 _ rfl;have g2:=hcl 2 _ rfl;have g3:=hcl 3 _ rfl;have g4:=hcl 4 _ rfl;have g5:=hcl 5 _ rfl;simp only[Nat.add_zero]at g0;go_upto_region 6 with fail;clear g0 g1 g2 g3 g4 g5 hcl hck;have hbn:=aA wr (.cells #[.int .i64 l[k].n,.int .i64 l[k].f,.string ⟨l[k].b.1.toArray⟩,.string ⟨l[k].b.2.toArray⟩,.int .i64 l[k].v,.int .i64 l[k].d] 141);have H:=Bx.mk wr 141 #[.int .i64 l[k].n,.int .i64 l[k].f,.string ⟨l[k].b.1.toArray⟩,.string ⟨l[k].b.2.toArray⟩,.int .i64 l[k].v,.int .i64 l[k].d];have hH:=H.lt;replace B:=B.new (.cells #[.int .i64 l[k].n,.int .i64 l[k].f,.string ⟨l[k].b.1.toArray⟩,.string ⟨l[k].b.2.toArray⟩,.int .i64 l[k].v,.int .i64 l[k].d] 141);replace BR:=BR.new (.cells #[.int .i64 l[k].n,.int .i64 l[k].f,.string ⟨l[k].b.1.toArray⟩,.string ⟨l[k].b.2.toArray⟩,.int .i64 l[k].v,.int .i64 l[k].d] 141);replace hb:=bNew hb (.cells #[.int .i64 l[k].n,.int .i64 l[k].f,.string ⟨l[k].b.1.toArray⟩,.string ⟨l[k].b.2.toArray⟩,.int .i64 l[k].v,.int .i64 l[k].d] 141);replace hM:=(hM.below hbn).more hbn.size;clear hbn;generalize wr.alloc (.cells #[.int .i64 l[k].n,.int .i64 l[k].f,.string ⟨l[k].b.1.toArray⟩,.string ⟨l[k].b.2.toArray⟩,.int .i64 l[k].v,.int .i64 l[k].d] 141)=W0 at *;generalize wr.heap.size=gh at *;obtain ⟨hs1,hs2⟩:=hs _ (List.getElem_mem hlt);have kF:=fun x os=>mO c e lo re pay l[k].n l[k].f l[k].v l[k].d l[k].b.1 l[k].b.2 (Sort.grow (redrawn W0 x) os) hch hs1 hs2 (hE.below (dY hb x os))
       have hfe:(⟨l[k].n,l[k].f,(l[k].b.1,l[k].b.2),l[k].v,l[k].d⟩:Tf.Ho)=l[k]:=rfl;rw [hfe]at kF;have jm:Kp (∀(i:Nat) (cc:Tf.Ho),l[i]? = some cc->∀(j:Nat) (u:Value),(j_ cc)[j]? = some u->w.cell? ⟨b,off+i*6+j,none⟩=some u):=⟨hcell⟩
       obtain⟨tb,kP⟩:∃tb:Bool,(yF c e l[k]=false/\tb=true/\Kp (res=false))∨(yF c e l[k]=true/\(∃m,∃hm:k=m+1,l[k].f<(l[m]'(by omega)).f/\tb=true/\Kp (res=false)))∨(yF c e l[k]=true/\(∃m,∃hm:k=m+1,¬l[k].f<(l[m]'(by omega)).f/\tb=false/\Kp ((l[m]'(by omega)).f<=l[k].f)))∨(yF c e l[k]=true/\k=0/\tb=false):=by
        cases hfm:yF c e l[k] with
        | false=>exact⟨true,.inl ⟨rfl,rfl,⟨CZ.out (Tf.Va.YI hlt fun hf=>by rw[AV hf]at hfm;cases hfm)⟩⟩⟩
        | true =>
         rcases Nat.eq_zero_or_pos k with h0|h0
         · exact⟨false,.inr (.inr (.inr ⟨rfl,h0,rfl⟩))⟩
         · by_cases hx:l[k].f<(l[k-1]'(by omega)).f
           · refine⟨true,.inr (.inl ⟨rfl,k-1,by omega,hx,rfl,⟨CZ.out (Tf.Va.PV hlt (j:=k-1) (by omega) fun hn=>?_)⟩⟩)⟩;have:=hn.1;omega
           · exact⟨false,.inr (.inr (.inl ⟨rfl,k-1,by omega,hx,rfl,⟨by omega⟩⟩))⟩
       have hnext:Kp (tb=false->(∀(j:Nat) (hj:j<k),(l[j]'(by omega)).n=l[k].n->Tf.fin ⟨c,e,lo,re,pay⟩ (l[j]'(by omega))+re<=l[k].f)->Tf.Va (DU c e) ⟨c,e,lo,re,pay⟩ (l.take (k+1))):=⟨fun ht hn=>by
        have hf:Tf.Fm (DU c e) l[k]:=by
         refine sS.1 ?_
         rcases kP with ⟨_,h2,_⟩|⟨_,m,hm,_,h2,_⟩|⟨h1,_⟩|⟨h1,_⟩
         · rw[ht]at h2;cases h2
         · rw[ht]at h2;cases h2
         · exact h1
         · exact h1
        refine Tf.Va.step hlt (by omega) hva.out hf (fun h0=>?_) hn
        rcases kP with ⟨_,h2,_⟩|⟨_,m,hm,_,h2,_⟩|⟨_,m,hm,_,_,h3⟩|⟨_,h1,_⟩
        · rw[ht]at h2;cases h2
        · rw[ht]at h2;cases h2
        · have:k-1=m:=by omega
          simp only[this];exact h3.out
        · omega⟩
       have JK:Kp (tb=true->res=false):=⟨fun ht=>by
        rcases kP with ⟨_,_,h⟩|⟨_,m,hm,_,_,h⟩|⟨_,m,hm,_,h2,_⟩|⟨_,_,h2⟩
        · exact h.out
        · exact h.out
        · rw[ht]at h2;cases h2
        · rw[ht]at h2;cases h2⟩
       have VJ:Kp (tb=false->Tf.Fm (DU c e) l[k]):=⟨fun ht=>sS.1 (by
        rcases kP with ⟨_,h2,_⟩|⟨_,m,hm,_,h2,_⟩|⟨h1,_⟩|⟨h1,_⟩
        · rw[ht]at h2;cases h2
        · rw[ht]at h2;cases h2
        · exact h1
        · exact h1)⟩
       clear hcell hfe
       go_cut [41] from 23 to 41 (fun s41 wx=>s41=.bool tb/\Below W0.heap.size W0 wx)
       case first =>
        have h0:=fun d os=>(H.again d os).cell 0 rfl
        have h1:=fun d os=>(H.again d os).cell 1 rfl
        have h2:=fun d os=>(H.again d os).cell 2 rfl
        have h3:=fun d os=>(H.again d os).cell 3 rfl
        have h4:=fun d os=>(H.again d os).cell 4 rfl
        have h5:=fun d os=>(H.again d os).cell 5 rfl
        have r0:=fun d os=>(B.again d os).cell 0 rfl
        have r1:=fun d os=>(B.again d os).cell 1 rfl
        have r2:=fun d os=>(B.again d os).cell 2 rfl
        have r3:=fun d os=>(B.again d os).cell 3 rfl
        have r4:=fun d os=>(B.again d os).cell 4 rfl
        clear hM hnext JK VJ CZ yt hva hA
        rcases kP with ⟨hfm,rfl,-⟩|⟨hfm,m,rfl,hx,rfl,-⟩|⟨hfm,m,rfl,hx,rfl,-⟩|⟨hfm,rfl,rfl⟩
        · rw[hfm]at kF;go_wp2_with fail;refine wp_region_quiet_below (by kernel_rfl) (by kernel_rfl) ?_
          repeat (go_big_quiet_step (first
           | (go_at_call 107;with_reducible exact Calls.regrown_of (kF _ _))))
          refine wpQuiet_nil ?_;rintro _ ⟨z,rfl⟩;have hbz:=below_regrown W0 z.d z.os;go_wp2_with fail
          go_meet
          exact⟨rfl,hbz⟩
        · rw[hfm]at kF;have x1:=fun d os=>((dY hb d os).cell (p:=⟨b,off+m*6+1,none⟩) hbB).trans (jm.out m _ (List.getElem?_eq_getElem (by omega)) 1 _ rfl)
          have hcast:((m+1:Nat):Int)-1=(m:Int):=by omega
          have t0:decide (((m+1:Nat):Int) > 0)=true:=by simp <;> omega
          have t1:decide (l[m+1].f<l[m].f)=true:=decide_eq_true hx;go_wp2_with fail;refine wp_region_quiet_below (by kernel_rfl) (by kernel_rfl) ?_
          repeat (go_big_quiet_step (first
           | (go_at_call 107;with_reducible exact Calls.regrown_of (kF _ _))))
          refine wpQuiet_nil ?_;rintro _ ⟨z,rfl⟩;have hbz:=below_regrown W0 z.d z.os;go_wp2_with fail
          go_meet
          exact⟨rfl,hbz⟩
        · rw[hfm]at kF;have x1:=fun d os=>((dY hb d os).cell (p:=⟨b,off+m*6+1,none⟩) hbB).trans (jm.out m _ (List.getElem?_eq_getElem (by omega)) 1 _ rfl)
          have hcast:((m+1:Nat):Int)-1=(m:Int):=by omega
          have t0:decide (((m+1:Nat):Int) > 0)=true:=by simp <;> omega
          have t1:decide (l[m+1].f<l[m].f)=false:=decide_eq_false hx;go_wp2_with fail;refine wp_region_quiet_below (by kernel_rfl) (by kernel_rfl) ?_
          repeat (go_big_quiet_step (first
           | (go_at_call 107;with_reducible exact Calls.regrown_of (kF _ _))))
          refine wpQuiet_nil ?_;rintro _ ⟨z,rfl⟩;have hbz:=below_regrown W0 z.d z.os;go_wp2_with fail
          go_meet
          exact⟨rfl,hbz⟩
        · rw[hfm]at kF;go_wp2_with fail;refine wp_region_quiet_below (by kernel_rfl) (by kernel_rfl) ?_
          repeat (go_big_quiet_step (first
           | (go_at_call 107;with_reducible exact Calls.regrown_of (kF _ _))))
          refine wpQuiet_nil ?_;rintro _ ⟨z,rfl⟩;have hbz:=below_regrown W0 z.d z.os;go_wp2_with fail
          go_meet
          exact⟨rfl,hbz⟩
       case rest =>
        obtain⟨rfl,hbx⟩:=hcut;clear kF kP;replace B:=B.call hbx;replace BR:=BR.call hbx;replace H:=H.call hbx;replace hb:=ah hb hbx;replace hM:=(hM.below hbx).more hbx.size;have hH2:=hbx.size;clear hbx
        cases tb with
        | true =>
         obtain rfl:=JK.out rfl;have d0:=BR.cell 0 rfl;have f0:=BR.frozen 0;clear hnext JK VJ CZ yt hva hA jm;go_wp2;exact (hM.set BR 0 _).leave fun W' hb' hB'=>⟨_,fU rfl _ _ rfl (hB' _ _ _ (BR.set 0 (.bool false))),rfl,(aK hb (p:=⟨w.heap.size+1,0,none⟩) (Nat.le_succ _) _).trans (hb'.mono (by omega))⟩
        | false =>
         have hf:=VJ.out rfl;have hf0:=hf.f0;have hf2:=hf.f2;replace hnext:Kp ((∀(j:Nat) (hj:j<k),(l[j]'(by omega)).n=l[k].n->Tf.fin ⟨c,e,lo,re,pay⟩ (l[j]'(by omega))+re<=l[k].f)->Tf.Va (DU c e) ⟨c,e,lo,re,pay⟩ (l.take (k+1))):=⟨hnext.out rfl⟩
         clear JK VJ hf jm;go_upto_region 8 with fail;have h0:=fun d os=>(H.again d os).cell 0 rfl
         refine bF 5 (by kernel_rfl) (by kernel_rfl) ?_;simp only[List.take,List.drop]
         repeat (go_big_quiet_step (fail))
         refine wpQuiet_nil ?_;rintro _ ⟨z,rfl⟩;have hbz:=below_regrown wc z.d z.os;replace B:=B.call hbz;replace BR:=BR.call hbz;replace H:=H.call hbz;replace hb:=ah hb hbz;replace hM:=(hM.below hbz).more hbz.size;replace hH2:=Nat.le_trans hH2 hbz.size;clear h0 hbz;generalize Sort.grow (redrawn wc z.d) z.os=W2 at *
         go_wp2_with (go_at_call 110;refine ((callsIn_wide (n:=4)).1 (Xa 4 _ _ _ _ _)).mono ?_;rintro _ _ ⟨rfl,rfl⟩)
         have hbW:=bNew (aA W2 (.cells #[.slice (some ⟨b,off,none⟩) k cap] 144)) (.cells #[.int .i64 l[k].n] 3);have Q1:=(Bx.mk W2 144 #[.slice (some ⟨b,off,none⟩) k cap]).new (.cells #[.int .i64 l[k].n] 3);have Q2:=Bx.mk (W2.alloc (.cells #[.slice (some ⟨b,off,none⟩) k cap] 144)) 3 #[.int .i64 l[k].n];rw [aj]at Q2;replace B:=B.call hbW;replace BR:=BR.call hbW;replace H:=H.call hbW;replace hb:=ah hb hbW;replace hM:=(hM.below hbW).more hbW.size;replace hH2:=Nat.le_trans hH2 hbW.size;clear hbW;generalize (W2.alloc (.cells #[.slice (some ⟨b,off,none⟩) k cap] 144)).alloc (.cells #[.int .i64 l[k].n] 3)=W3 at *;generalize W2.heap.size=g2 at *;have hlk:(l.take k).length=k:=by rw[List.length_take];omega
         have hA3:At 6 j_ W3 W3.heap.size (some ⟨b,off,none⟩) (l.take k):=((hA.below hb).more hb.size).take k;have hseq:=PO 3 (by decide) (l.take k) (some ⟨b,off,none⟩) cap g2 (g2+1) l[k].n W3 hA3 (by omega) (by omega) (by rw[hlk];exact Q1) Q2;rw [hlk]at hseq;have hsz3:=Q2.lt;have hw3:=hb.size;clear hA3 Q1 Q2;refine (wpIn_wide (n:=4)).1 ?_
         refine qW (by decide) (gf:=167) (lb:=#[.pointer (some ⟨g2,0,none⟩),.pointer (some ⟨g2+1,0,none⟩)]) rfl (enters_of Tryz.func167 (by kernel_rfl) rfl) hseq (bH _) (fun _=>rfl)
          (fun pre X=>Below W3.heap.size W3 X/\∀y∈pre,Tf.fin ⟨c,e,lo,re,pay⟩ y.1+re<=l[k].f)
          (fun _ X=>Below w.heap.size w X/\Bx X (w.heap.size+1) 4 #[.bool false]/\Marks (w.heap.size+2) W3.heap.size ds X/\Kp (res=false))
          (fun s X Y h hb=>⟨h.1.trans hb,h.2⟩)
          (fun s X Y h hb'=>⟨h.1.trans (hb'.mono hw3),h.2.1.below hb' (by omega),h.2.2.1.below hb',h.2.2.2⟩)
          (fun s X h=>h.1) ⟨bH _,fun y hy=>by cases hy⟩ 7 141 (fun x=>#[.int .i64 x.1.n,.int .i64 x.1.f,.string ⟨x.1.b.1.toArray⟩,.string ⟨x.1.b.2.toArray⟩,.int .i64 x.1.v,.int .i64 x.1.d]) ?assign ?body ?done ?stop
         case assign =>
          intro lp x W K hK;simp only[ofA,hoV,sO]at hK ⊢
          gi_wp2
          have hk9:=hK _ _ (aA W _) (Bx.mk W _ _);simp only[List.setIfInBounds_toArray,List.set_cons_succ,List.set_cons_zero]at hk9;exact hk9
         case body =>
          rintro lp pre x gb W ⟨hbX,hpre⟩ HB hlen;simp only[ofA,hoV,sO,List.setIfInBounds_toArray,List.set_cons_succ,List.set_cons_zero];have B':=B.below hbX B.lt;have Gg:=BR.below hbX BR.lt;have H':=H.below hbX H.lt;have hfx:=hva.out.fm _ x.2.1;have hfx0:=hfx.f0;have hfx2:=hfx.f2
          have hsp:Tf.Sp ⟨c,e,lo,re,pay⟩ x.1:=Tf.Ju (by dsimp only;omega) fun h=>by
           rcases hfx.v with ⟨a,-⟩|⟨-,a,-⟩
           · rw[h]at a;cases a
           · exact a
          obtain⟨sp1,sp2⟩:=hsp;dsimp only at sp2;have kE:=fun y os=>Df c e lo re pay x.1.n x.1.f x.1.v x.1.d x.1.b.1 x.1.b.2 (Sort.grow (redrawn W y) os) ⟨by omega,by omega⟩ ⟨by omega,by omega⟩
          have hfe:(⟨x.1.n,x.1.f,(x.1.b.1,x.1.b.2),x.1.v,x.1.d⟩:Tf.Ho)=x.1:=rfl;rw [hfe]at kE;have h0:=fun d os=>(HB.again d os).cell 0 rfl
          have h1:=fun d os=>(HB.again d os).cell 1 rfl
          have h2:=fun d os=>(HB.again d os).cell 2 rfl
          have h3:=fun d os=>(HB.again d os).cell 3 rfl
          have h4:=fun d os=>(HB.again d os).cell 4 rfl
          have h5:=fun d os=>(HB.again d os).cell 5 rfl
          have r0:=fun d os=>(B'.again d os).cell 0 rfl
          have r1:=fun d os=>(B'.again d os).cell 1 rfl
          have r2:=fun d os=>(B'.again d os).cell 2 rfl
          have r3:=fun d os=>(B'.again d os).cell 3 rfl
          have r4:=fun d os=>(B'.again d os).cell 4 rfl
          have y1:=fun d os=>(H'.again d os).cell 1 rfl
          have hno:Kp (l[k].f<Tf.fin ⟨c,e,lo,re,pay⟩ x.1+re->res=false):=⟨fun hx3=>by
           obtain⟨j,hj,ej⟩:=List.mem_take_iff_getElem.1 x.2.1;refine CZ.out (Tf.Va.PV hlt (j:=j) (by omega) fun hn=>?_);have:=hn.2 (by rw[ej];exact x.2.2);rw [ej]at this;dsimp only at this
           omega⟩
          have hyes:Kp (¬l[k].f<Tf.fin ⟨c,e,lo,re,pay⟩ x.1+re->∀y∈pre++[x],Tf.fin ⟨c,e,lo,re,pay⟩ y.1+re<=l[k].f):=⟨fun hx3 y hy=>by
           rcases List.mem_append.1 hy with hy|hy
           · exact hpre y hy
           · rw[List.mem_singleton.1 hy];omega⟩
          clear hfx hseq hpre hnext hfe hva CZ yt hA hs H;generalize Tf.fin ⟨c,e,lo,re,pay⟩ x.1=fx at *;by_cases hx3:l[k].f<fx+re
          · have t0:decide (l[k].f<fx+re)=true:=decide_eq_true hx3;obtain rfl:=hno.out hx3
            gi_wp2
            refine wpIn_region_quiet (by kernel_rfl) (by kernel_rfl) (by kernel_rfl) ?_
            repeat (go_big_quiet_step (first|(go_at_call 108;with_reducible exact Calls.regrown_of (kE _ _))))
            refine wpQuiet_nil ?_;rintro _ ⟨z,rfl⟩;refine ⟨rfl,?_⟩;have hbz:=below_regrown W z.d z.os;replace Gg:=Gg.call hbz;have hbw:=ah (hb.trans (hbX.mono hw3)) hbz;have hMw:=(hM.below hbX).below (hbz.mono hbX.size);have hfr:=Fr.below (B:=W3.heap.size) hbz;clear kE h0 h1 h2 h3 h4 h5 r0 r1 r2 r3 r4 y1 hbz;generalize Sort.grow (redrawn W z.d) z.os=W5 at *;have d0:=Gg.cell 0 rfl;have f0:=Gg.frozen 0
            gi_wp2
            exact⟨hfr.trans (Fr.set (by omega)),aK hbw (p:=⟨w.heap.size+1,0,none⟩) (Nat.le_succ _) _,Gg.set 0 (.bool false),hMw.set Gg 0 _,Kp.mk (by simp)⟩
          · have t0:decide (l[k].f<fx+re)=false:=decide_eq_false hx3
            gi_wp2
            refine wpIn_region_quiet (by kernel_rfl) (by kernel_rfl) (by kernel_rfl) ?_
            repeat (go_big_quiet_step (first|(go_at_call 108;with_reducible exact Calls.regrown_of (kE _ _))))
            refine wpQuiet_nil ?_;rintro _ ⟨z,rfl⟩;refine ⟨rfl,?_⟩;have hbz:=below_regrown W z.d z.os;clear kE h0 h1 h2 h3 h4 h5 r0 r1 r2 r3 r4 y1
            gi_wp2
            exact⟨Fr.below hbz,hbX.trans (hbz.mono hbX.size),hyes.out hx3⟩
         case done =>
          rintro D xs W hD hS ⟨hbX,hall⟩ hd
          have YU:=hnext.out fun j hj hjn=>by
           obtain⟨y,hy,ey⟩:=hS (l[j]'(by omega)) (List.mem_take_iff_getElem.2 ⟨j,by omega,rfl⟩) hjn;rw [←ey];exact hall y hy
          replace YU:=Kp.mk YU;have hM2:=(hM.below hbX).push hD (by omega) hd;replace B:=B.below hbX B.lt;replace BR:=BR.below hbX BR.lt;replace hb:=hb.trans (hbX.mono hw3);clear hall hS hseq hnext hva CZ yt hA hs H hM;go_wp2;exact ⟨⟨k+1,mkD D :: ds,_,_,_,_,_,_,_,_,_,_,_,_,_,_,_,_,_,_,_,_,_,_,_,_,_,_,_,_,_,_,_,_,_,_,_,_,_,_,_,_,_,_,_,⟨by omega,YU,B,BR,hb,hM2⟩,rfl⟩,by simp[intOf] <;> omega⟩
         case stop =>
          rintro D pre W hD ⟨hbX,ZN,hMX,hr⟩ hd;obtain rfl:=hr.out;have hM2:=hMX.push hD (by omega) hd;clear hseq hnext hva CZ yt hA hs H hM
          gi_wp2
          exact hM2.leave fun W' hb' hB'=>⟨_,fU rfl _ _ rfl (hB' _ _ _ ZN),rfl,hbX.trans (hb'.mono (by omega))⟩
     · obtain rfl:k=l.length:=by omega
       obtain rfl:=yt.out hva.out.whole;have d0:=BR.cell 0 rfl;have f0:=BR.frozen 0;clear hA hs hva CZ yt;go_wp2;exact (hM.set BR 0 _).leave fun W' hb' hB'=>⟨_,fU rfl _ _ rfl (hB' _ _ _ (BR.set 0 (.bool true))),rfl,(aK hb (p:=⟨w.heap.size+1,0,none⟩) (Nat.le_succ _) _).trans (hb'.mono (by omega))⟩
attribute [local go_sem] Oper.semAt_some
theorem At.call {α:Type} {size:Nat} {f:α->List Value} {w w':World} {A:Option Addr} {p:List α} (h:At size f w w.heap.size A p) (hb:Below w.heap.size w w'):At size f w' w'.heap.size A p:=(h.below hb).more hb.size
theorem yA (c e lo re pay:Int) (l:List Tf.Ho) (A:Option Addr) (cap:Nat) (number t:Int) (w:World) (hA:At 6 j_ w w.heap.size A l) (hn:l.length<=cap) (hl:l.length<=9223372036854775807) (hs:∀h∈l,Yi h) (hE:Env w) :
 aT 67 #[.agg #[.int .i64 c,.int .i64 e,.int .i64 lo,.int .i64 re,.int .i64 pay],.slice A l.length cap,.int .i64 number,.int .i64 t] w (.bool (EX ⟨c,e,lo,re,pay⟩ l number t)):=by
 refine (callsIn_wide (n:=4)).1 ?_;refine callsIn_of_wp_marks Tryz.func67 rfl trivial ?_ rfl;simp only[Tryz.ntmps67,List.size_toArray,List.length_cons,List.length_nil,Nat.reduceAdd,Nat.reduceSub,Array.replicate_succ,Array.replicate_zero,List.push_toArray,List.append_toArray,List.nil_append,List.cons_append];have hb:=bNew (bNew (aA w (.cells #[.int .i64 c,.int .i64 e,.int .i64 lo,.int .i64 re,.int .i64 pay] 135)) (.cells #[.int .i64 t] 3)) (.cells #[.bool false] 4);have B:=((Bx.mk w 135 #[.int .i64 c,.int .i64 e,.int .i64 lo,.int .i64 re,.int .i64 pay]).new (.cells #[.int .i64 t] 3)).new (.cells #[.bool false] 4);have BT:=(Bx.mk (w.alloc (.cells #[.int .i64 c,.int .i64 e,.int .i64 lo,.int .i64 re,.int .i64 pay] 135)) 3 #[.int .i64 t]).new (.cells #[.bool false] 4);have BR:=Bx.mk ((w.alloc (.cells #[.int .i64 c,.int .i64 e,.int .i64 lo,.int .i64 re,.int .i64 pay] 135)).alloc (.cells #[.int .i64 t] 3)) 4 #[.bool false];simp only[aj,Nat.add_assoc,Nat.reduceAdd]at BT BR;have hV:=fun w0 hA0 hE0=>wX c e lo re pay l A cap w0 hA0 hn hl hs hE0
 obtain⟨c0,c1,c2,c3,c4⟩:=B.p5;have hA1:=hA.call hb;have hE1:=hE.below hb;refine wpIn_wide.2 ?_;by_cases hva:Yc ⟨c,e,lo,re,pay⟩ l
 · rw[wY hva]at hV;have hd:Kp (EX ⟨c,e,lo,re,pay⟩ l number t=Tf.held ⟨c,e,lo,re,pay⟩ l number t):=⟨XA hva number t⟩
   generalize EX ⟨c,e,lo,re,pay⟩ l number t=res at *;go_wp2_with fail;refine (hV _ hA1 hE1).mono ?_;rintro _ w1 ⟨rfl,hb1⟩;replace B:=B.call hb1;replace BT:=BT.call hb1;replace BR:=BR.call hb1;replace hb:=ah hb hb1;clear c0 c1 c2 c3 c4 hb1 hV hA1 hE1
   go_wp2_with (go_at_call 110;refine ((callsIn_wide (n:=4)).1 (Xa 4 _ _ _ _ _)).mono ?_;rintro _ _ ⟨rfl,rfl⟩)
   have hbW:=bNew (aA w1 (.cells #[.slice A l.length cap] 144)) (.cells #[.int .i64 number] 3);have Q1:=(Bx.mk w1 144 #[.slice A l.length cap]).new (.cells #[.int .i64 number] 3);have Q2:=Bx.mk (w1.alloc (.cells #[.slice A l.length cap] 144)) 3 #[.int .i64 number];rw [aj]at Q2;replace B:=B.call hbW;replace BT:=BT.call hbW;replace BR:=BR.call hbW;replace hb:=ah hb hbW;clear hbW;generalize (w1.alloc (.cells #[.slice A l.length cap] 144)).alloc (.cells #[.int .i64 number] 3)=W3 at *;generalize w1.heap.size=g2 at *;have hA3:At 6 j_ W3 W3.heap.size A l:=(hA.below hb).more hb.size;have hseq:=PO 3 (by decide) l A cap g2 (g2+1) number W3 hA3 hn hl Q1 Q2;have hw3:=hb.size;have hgr:=BR.lt;clear hA3 Q1 Q2;refine (wpIn_wide (n:=4)).1 ?_
   refine qW (by decide) (gf:=167) (lb:=#[.pointer (some ⟨g2,0,none⟩),.pointer (some ⟨g2+1,0,none⟩)]) rfl (enters_of Tryz.func167 (by kernel_rfl) rfl) hseq (bH _) (fun _=>rfl)
    (fun pre X=>Below W3.heap.size W3 X/\∀y∈pre,Tf.VB ⟨c,e,lo,re,pay⟩ y.1 t=false)
    (fun _ X=>Below w.heap.size w X/\Bx X (w.heap.size+2) 4 #[.bool true]/\Kp (res=true))
    (fun s X Y h hb=>⟨h.1.trans hb,h.2⟩)
    (fun s X Y h hb'=>⟨h.1.trans (hb'.mono hw3),h.2.1.below hb' hgr,h.2.2⟩)
    (fun s X h=>h.1) ⟨bH _,fun y hy=>by cases hy⟩ 9 141 (fun x=>#[.int .i64 x.1.n,.int .i64 x.1.f,.string ⟨x.1.b.1.toArray⟩,.string ⟨x.1.b.2.toArray⟩,.int .i64 x.1.v,.int .i64 x.1.d]) ?assign ?body ?done ?stop
   case assign =>
    intro lp x W K hK;simp only[ofA,hoV,sO]at hK ⊢
    gi_wp2
    have hk9:=hK _ _ (aA W _) (Bx.mk W _ _);simp only[List.setIfInBounds_toArray,List.set_cons_succ,List.set_cons_zero]at hk9;exact hk9
   case body =>
    rintro lp pre x gb W ⟨hbX,hpre⟩ HB hlen;simp only[ofA,hoV,sO,List.setIfInBounds_toArray,List.set_cons_succ,List.set_cons_zero];have B':=B.below hbX B.lt;have BT':=BT.below hbX BT.lt;have Gg:=BR.below hbX BR.lt;have hfx:=hva.2.fm _ x.2.1;have hfx0:=hfx.f0;have hfx2:=hfx.f2;have hok:=hva.1;have hlo1:=hok.l1;have hlo2:=hok.l2;dsimp only at hlo1 hlo2
    have hsp:Tf.Sp ⟨c,e,lo,re,pay⟩ x.1:=Tf.Ju (by dsimp only;omega) fun h=>by
     rcases hfx.v with ⟨a,-⟩|⟨-,a,-⟩
     · rw[h]at a;cases a
     · exact a
    obtain⟨sp1,sp2⟩:=hsp;dsimp only at sp2;have kE:=fun y os=>Df c e lo re pay x.1.n x.1.f x.1.v x.1.d x.1.b.1 x.1.b.2 (Sort.grow (redrawn W y) os) ⟨by omega,by omega⟩ ⟨by omega,by omega⟩
    have hfe:(⟨x.1.n,x.1.f,(x.1.b.1,x.1.b.2),x.1.v,x.1.d⟩:Tf.Ho)=x.1:=rfl;rw [hfe]at kE;have kW:=fun y os=>aO (bW t x.1.f (Tf.fin ⟨c,e,lo,re,pay⟩ x.1-1) (Sort.grow (redrawn W y) os))
    have hin:Kp (Tf.VB ⟨c,e,lo,re,pay⟩ x.1 t=Tp.within t x.1.f (Tf.fin ⟨c,e,lo,re,pay⟩ x.1-1)):=⟨by
     unfold Tf.VB Tp.within
     congr 1
     exact decide_eq_decide.2 (by omega)⟩
    have h0:=fun d os=>(HB.again d os).cell 0 rfl
    have h1:=fun d os=>(HB.again d os).cell 1 rfl
    have h2:=fun d os=>(HB.again d os).cell 2 rfl
    have h3:=fun d os=>(HB.again d os).cell 3 rfl
    have h4:=fun d os=>(HB.again d os).cell 4 rfl
    have h5:=fun d os=>(HB.again d os).cell 5 rfl
    have r0:=fun d os=>(B'.again d os).cell 0 rfl
    have r1:=fun d os=>(B'.again d os).cell 1 rfl
    have r2:=fun d os=>(B'.again d os).cell 2 rfl
    have r3:=fun d os=>(B'.again d os).cell 3 rfl
    have r4:=fun d os=>(B'.again d os).cell 4 rfl
    have y0:=fun d os=>(BT'.again d os).cell 0 rfl
    have hno:Kp (Tf.VB ⟨c,e,lo,re,pay⟩ x.1 t=true->res=true):=⟨fun hx3=>by
     rw[hd.out]
     unfold Tf.held
     rw[List.any_eq_true]
     exact⟨x.1,x.2.1,by rw[hx3,x.2.2];simp⟩⟩
    have hyes:Kp (Tf.VB ⟨c,e,lo,re,pay⟩ x.1 t=false->∀y∈pre++[x],Tf.VB ⟨c,e,lo,re,pay⟩ y.1 t=false):=⟨fun hx3 y hy=>by
     rcases List.mem_append.1 hy with hy|hy
     · exact hpre y hy
     · rw[List.mem_singleton.1 hy];exact hx3⟩
    rw[hin.out]at hno hyes;clear hfx hseq hpre hfe hva hA hs hd hin hok;generalize Tp.within t x.1.f (Tf.fin ⟨c,e,lo,re,pay⟩ x.1-1)=tb at *;generalize Tf.fin ⟨c,e,lo,re,pay⟩ x.1=fx at *
    cases tb with
    | true =>
     obtain rfl:=hno.out rfl
     gi_wp2
     refine wpIn_region_quiet (by kernel_rfl) (by kernel_rfl) (by kernel_rfl) ?_
     repeat (go_big_quiet_step (first|(go_at_call 108;with_reducible exact Calls.regrown_of (kE _ _))|(go_at_call 53;with_reducible exact Calls.regrown_of (kW _ _))))
     refine wpQuiet_nil ?_;rintro _ ⟨z,rfl⟩;refine ⟨rfl,?_⟩;have hbz:=below_regrown W z.d z.os;replace Gg:=Gg.call hbz;have hbw:=ah (hb.trans (hbX.mono hw3)) hbz;have hfr:=Fr.below (B:=W3.heap.size) hbz;clear kE kW h0 h1 h2 h3 h4 h5 r0 r1 r2 r3 r4 y0 hbz;generalize Sort.grow (redrawn W z.d) z.os=W5 at *;have d0:=Gg.cell 0 rfl;have f0:=Gg.frozen 0
     gi_wp2
     exact⟨hfr.trans (Fr.set hgr),aK hbw (p:=⟨w.heap.size+2,0,none⟩) (by show w.heap.size<=w.heap.size+2;omega) _,Gg.set 0 (.bool true),Kp.mk (by simp)⟩
    | false =>
     gi_wp2
     refine wpIn_region_quiet (by kernel_rfl) (by kernel_rfl) (by kernel_rfl) ?_
     repeat (go_big_quiet_step (first|(go_at_call 108;with_reducible exact Calls.regrown_of (kE _ _))|(go_at_call 53;with_reducible exact Calls.regrown_of (kW _ _))))
     refine wpQuiet_nil ?_;rintro _ ⟨z,rfl⟩;refine ⟨rfl,?_⟩;have hbz:=below_regrown W z.d z.os;clear kE kW h0 h1 h2 h3 h4 h5 r0 r1 r2 r3 r4 y0
     gi_wp2
     exact⟨Fr.below hbz,hbX.trans (hbz.mono hbX.size),hyes.out (by simp)⟩
   case done =>
    rintro D xs W hD hS ⟨hbX,hall⟩ hk
    have hres:res=false:=by
     rw[hd.out]
     unfold Tf.held
     rw[List.any_eq_false];intro h hh;by_cases hhn:h.n=number
     · obtain⟨y,hy,ey⟩:=hS h hh hhn;rw [←ey,hall y hy];simp
     · have:(h.n==number)=false:=by simpa using hhn
       rw[this];simp
    subst hres;have Gg:=BR.below hbX BR.lt;have hbw:=hb.trans (hbX.mono hw3);have d0:=Gg.cell 0 rfl;have f0:=Gg.frozen 0;have hM2:=(Marks.nil (w.heap.size+3) (w.heap.size+3) W).push (by omega) (Nat.le_refl _) hk;clear hall hS hseq hva hA hs hd;go_wp2;exact (hM2.set Gg 0 _).leave fun W' hb' hB'=>⟨_,fU rfl _ _ rfl (hB' _ _ _ (Gg.set 0 (.bool false))),rfl,(aK hbw (p:=⟨w.heap.size+2,0,none⟩) (by show w.heap.size<=w.heap.size+2;omega) _).trans (hb'.mono (by omega))⟩
   case stop =>
    rintro D pre W hD ⟨hbX,ZN,hr⟩ hk;obtain rfl:=hr.out;have hM2:=(Marks.nil (w.heap.size+3) (w.heap.size+3) W).push (by omega) (Nat.le_refl _) hk;clear hseq hva hA hs hd
    gi_wp2
    exact hM2.leave fun W' hb' hB'=>⟨_,fU rfl _ _ rfl (hB' _ _ _ ZN),rfl,hbX.trans (hb'.mono (by omega))⟩
 · rw[uZ hva]at hV;have hd:Kp (EX ⟨c,e,lo,re,pay⟩ l number t=false):=⟨heB_f hva number t⟩
   generalize EX ⟨c,e,lo,re,pay⟩ l number t=res at *;obtain rfl:=hd.out;go_wp2_with fail;refine (hV _ hA1 hE1).mono ?_;rintro _ w1 ⟨rfl,hb1⟩;replace BR:=BR.call hb1;replace hb:=ah hb hb1;have d0:=BR.cell 0 rfl;have f0:=BR.frozen 0;clear c0 c1 c2 c3 c4;go_wp2;exact ⟨_,fU rfl _ _ rfl (BR.set 0 (.bool false)),rfl,aK hb (p:=⟨w.heap.size+2,0,none⟩) (by show w.heap.size<=w.heap.size+2;omega) _⟩
theorem qR (c e lo re pay:Int) (l:List Tf.Ho) (A:Option Addr) (cap:Nat) (number t what:Int) (w:World) (hA:At 6 j_ w w.heap.size A l) (hn:l.length<=cap) (hl:l.length<=9223372036854775807) (hs:∀h∈l,Yi h) (hE:Env w) :
 aT 66 #[.agg #[.int .i64 c,.int .i64 e,.int .i64 lo,.int .i64 re,.int .i64 pay],.slice A l.length cap,.int .i64 number,.int .i64 t,.int .i64 what] w (.bool ((decide (what=1)||decide (what=2))&&EX ⟨c,e,lo,re,pay⟩ l number t)):=by
 have hb:=aA w (.cells #[.int .i64 c,.int .i64 e,.int .i64 lo,.int .i64 re,.int .i64 pay] 135);have B:=Bx.mk w 135 #[.int .i64 c,.int .i64 e,.int .i64 lo,.int .i64 re,.int .i64 pay];have hV:=yA c e lo re pay l A cap number t _ (hA.call hb) hn hl hs (hE.below hb);generalize EX ⟨c,e,lo,re,pay⟩ l number t=res at *;obtain ⟨c0,c1,c2,c3,c4⟩:=B.p5;clear hA hs;by_cases h1:what=1
 · subst h1
   go_enter Tryz.func66,Tryz.ntmps66
   go_wp2_with fail;refine hV.mono ?_;rintro _ w1 ⟨rfl,hb1⟩;go_wp2;go_ret;exact ⟨by simp,ah hb hb1⟩
 · by_cases h2:what=2
   · subst h2
     go_enter Tryz.func66,Tryz.ntmps66
     go_wp2_with fail;refine hV.mono ?_;rintro _ w1 ⟨rfl,hb1⟩;go_wp2;go_ret;exact ⟨by simp,ah hb hb1⟩
   · have t1:(what==1)=false:=by simpa using h1
     have t2:(what==2)=false:=by simpa using h2
     have hd:Kp (((decide (what=1)||decide (what=2))&&res)=false):=⟨by simp[h1,h2]⟩
     generalize ((decide (what=1)||decide (what=2))&&res)=rr at *;obtain rfl:=hd.out;clear hV
     go_enter Tryz.func66,Tryz.ntmps66
     go_wp2;go_ret;exact ⟨rfl,hb⟩
end Go.Proofs.YtohgjenaclfegaaGreatDoor

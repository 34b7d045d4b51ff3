import Derived.Test.YtohgjenaclfegaaGreatDoorQA06
import Derived.Test.YtohgjenaclfegaaGreatDoorQF00
import Derived.BigQuiet
import Derived.Laws.BitsAllLaws
set_option linter.unusedVariables false
set_option linter.unusedSimpArgs false
set_option maxRecDepth 100000
set_option maxHeartbeats 8000000
namespace Go.Proofs.YtohgjenaclfegaaGreatDoor
open Go.RowKit Go.Shelf
attribute [local go_sem] Oper.semAt_some
theorem J8 {P:Program} {w:World} {mty kt et:TypeId} {r clock i:Nat} {es:Array MapEntry} (hm:P.underlying mty=some (.map kt et)) (hk:P.underlying kt=some (.int .i64)) (hb:w.heap[r]? = some (.map es clock)) (key:Int) {v:Value}
 (hf:Instr.findNow (.int .i64) (.int .i64 key) es.toList 0=some (some (i,v))) :
 (Instr.lookup mty (.map (some r)) (.int .i64 key) false).run P w=.ok v w:=by
 have hc:(Instr.checkKey es.isEmpty 10000 kt (.int .i64 key)).run P w=.ok () w:=MapKept.run_checkKey (k:=.int .i64 key) hk (by simp[MapKept.IsKey]) _ 9999;simp [Instr.lookup,run_underlying hm,MapKept.run_getObj_map hb,hc,MapKept.run_findKey hk hf,Result.andThen]
def Y2:Array MapEntry:=#[{ key:=.int .i64 1,val:=.func (.func 175) #[] #[],born:=0 },{ key:=.int .i64 2,val:=.func (.func 176) #[] #[],born:=1 },{ key:=.int .i64 3,val:=.func (.func 177) #[] #[],born:=2 },{ key:=.int .i64 4,val:=.func (.func 178) #[] #[],born:=3 },{ key:=.int .i64 5,val:=.func (.func 179) #[] #[],born:=4 }]
def rE (v:Value) (w:World):Prop:=∃r,v=.map (some r)/\w.heap[r]? = some (.map Y2 5)
theorem rE.call {v:Value} {w w':World} (h:rE v w) (hb:Below w.heap.size w w'):rE v w':=by
 obtain⟨r,e,h⟩:=h;exact ⟨r,e,(hb.block r (Array.getElem?_eq_some_iff.1 h).1).trans h⟩
theorem CO (w:World):Calls Tryz.prog 122 #[] w fun e w'=>(∃v,e=.returned v/\rE v w')/\Below w.heap.size w w':=by
 have hm:=@run_makeMap Tryz.prog;have h0:(w.alloc (.map #[] 0)).heap[w.heap.size]? = some (.map #[] 0):=World.alloc_heap_new w _;have e1:(Instr.mapUpdate 213 (.map (some w.heap.size)) (.int .i64 1) (.func (.func 175) #[] #[])).run Tryz.prog (w.alloc (.map #[] 0))=.ok () ((w.alloc (.map #[] 0)).putObj w.heap.size (.map #[{ key:=.int .i64 1,val:=.func (.func 175) #[] #[],born:=0 }] 1)):=jA Tryz.underlying213 Tryz.underlying3 h0 1 _ rfl;have h1:=iC (o':=(.map #[{ key:=.int .i64 1,val:=.func (.func 175) #[] #[],born:=0 }] 1)) h0;have e2:(Instr.mapUpdate 213 (.map (some w.heap.size)) (.int .i64 2) (.func (.func 176) #[] #[])).run Tryz.prog ((w.alloc (.map #[] 0)).putObj w.heap.size (.map #[{ key:=.int .i64 1,val:=.func (.func 175) #[] #[],born:=0 }] 1))=.ok () (((w.alloc (.map #[] 0)).putObj w.heap.size (.map #[{ key:=.int .i64 1,val:=.func (.func 175) #[] #[],born:=0 }] 1)).putObj w.heap.size (.map #[{ key:=.int .i64 1,val:=.func (.func 175) #[] #[],born:=0 },{ key:=.int .i64 2,val:=.func (.func 176) #[] #[],born:=1 }] 2)):=jA Tryz.underlying213 Tryz.underlying3 h1 2 _ rfl;have h2:=iC (o':=(.map #[{ key:=.int .i64 1,val:=.func (.func 175) #[] #[],born:=0 },{ key:=.int .i64 2,val:=.func (.func 176) #[] #[],born:=1 }] 2)) h1;have e3:(Instr.mapUpdate 213 (.map (some w.heap.size)) (.int .i64 3) (.func (.func 177) #[] #[])).run Tryz.prog (((w.alloc (.map #[] 0)).putObj w.heap.size (.map #[{ key:=.int .i64 1,val:=.func (.func 175) #[] #[],born:=0 }] 1)).putObj w.heap.size (.map #[{ key:=.int .i64 1,val:=.func (.func 175) #[] #[],born:=0 },{ key:=.int .i64 2,val:=.func (.func 176) #[] #[],born:=1 }] 2))=.ok () ((((w.alloc (.map #[] 0)).putObj w.heap.size (.map #[{ key:=.int .i64 1,val:=.func (.func 175) #[] #[],born:=0 }] 1)).putObj w.heap.size (.map #[{ key:=.int .i64 1,val:=.func (.func 175) #[] #[],born:=0 },{ key:=.int .i64 2,val:=.func (.func 176) #[] #[],born:=1 }] 2)).putObj w.heap.size (.map #[{ key:=.int .i64 1,val:=.func (.func 175) #[] #[],born:=0 },{ key:=.int .i64 2,val:=.func (.func 176) #[] #[],born:=1 },{ key:=.int .i64 3,val:=.func (.func 177) #[] #[],born:=2 }] 3)):=jA Tryz.underlying213 Tryz.underlying3 h2 3 _ rfl;have h3:=iC (o':=(.map #[{ key:=.int .i64 1,val:=.func (.func 175) #[] #[],born:=0 },{ key:=.int .i64 2,val:=.func (.func 176) #[] #[],born:=1 },{ key:=.int .i64 3,val:=.func (.func 177) #[] #[],born:=2 }] 3)) h2;have e4:(Instr.mapUpdate 213 (.map (some w.heap.size)) (.int .i64 4) (.func (.func 178) #[] #[])).run Tryz.prog ((((w.alloc (.map #[] 0)).putObj w.heap.size (.map #[{ key:=.int .i64 1,val:=.func (.func 175) #[] #[],born:=0 }] 1)).putObj w.heap.size (.map #[{ key:=.int .i64 1,val:=.func (.func 175) #[] #[],born:=0 },{ key:=.int .i64 2,val:=.func (.func 176) #[] #[],born:=1 }] 2)).putObj w.heap.size (.map #[{ key:=.int .i64 1,val:=.func (.func 175) #[] #[],born:=0 },{ key:=.int .i64 2,val:=.func (.func 176) #[] #[],born:=1 },{ key:=.int .i64 3,val:=.func (.func 177) #[] #[],born:=2 }] 3))=.ok () (((((w.alloc (.map #[] 0)).putObj w.heap.size (.map #[{ key:=.int .i64 1,val:=.func (.func 175) #[] #[],born:=0 }] 1)).putObj w.heap.size (.map #[{ key:=.int .i64 1,val:=.func (.func 175) #[] #[],born:=0 },{ key:=.int .i64 2,val:=.func (.func 176) #[] #[],born:=1 }] 2)).putObj w.heap.size (.map #[{ key:=.int .i64 1,val:=.func (.func 175) #[] #[],born:=0 },{ key:=.int .i64 2,val:=.func (.func 176) #[] #[],born:=1 },{ key:=.int .i64 3,val:=.func (.func 177) #[] #[],born:=2 }] 3)).putObj w.heap.size (.map #[{ key:=.int .i64 1,val:=.func (.func 175) #[] #[],born:=0 },{ key:=.int .i64 2,val:=.func (.func 176) #[] #[],born:=1 },{ key:=.int .i64 3,val:=.func (.func 177) #[] #[],born:=2 },{ key:=.int .i64 4,val:=.func (.func 178) #[] #[],born:=3 }] 4)):=jA Tryz.underlying213 Tryz.underlying3 h3 4 _ rfl;have h4:=iC (o':=(.map #[{ key:=.int .i64 1,val:=.func (.func 175) #[] #[],born:=0 },{ key:=.int .i64 2,val:=.func (.func 176) #[] #[],born:=1 },{ key:=.int .i64 3,val:=.func (.func 177) #[] #[],born:=2 },{ key:=.int .i64 4,val:=.func (.func 178) #[] #[],born:=3 }] 4)) h3;have e5:(Instr.mapUpdate 213 (.map (some w.heap.size)) (.int .i64 5) (.func (.func 179) #[] #[])).run Tryz.prog (((((w.alloc (.map #[] 0)).putObj w.heap.size (.map #[{ key:=.int .i64 1,val:=.func (.func 175) #[] #[],born:=0 }] 1)).putObj w.heap.size (.map #[{ key:=.int .i64 1,val:=.func (.func 175) #[] #[],born:=0 },{ key:=.int .i64 2,val:=.func (.func 176) #[] #[],born:=1 }] 2)).putObj w.heap.size (.map #[{ key:=.int .i64 1,val:=.func (.func 175) #[] #[],born:=0 },{ key:=.int .i64 2,val:=.func (.func 176) #[] #[],born:=1 },{ key:=.int .i64 3,val:=.func (.func 177) #[] #[],born:=2 }] 3)).putObj w.heap.size (.map #[{ key:=.int .i64 1,val:=.func (.func 175) #[] #[],born:=0 },{ key:=.int .i64 2,val:=.func (.func 176) #[] #[],born:=1 },{ key:=.int .i64 3,val:=.func (.func 177) #[] #[],born:=2 },{ key:=.int .i64 4,val:=.func (.func 178) #[] #[],born:=3 }] 4))=.ok () ((((((w.alloc (.map #[] 0)).putObj w.heap.size (.map #[{ key:=.int .i64 1,val:=.func (.func 175) #[] #[],born:=0 }] 1)).putObj w.heap.size (.map #[{ key:=.int .i64 1,val:=.func (.func 175) #[] #[],born:=0 },{ key:=.int .i64 2,val:=.func (.func 176) #[] #[],born:=1 }] 2)).putObj w.heap.size (.map #[{ key:=.int .i64 1,val:=.func (.func 175) #[] #[],born:=0 },{ key:=.int .i64 2,val:=.func (.func 176) #[] #[],born:=1 },{ key:=.int .i64 3,val:=.func (.func 177) #[] #[],born:=2 }] 3)).putObj w.heap.size (.map #[{ key:=.int .i64 1,val:=.func (.func 175) #[] #[],born:=0 },{ key:=.int .i64 2,val:=.func (.func 176) #[] #[],born:=1 },{ key:=.int .i64 3,val:=.func (.func 177) #[] #[],born:=2 },{ key:=.int .i64 4,val:=.func (.func 178) #[] #[],born:=3 }] 4)).putObj w.heap.size (.map #[{ key:=.int .i64 1,val:=.func (.func 175) #[] #[],born:=0 },{ key:=.int .i64 2,val:=.func (.func 176) #[] #[],born:=1 },{ key:=.int .i64 3,val:=.func (.func 177) #[] #[],born:=2 },{ key:=.int .i64 4,val:=.func (.func 178) #[] #[],born:=3 },{ key:=.int .i64 5,val:=.func (.func 179) #[] #[],born:=4 }] 5)):=jA Tryz.underlying213 Tryz.underlying3 h4 5 _ rfl;have h5:=iC (o':=(.map #[{ key:=.int .i64 1,val:=.func (.func 175) #[] #[],born:=0 },{ key:=.int .i64 2,val:=.func (.func 176) #[] #[],born:=1 },{ key:=.int .i64 3,val:=.func (.func 177) #[] #[],born:=2 },{ key:=.int .i64 4,val:=.func (.func 178) #[] #[],born:=3 },{ key:=.int .i64 5,val:=.func (.func 179) #[] #[],born:=4 }] 5)) h4;have hb:=((((((bY w (.map #[] 0)).trans (bF (Nat.le_refl _) h0 (o':=(.map #[{ key:=.int .i64 1,val:=.func (.func 175) #[] #[],born:=0 }] 1)))).trans (bF (Nat.le_refl _) h1 (o':=(.map #[{ key:=.int .i64 1,val:=.func (.func 175) #[] #[],born:=0 },{ key:=.int .i64 2,val:=.func (.func 176) #[] #[],born:=1 }] 2)))).trans (bF (Nat.le_refl _) h2 (o':=(.map #[{ key:=.int .i64 1,val:=.func (.func 175) #[] #[],born:=0 },{ key:=.int .i64 2,val:=.func (.func 176) #[] #[],born:=1 },{ key:=.int .i64 3,val:=.func (.func 177) #[] #[],born:=2 }] 3)))).trans (bF (Nat.le_refl _) h3 (o':=(.map #[{ key:=.int .i64 1,val:=.func (.func 175) #[] #[],born:=0 },{ key:=.int .i64 2,val:=.func (.func 176) #[] #[],born:=1 },{ key:=.int .i64 3,val:=.func (.func 177) #[] #[],born:=2 },{ key:=.int .i64 4,val:=.func (.func 178) #[] #[],born:=3 }] 4)))).trans (bF (Nat.le_refl _) h4 (o':=(.map #[{ key:=.int .i64 1,val:=.func (.func 175) #[] #[],born:=0 },{ key:=.int .i64 2,val:=.func (.func 176) #[] #[],born:=1 },{ key:=.int .i64 3,val:=.func (.func 177) #[] #[],born:=2 },{ key:=.int .i64 4,val:=.func (.func 178) #[] #[],born:=3 },{ key:=.int .i64 5,val:=.func (.func 179) #[] #[],born:=4 }] 5))))
 clear h0 h1 h2 h3 h4
 go_enter Tryz.func122,Tryz.ntmps122
 go_wp2;go_ret;exact ⟨⟨_,rfl,_,rfl,h5⟩,hb⟩
attribute [local go_sem] Oper.semAt_some
def vV:Array Value:=#[.int .i64 1,.int .i64 3,.int .i64 3,.bool false]
theorem DF (w:World):bP 175 #[.agg vV] w (.bool true):=by
 unfold vV
 have hb:=bY w (.cells #[.int .i64 1,.int .i64 3,.int .i64 3,.bool false] 216);have B:=Bx.mk w 216 #[.int .i64 1,.int .i64 3,.int .i64 3,.bool false];have c1:=B.cell 1 rfl;have c2:=B.cell 2 rfl;have hI:=fun w0=>fF 3 0 3 w0
 go_enter Tryz.func175,Tryz.ntmps175
 go_wp2_with fail;refine (hI _).mono ?_;rintro _ w1 ⟨rfl,hb1⟩;replace hb:=ah hb hb1;replace B:=B.call hb1;clear c1 c2 hb1;have c2:=B.cell 2 rfl;go_wp2;go_ret;exact ⟨rfl,hb⟩
theorem Um (f:Nat) (w:World):(binOp .eql 215 (.func (.func f) #[] #[]) .nilFunc).run Tryz.prog w=.ok (.bool false) w:=by kernel_rfl
theorem Oq (gM:Nat) (v:Value) (w:World) (BM:Bx w gM 213 #[v]) (hv:rE v w):bP 123 #[.agg vV,.pointer (some ⟨gM,0,none⟩)] w (.bool false):=by
 have hL:=fun w0=>DF w0
 unfold vV at *
 have hb:=bY w (.cells #[.int .i64 1,.int .i64 3,.int .i64 3,.bool false] 41);have B:=Bx.mk w 41 #[.int .i64 1,.int .i64 3,.int .i64 3,.bool false];replace BM:=BM.call hb;replace hv:=hv.call hb;obtain ⟨r,rfl,hr⟩:=hv;have hl:=J8 Tryz.underlying213 Tryz.underlying3 hr 1 (i:=0) (v:=.func (.func 175) #[] #[]) rfl;have m0:=BM.cell 0 rfl;obtain ⟨c0,c1,c2,c3⟩:=B.p4;have hq:=fun w0=>Um 175 w0
 clear hr BM
 go_enter Tryz.func123,Tryz.ntmps123
 go_wp2_with fail;refine (hL _).mono ?_;rintro _ w1 ⟨rfl,hb1⟩;replace hb:=ah hb hb1;clear m0 c0 c1 c2 c3 hb1 hl;go_wp2;go_ret;exact ⟨rfl,hb⟩
theorem GV (gC gM:Nat) (v:Value) (w:World) (BC:Bx w gC 41 vV) (BM:Bx w gM 213 #[v]) (hv:rE v w):bP 181 #[.slice (some ⟨gC,0,none⟩) 1 1,.func (.func 123) #[] #[.pointer (some ⟨gM,0,none⟩)]] w (.int .i64 (-1)):=by
 have hP:=fun w0 (hb0:Below w.heap.size w w0)=>Oq gM v w0 (BM.call hb0) (hv.call hb0)
 have hC:=fun w0 (hb0:Below w.heap.size w w0)=>BC.call hb0
 have hb0:=aP w
 unfold vV at *
 clear BM hv BC
 go_enter Tryz.func181,Tryz.ntmps181
 go_wp2_with fail
 go_loopw [8] (fun s8 wr=>∃k:Nat,k<=1/\s8=.int .i64 k/\Below w.heap.size w wr) (fun s8 _=>1-(intOf s8).toNat)
 case atStart=>exact⟨0,Nat.zero_le _,rfl,hb0⟩
 case round =>
  clear hb0;obtain ⟨k,hk,rfl,hb⟩:=hrel;by_cases hlt:k<1
  · obtain rfl:k=0:=by omega
    have B:=hC wr hb;have hP1:=hP wr hb;obtain ⟨c0,c1,c2,c3⟩:=B.p4;go_wp2_with fail;refine hP1.mono ?_;rintro _ w1 ⟨rfl,hb1⟩;replace hb:=ah hb hb1;clear hP1 hb1 c0 c1 c2 c3 B;go_wp2;exact ⟨⟨1,by omega,rfl,hb⟩,by simp[intOf]⟩
  · obtain rfl:k=1:=by omega
    go_wp2;go_ret;exact ⟨rfl,hb⟩
theorem H_ (gC gM:Nat) (v:Value) (w:World) (BC:Bx w gC 41 vV) (BM:Bx w gM 213 #[v]) (hv:rE v w):bP 127 #[.slice (some ⟨gC,0,none⟩) 1 1,.func (.func 123) #[] #[.pointer (some ⟨gM,0,none⟩)]] w (.bool false):=by
 have hI:=GV gC gM v w BC BM hv;clear BC BM hv
 go_enter Tryz.func127,Tryz.ntmps127
 go_wp2_with fail;refine hI.mono ?_;rintro _ w1 ⟨rfl,hb1⟩;clear hI;go_wp2;go_ret;exact ⟨rfl,hb1⟩
attribute [local go_sem] Oper.semAt_some
@[local go_sem] theorem run_store_func {P : Program} {w : World} {a : Addr} {m : Mode} (f : Fn) (x y : Array Value) : (store a (.func f x y) m).run P w = stored P w a (.func f x y) m := run_store P w a _ m rfl
theorem Ac (n:Int) (w:World) (h:1<=n/\n<=4):bP 124 #[.int .i64 n] w (.bool true):=by
 have hI:=fun w0=>fF n 1 4 w0
 rw[decide_eq_true h.1,decide_eq_true h.2]at hI
 go_enter Tryz.func124,Tryz.ntmps124
 go_wp2_with fail;refine (hI _).mono ?_;rintro _ w1 ⟨rfl,hb1⟩;go_wp2;go_ret;exact ⟨rfl,hb1⟩
structure CB (gR gC:Nat) (w:World):Prop where
 br:Bx w gR 44 #[.slice (some ⟨gC,0,none⟩) 1 1,.int .i64 1]
 bc:Bx w gC 41 vV
theorem CB.call {gR gC:Nat} {w w':World} (h:CB gR gC w) (hb:Below w.heap.size w w'):CB gR gC w':=⟨h.br.call hb,h.bc.call hb⟩
theorem Oo (gR gC g4 gM:Nat) (v:Value) (w:World) (hF:CB gR gC w) (B4:Bx w g4 128 #[.func (.func 123) #[] #[.pointer (some ⟨gM,0,none⟩)]]) (BM:Bx w gM 213 #[v]) (hv:rE v w) :
 bP 126 #[.agg #[.slice (some ⟨gC,0,none⟩) 1 1,.int .i64 1],.pointer (some ⟨g4,0,none⟩)] w (.bool false):=by
 have hP:=fun w0 (hb0:Below w.heap.size w w0)=>H_ gC gM v w0 (hF.bc.call hb0) (BM.call hb0) (hv.call hb0)
 have hA:=fun w0=>Ac 1 w0 (by decide)
 have hb:=bY w (.cells #[.slice (some ⟨gC,0,none⟩) 1 1,.int .i64 1] 44);have B:=Bx.mk w 44 #[.slice (some ⟨gC,0,none⟩) 1 1,.int .i64 1];replace B4:=B4.call hb;have c0:=B.cell 0 rfl;have c1:=B.cell 1 rfl;clear hF BM hv
 go_enter Tryz.func126,Tryz.ntmps126
 go_wp2_with fail;refine (hA _).mono ?_;rintro _ w1 ⟨rfl,hb1⟩;replace hb:=ah hb hb1;replace B:=B.call hb1;replace B4:=B4.call hb1;clear c0 c1 hb1 hA;have c0:=B.cell 0 rfl;have k0:=B4.cell 0 rfl;have hP1:=hP _ hb;clear hP;go_wp2_with fail;refine hP1.mono ?_;rintro _ w2 ⟨rfl,hb1⟩;replace hb:=ah hb hb1;clear c0 k0 hP1 hb1;go_wp2;go_ret;exact ⟨rfl,hb⟩
theorem GU (gR gC g4 gM:Nat) (v:Value) (w:World) (hF:CB gR gC w) (B4:Bx w g4 128 #[.func (.func 123) #[] #[.pointer (some ⟨gM,0,none⟩)]]) (BM:Bx w gM 213 #[v]) (hv:rE v w) :
 bP 180 #[.slice (some ⟨gR,0,none⟩) 1 1,.func (.func 126) #[] #[.pointer (some ⟨g4,0,none⟩)]] w (.int .i64 (-1)):=by
 have hP:=fun w0 (hb0:Below w.heap.size w w0)=>Oo gR gC g4 gM v w0 (hF.call hb0) (B4.call hb0) (BM.call hb0) (hv.call hb0)
 have hC:=fun w0 (hb0:Below w.heap.size w w0)=>hF.br.call hb0
 have hb0:=aP w;clear BM hv hF B4
 go_enter Tryz.func180,Tryz.ntmps180
 go_wp2_with fail
 go_loopw [8] (fun s8 wr=>∃k:Nat,k<=1/\s8=.int .i64 k/\Below w.heap.size w wr) (fun s8 _=>1-(intOf s8).toNat)
 case atStart=>exact⟨0,Nat.zero_le _,rfl,hb0⟩
 case round =>
  clear hb0;obtain ⟨k,hk,rfl,hb⟩:=hrel;by_cases hlt:k<1
  · obtain rfl:k=0:=by omega
    have B:=hC wr hb;have hP1:=hP wr hb;have c0:=B.cell 0 rfl;have c1:=B.cell 1 rfl;go_wp2_with fail;refine hP1.mono ?_;rintro _ w1 ⟨rfl,hb1⟩;replace hb:=ah hb hb1;clear hP1 hb1 c0 c1 B;go_wp2;exact ⟨⟨1,by omega,rfl,hb⟩,by simp[intOf]⟩
  · obtain rfl:k=1:=by omega
    go_wp2;go_ret;exact ⟨rfl,hb⟩
theorem H9 (gR gC g4 gM:Nat) (v:Value) (w:World) (hF:CB gR gC w) (B4:Bx w g4 128 #[.func (.func 123) #[] #[.pointer (some ⟨gM,0,none⟩)]]) (BM:Bx w gM 213 #[v]) (hv:rE v w) :
 bP 125 #[.slice (some ⟨gR,0,none⟩) 1 1,.func (.func 126) #[] #[.pointer (some ⟨g4,0,none⟩)]] w (.bool false):=by
 have hI:=GU gR gC g4 gM v w hF B4 BM hv;clear hF B4 BM hv
 go_enter Tryz.func125,Tryz.ntmps125
 go_wp2_with fail;refine hI.mono ?_;rintro _ w1 ⟨rfl,hb1⟩;clear hI;go_wp2;go_ret;exact ⟨rfl,hb1⟩
theorem Hr (gR gC:Nat) (w:World) (hF:CB gR gC w):bP 76 #[.agg #[.slice (some ⟨gR,0,none⟩) 1 1,.int .i64 4]] w (.bool true):=by
 have hb:=bY w (.cells #[.slice (some ⟨gR,0,none⟩) 1 1,.int .i64 4] 47);have B:=Bx.mk w 47 #[.slice (some ⟨gR,0,none⟩) 1 1,.int .i64 4];replace hF:=hF.call hb;have hA:=fun w0=>Ac 4 w0 (by decide)
 go_enter Tryz.func76,Tryz.ntmps76
 go_wp2_with fail;refine (CO _).mono ?_;rintro _ w1 ⟨⟨v,rfl,hv⟩,hb1⟩;replace hb:=ah hb hb1;replace B:=B.call hb1;replace hF:=hF.call hb1;have hbn:=bNew (bY w1 (.cells #[v] 213)) (.cells #[.func (.func 123) #[] #[.pointer (some ⟨w1.heap.size,0,none⟩)]] 128);have BM:=(Bx.mk w1 213 #[v]).new (.cells #[.func (.func 123) #[] #[.pointer (some ⟨w1.heap.size,0,none⟩)]] 128);have B4:=Bx.mk (w1.alloc (.cells #[v] 213)) 128 #[.func (.func 123) #[] #[.pointer (some ⟨w1.heap.size,0,none⟩)]];rw [World.size_alloc]at B4;replace hb:=ah hb hbn;replace B:=B.call hbn;replace hF:=hF.call hbn;replace hv:=hv.call hbn;have c0:=B.cell 0 rfl;have c1:=B.cell 1 rfl;obtain ⟨r,rfl,hr⟩:=hv;clear hb1 hbn;go_wp2_with fail;refine (hA _).mono ?_;rintro _ w2 ⟨rfl,hb1⟩;replace hb:=ah hb hb1;replace B:=B.call hb1;replace hF:=hF.call hb1;have hv:rE (.map (some r)) w2:=rE.call ⟨r,rfl,hr⟩ hb1;replace BM:=BM.call hb1;replace B4:=B4.call hb1;clear c0 c1 hb1 hA hr;have c0:=B.cell 0 rfl;have hP1:=H9 gR gC (w1.heap.size+1) w1.heap.size (.map (some r)) w2 hF B4 BM hv;clear hF hv;go_wp2_with fail;refine hP1.mono ?_;rintro _ w3 ⟨rfl,hb1⟩;replace hb:=ah hb hb1;clear c0 hP1 hb1;go_wp2;go_ret;exact ⟨rfl,hb⟩
theorem Aw (n:Int) (w:World) (h:0<=n/\n<=99999999):bP 27 #[.int .i64 n] w (.bool true):=by
 have hI:=fun w0=>fF n 0 99999999 w0
 rw[decide_eq_true h.1,decide_eq_true h.2]at hI
 go_enter Tryz.func27,Tryz.ntmps27
 go_wp2_with fail;refine (hI _).mono ?_;rintro _ w1 ⟨rfl,hb1⟩;go_wp2;go_ret;exact ⟨rfl,hb1⟩
def mZ (d:Sh.Dl) (lv:Int):Array Value:=#[.int .i64 d.r,.int .i64 d.d,.int .i64 d.t,.int .i64 lv,.int .i64 0,.bool false]
structure rF (d:Sh.Dl) (lv:Int):Prop where
 kr:0<=d.r/\d.r<=99999999
 kd:0<=d.d/\d.d<=99999999
 kt:0<=d.t/\d.t<=10000000
 kl:0<=lv/\lv<=3
theorem GN (d:Sh.Dl) (lv:Int) (w:World) (h:rF d lv):bP 78 #[.agg (mZ d lv)] w (.bool true):=by
 have hN1:=fun w0=>Aw d.r w0 h.kr
 have E5:=fun w0=>Aw d.d w0 h.kd
 have hI1:=fun w0=>fF d.t 0 10000000 w0
 have hI2:=fun w0=>fF lv 0 3 w0
 have Vb:=fun w0=>fF 0 0 5 w0
 rw[decide_eq_true h.kt.1,decide_eq_true h.kt.2]at hI1;rw [decide_eq_true h.kl.1,decide_eq_true h.kl.2]at hI2;clear h;have hb:=bY w (.cells (mZ d lv) 49);have B:=Bx.mk w 49 (mZ d lv)
 unfold mZ at *
 have c0:=B.cell 0 rfl
 go_enter Tryz.func78,Tryz.ntmps78
 go_wp2_with fail;refine (hN1 _).mono ?_;rintro _ w1 ⟨rfl,hb1⟩;replace hb:=ah hb hb1;replace B:=B.call hb1;clear c0 hb1 hN1;have c1:=B.cell 1 rfl;go_wp2_with fail;refine (E5 _).mono ?_;rintro _ w2 ⟨rfl,hb1⟩;replace hb:=ah hb hb1;replace B:=B.call hb1;clear c1 hb1 E5;have c1:=B.cell 2 rfl;go_wp2_with fail;refine (hI1 _).mono ?_;rintro _ w3 ⟨rfl,hb1⟩;replace hb:=ah hb hb1;replace B:=B.call hb1;clear c1 hb1 hI1;have c1:=B.cell 3 rfl;go_wp2_with fail;refine (hI2 _).mono ?_;rintro _ w4 ⟨rfl,hb1⟩;replace hb:=ah hb hb1;replace B:=B.call hb1;clear c1 hb1 hI2;have c1:=B.cell 4 rfl;go_wp2_with fail;refine (Vb _).mono ?_;rintro _ w5 ⟨rfl,hb1⟩;replace hb:=ah hb hb1;clear c1 hb1 Vb;go_wp2;go_ret;exact ⟨rfl,hb⟩
def RD (gR:Nat) (d:Sh.Dl) (lv:Int):Array Value:=#[.slice (some ⟨gR,0,none⟩) 1 1,.int .i64 4,.slice none 0 0,.slice none 0 0,.slice none 0 0,.int .i64 d.r,.int .i64 d.d,.int .i64 d.t,.int .i64 lv,.int .i64 0,.bool false]
theorem rM (gR gC:Nat) (d:Sh.Dl) (lv:Int) (w:World) (hF:CB gR gC w) (h:rF d lv) :
 Calls Tryz.prog 31 #[.agg #[.slice (some ⟨gR,0,none⟩) 1 1,.int .i64 4],.agg #[.slice none 0 0,.slice none 0 0,.slice none 0 0],.agg (mZ d lv)] w fun e w'=>(∃g,e=.returned (.tuple #[.pointer (some ⟨g,0,none⟩),.int .i64 0])/\w.heap.size<=g/\Bx w' g 163 (RD gR d lv))/\Below w.heap.size w w':=by
 have hV:=fun w0 (hb0:Below w.heap.size w w0)=>Hr gR gC w0 (hF.call hb0)
 have hS:=fun w0=>FZ w0
 have hC:=fun w0=>GN d lv w0 h
 have hb:=bNew (bNew (bY w (.cells #[.slice (some ⟨gR,0,none⟩) 1 1,.int .i64 4] 47)) (.cells #[.slice none 0 0,.slice none 0 0,.slice none 0 0] 62)) (.cells (mZ d lv) 49);have B3:=((Bx.mk w 47 #[.slice (some ⟨gR,0,none⟩) 1 1,.int .i64 4]).new (.cells #[.slice none 0 0,.slice none 0 0,.slice none 0 0] 62)).new (.cells (mZ d lv) 49);have B4:=(Bx.mk (w.alloc (.cells #[.slice (some ⟨gR,0,none⟩) 1 1,.int .i64 4] 47)) 62 #[.slice none 0 0,.slice none 0 0,.slice none 0 0]).new (.cells (mZ d lv) 49);have B5:=Bx.mk ((w.alloc (.cells #[.slice (some ⟨gR,0,none⟩) 1 1,.int .i64 4] 47)).alloc (.cells #[.slice none 0 0,.slice none 0 0,.slice none 0 0] 62)) 49 (mZ d lv);simp only[World.size_alloc]at B4 B5
 unfold mZ at *
 unfold RD
 have a0:=B3.cell 0 rfl;have a1:=B3.cell 1 rfl;have hV1:=hV _ hb;clear hV hF h
 go_enter Tryz.func31,Tryz.ntmps31
 go_wp2_with fail;refine hV1.mono ?_;rintro _ w1 ⟨rfl,hb1⟩;replace hb:=ah hb hb1;replace B3:=B3.call hb1;replace B4:=B4.call hb1;replace B5:=B5.call hb1;clear a0 a1 hb1 hV1;obtain ⟨a0,a1,a2⟩:=B4.p3;go_wp2_with fail;refine (hS _).mono ?_;rintro _ w2 ⟨rfl,hb1⟩;replace hb:=ah hb hb1;replace B3:=B3.call hb1;replace B4:=B4.call hb1;replace B5:=B5.call hb1;clear a0 a1 a2 hb1 hS;obtain ⟨a0,a1,a2,a3,a4,a5⟩:=B5.p6;go_wp2_with fail;refine (hC _).mono ?_;rintro _ w3 ⟨rfl,hb1⟩;replace hb:=ah hb hb1;replace B3:=B3.call hb1;replace B4:=B4.call hb1;replace B5:=B5.call hb1;clear a0 a1 a2 a3 a4 a5 hb1 hC;obtain ⟨a0,a1,a2,a3,a4,a5⟩:=B5.p6;obtain ⟨e0,e1,e2⟩:=B4.p3;have f0:=B3.cell 0 rfl;have f1:=B3.cell 1 rfl;have hw3:=hb.size;go_wp2_with fail
 go_ret2
 exact⟨⟨_,rfl,hw3,Bx.mk w3 163 _⟩,bNew hb _⟩
attribute [local go_sem] Oper.semAt_some
theorem tK (gR gD:Nat) (d:Sh.Dl) (lv:Int) (w:World) (BD:Bx w gD 163 (RD gR d lv)) (h:rF d lv) (res:Bool) (hres:(lv==3)=res) :
 bP 51 #[.pointer (some ⟨gD,0,none⟩),.agg vV] w (.bool res):=by
 have hI:=fun w0=>fF lv 3 3 w0
 have hp:(decide (3<=lv)&&decide (lv<=3))=res:=by
  rw[←hres];by_cases h3:lv=3
  · subst h3;rfl
  · have h1:(lv==3)=false:=beq_eq_false_iff_ne.2 h3;rw [h1];by_cases h4:3<=lv
    · rw[decide_eq_true h4,decide_eq_false (by omega)];rfl
    · rw[decide_eq_false h4];rfl
 rw[hp]at hI;have ht:=h.kt;clear hp hres h;have hb:=bY w (.cells vV 41);have B:=Bx.mk w 41 vV;replace BD:=BD.call hb
 unfold vV RD at *
 have c0:=B.cell 0 rfl;have t7:=BD.cell 7 rfl
 go_enter Tryz.func51,Tryz.ntmps51
 go_upto_region 5 with fail;generalize w.alloc (.cells #[.int .i64 1,.int .i64 3,.int .i64 3,.bool false] 41)=W at *;clear c0 t7;have kE:=fun dd os=>hI (Sort.grow (redrawn W dd) os)
 have r1:=fun dd os=>(B.again dd os).cell 1 rfl
 have r2:=fun dd os=>(B.again dd os).cell 2 rfl
 have r8:=fun dd os=>(BD.again dd os).cell 8 rfl
 refine wp_region_quiet_below (by kernel_rfl) (by kernel_rfl) ?_
 repeat (go_big_quiet_step (first
  | (go_at_call 28;with_reducible exact Calls.regrown_of (kE _ _))))
 refine wpQuiet_nil ?_;rintro _ ⟨q,rfl⟩;have hb1:=below_regrown W q.d q.os;replace hb:=ah hb hb1;replace B:=B.call hb1;generalize Sort.grow (redrawn W q.d) q.os=W2 at *;clear kE r1 r2 r8 hb1 hI;have c3:=B.cell 3 rfl
 cases res with
 | true =>
  go_wp2;go_ret;exact ⟨rfl,hb⟩
 | false =>
  go_wp2;go_ret;exact ⟨rfl,hb⟩
theorem KX (gR gD:Nat) (d:Sh.Dl) (lv:Int) (w:World) (BD:Bx w gD 163 (RD gR d lv)) (h:rF d lv) (res:Bool) (hres:(lv==3)=res) :
 bP 79 #[.pointer (some ⟨gD,0,none⟩),.agg vV] w (.tuple #[.bool res,.slice none 0 0]):=by
 have hP:=fun w0 (hb0:Below w.heap.size w w0)=>tK gR gD d lv w0 (BD.call hb0) h res hres
 have hb:=bY w (.cells vV 41);have B:=Bx.mk w 41 vV
 unfold vV at *
 obtain⟨c0,c1,c2,c3⟩:=B.p4;have hP1:=hP _ hb;clear hP BD h hres
 go_enter Tryz.func79,Tryz.ntmps79
 go_wp2_with fail;refine hP1.mono ?_;rintro _ w1 ⟨rfl,hb1⟩;replace hb:=ah hb hb1;clear c0 c1 c2 c3 hP1 hb1;go_wp2
 go_ret2
 exact⟨rfl,hb⟩
attribute [local go_sem] Oper.semAt_some
theorem zU (gR gC gD:Nat) (d:Sh.Dl) (lv:Int) (w:World) (hF:CB gR gC w) (BD:Bx w gD 163 (RD gR d lv)) (h:rF d lv) (res:Bool) (hres:(lv==3)=res) :
 bP 32 #[.pointer (some ⟨gD,0,none⟩),.int .i64 0] w (.tuple #[.int .i64 (if res then -1 else 0),.slice none 0 0]):=by
 have hP:=fun w0 (hb0:Below w.heap.size w w0)=>KX gR gD d lv w0 (BD.call hb0) h res hres
 have DU:=fun w0 (hb0:Below w.heap.size w w0)=>hF.call hb0
 have hb0:=aP w;have BR:=hF.br;clear hF h hres
 unfold RD vV at *
 have t0:=BD.cell 0 rfl;have u0:=BR.cell 0 rfl;clear BR BD
 go_enter Tryz.func32,Tryz.ntmps32
 go_wp2_with fail
 go_loopw [21,6] (fun Y9 s6 wr=>∃k:Nat,k<=1/\Y9=.int .i64 k/\s6=.slice none 0 0/\(k=1->Kp (res=true))/\Below w.heap.size w wr) (fun Y9 _ _=>1-(intOf Y9).toNat)
 case atStart=>exact⟨0,Nat.zero_le _,rfl,rfl,(fun h=>by cases h),hb0⟩
 case round =>
  clear hb0 t0 u0;obtain ⟨k,hk,rfl,rfl,hkr,hb⟩:=hrel;by_cases hlt:k<1
  · obtain rfl:k=0:=by omega
    have B:=(DU wr hb).bc
    unfold vV at B
    obtain⟨c0,c1,c2,c3⟩:=B.p4;have hbn:=bY wr (.cells #[.int .i64 1,.int .i64 3,.int .i64 3,.bool false] 41);have BN:=Bx.mk wr 41 #[.int .i64 1,.int .i64 3,.int .i64 3,.bool false];replace hb:=ah hb hbn;have hP1:=hP _ hb;clear hbn B hkr;go_upto_region 5 with fail;clear c0 c1 c2 c3;generalize wr.alloc (.cells #[.int .i64 1,.int .i64 3,.int .i64 3,.bool false] 41)=W at *;obtain ⟨c0,c1,c2,c3⟩:=BN.p4;go_wp2_with fail;refine hP1.mono ?_;rintro _ w1 ⟨rfl,hb1⟩;replace hb:=ah hb hb1;clear hP1 hb1 c0 c1 c2 c3 BN
    cases res with
    | false =>
     go_wp2_with fail
     go_ret2
     exact⟨rfl,hb⟩
    | true =>
     go_wp2_with fail;exact ⟨⟨1,by omega,rfl,rfl,(fun _=>⟨trivial⟩),hb⟩,by simp[intOf]⟩
  · obtain rfl:k=1:=by omega
    have hr:=(hkr rfl).out;subst hr;go_wp2
    go_ret2
    exact⟨rfl,hb⟩
attribute [local go_sem] Oper.semAt_some
theorem tH {fn:Func} {t u:Tmp} {g:Nat} {a b c d f:Value} (hf:fn.results=#[.cell t 55,.tmp u]) (tmps:Array Value) (w:World) (ht:tmps.getD t undef=.pointer (some ⟨g,0,none⟩)) (hu:tmps.getD u undef=f) (hB:Bx w g 55 #[a,b,c,d]) :
 (results fn tmps).run Tryz.prog w=.ok (.tuple #[.agg #[a,b,c,d],f]) w:=by
 obtain⟨h0,h1,h2,h3⟩:=hB.p4;have ht':tmps[t]?.getD undef=.pointer (some ⟨g,0,none⟩):=by simpa using ht
 have hu':tmps[u]?.getD undef=f:=by simpa using hu
 simp only[results,hf];simp [go_sem,ht',hu',h0,h1,h2,h3,loadVar]
theorem D7 (gR gC:Nat) (d:Sh.Dl) (w:World) (hF:CB gR gC w) (h:rF d 3) :
 bP 10 #[.agg #[.slice (some ⟨gR,0,none⟩) 1 1,.int .i64 4],.agg #[.slice none 0 0,.slice none 0 0,.slice none 0 0],.agg (mZ d 3)] w (.tuple #[.agg #[.int .i64 1,.int .i64 0,.slice none 0 0,.slice none 0 0],.int .i64 0]):=by
 have hO:=fun w0 (hb0:Below w.heap.size w w0)=>rM gR gC d 3 w0 (hF.call hb0) h
 have hM:=fun gD w0 (hb0:Below w.heap.size w w0) BD=>zU gR gC gD d 3 w0 (hF.call hb0) BD h true rfl
 have DU:=fun w0 (hb0:Below w.heap.size w w0)=>hF.call hb0
 have hb:=bNew (bNew (bNew (bY w (.cells #[.slice (some ⟨gR,0,none⟩) 1 1,.int .i64 4] 47)) (.cells #[.slice none 0 0,.slice none 0 0,.slice none 0 0] 62)) (.cells (mZ d 3) 49)) (.cells #[.int .i64 0,.int .i64 0,.slice none 0 0,.slice none 0 0] 55);have B3:=(((Bx.mk w 47 #[.slice (some ⟨gR,0,none⟩) 1 1,.int .i64 4]).new (.cells #[.slice none 0 0,.slice none 0 0,.slice none 0 0] 62)).new (.cells (mZ d 3) 49)).new (.cells #[.int .i64 0,.int .i64 0,.slice none 0 0,.slice none 0 0] 55);have B4:=((Bx.mk (w.alloc (.cells #[.slice (some ⟨gR,0,none⟩) 1 1,.int .i64 4] 47)) 62 #[.slice none 0 0,.slice none 0 0,.slice none 0 0]).new (.cells (mZ d 3) 49)).new (.cells #[.int .i64 0,.int .i64 0,.slice none 0 0,.slice none 0 0] 55);have B5:=(Bx.mk ((w.alloc (.cells #[.slice (some ⟨gR,0,none⟩) 1 1,.int .i64 4] 47)).alloc (.cells #[.slice none 0 0,.slice none 0 0,.slice none 0 0] 62)) 49 (mZ d 3)).new (.cells #[.int .i64 0,.int .i64 0,.slice none 0 0,.slice none 0 0] 55);have B6:=Bx.mk (((w.alloc (.cells #[.slice (some ⟨gR,0,none⟩) 1 1,.int .i64 4] 47)).alloc (.cells #[.slice none 0 0,.slice none 0 0,.slice none 0 0] 62)).alloc (.cells (mZ d 3) 49)) 55 #[.int .i64 0,.int .i64 0,.slice none 0 0,.slice none 0 0];simp only[World.size_alloc]at B4 B5 B6
 unfold mZ at *
 have wZ:=hO _ hb;have a0:=B3.cell 0 rfl;have a1:=B3.cell 1 rfl;obtain ⟨b0,b1,b2⟩:=B4.p3;obtain ⟨c0,c1,c2,c3,c4,c5⟩:=B5.p6;clear hO hF h
 go_enter Tryz.func10,Tryz.ntmps10
 go_wp2_with fail;refine wZ.mono ?_;rintro _ w1 ⟨⟨gD,rfl,hgD,BD⟩,hb1⟩;replace hb:=ah hb hb1;replace B3:=B3.call hb1;replace B5:=B5.call hb1;replace B6:=B6.call hb1;have hl6:w.heap.size+1+1+1<w1.heap.size:=B6.lt;clear a0 a1 b0 b1 b2 c0 c1 c2 c3 c4 c5 B4 wZ hb1;have c5:=B5.cell 5 rfl;have a0:=B3.cell 0 rfl;have a1:=B3.cell 1 rfl;have hbn:=bY w1 (.cells #[.int .i64 4,.int .i64 (-1),.slice none 0 0,.slice none 0 0] 55);have BX:=Bx.mk w1 55 #[.int .i64 4,.int .i64 (-1),.slice none 0 0,.slice none 0 0];replace hb:=ah hb hbn;replace BD:=BD.call hbn;replace B3:=B3.call hbn;replace B6:=B6.call hbn;go_upto_region 7 with fail;generalize w1.alloc (.cells #[.int .i64 4,.int .i64 (-1),.slice none 0 0,.slice none 0 0] 55)=W at *;clear c5 a0 a1 hbn;have a0:=B3.cell 0 rfl;clear B3 B5;go_wp2_with fail
 go_loopw [37] (fun SB wr=>SB=.int .i64 0/\wr=W) (fun SB _=>0)
 case atStart=>exact⟨rfl,rfl⟩
 case round =>
  obtain⟨rfl,rfl⟩:=hrel;have BR:=(DU wr hb).br;have r0:=BR.cell 0 rfl;have r1:=BR.cell 1 rfl;have hbn:=bY wr (.cells #[.slice (some ⟨gC,0,none⟩) 1 1,.int .i64 1] 44);have BN:=Bx.mk wr 44 #[.slice (some ⟨gC,0,none⟩) 1 1,.int .i64 1];replace hb:=ah hb hbn;replace BX:=BX.call hbn;replace B6:=B6.call hbn;replace BD:=BD.call hbn;have hM1:=hM gD _ hb BD;clear a0 hM DU hbn BR;go_upto_region 10 with fail;generalize wr.alloc (.cells #[.slice (some ⟨gC,0,none⟩) 1 1,.int .i64 1] 44)=W2 at *;clear r0 r1;go_wp2_with fail;refine hM1.mono ?_;rintro _ w2 ⟨rfl,hb1⟩;replace hb:=ah hb hb1;replace BX:=BX.call hb1;replace B6:=B6.call hb1;replace BN:=BN.call hb1;clear hM1 hb1 BD;obtain ⟨x0,x1,x2,x3⟩:=BX.p4;have xf0:=BX.frozen 0;have xf1:=BX.frozen 1;have Y1:=BX.frozen 3;obtain ⟨y0,y1,y2,y3⟩:=B6.p4;have YZ:=B6.frozen 0;have yf1:=B6.frozen 1;have yf2:=B6.frozen 2;have yf3:=B6.frozen 3;have n1:=BN.cell 1 rfl;go_upto_region 16 with fail;have Si:=((B6.far (p:=⟨w1.heap.size,3,none⟩) (by dsimp only;omega) (.slice none 0 0)).far (p:=⟨w1.heap.size,0,none⟩) (by dsimp only;omega) (.int .i64 1)).far (p:=⟨w1.heap.size,1,none⟩) (by dsimp only;omega) (.int .i64 0);have BXa:Bx _ w1.heap.size 55 #[.int .i64 1,.int .i64 0,.slice none 0 0,.slice none 0 0]:=((BX.set 3 (.slice none 0 0)).set 0 (.int .i64 1)).set 1 (.int .i64 0);have hba:=aQ (aQ (aQ hb (p:=⟨w1.heap.size,3,none⟩) (by dsimp only;omega) (.slice none 0 0)) (p:=⟨w1.heap.size,0,none⟩) (by dsimp only;omega) (.int .i64 1)) (p:=⟨w1.heap.size,1,none⟩) (by dsimp only;omega) (.int .i64 0);generalize ((w2.setCell ⟨w1.heap.size,3,none⟩ (.slice none 0 0)).setCell ⟨w1.heap.size,0,none⟩ (.int .i64 1)).setCell ⟨w1.heap.size,1,none⟩ (.int .i64 0)=W3 at *;clear x0 x1 x2 x3 xf0 xf1 Y1 n1 y0 y1 y2 y3 YZ yf1 yf2 yf3 B6 BX hb;obtain ⟨x0,x1,x2,x3⟩:=BXa.p4;obtain ⟨y0,y1,y2,y3⟩:=Si.p4;have YZ:=fun i=>Si.frozen i
  go_wp2_with fail;have YX:Bx _ (w.heap.size+1+1+1) 55 #[.int .i64 1,.int .i64 0,.slice none 0 0,.slice none 0 0]:=(((Si.set 0 (.int .i64 1)).set 1 (.int .i64 0)).set 2 (.slice none 0 0)).set 3 (.slice none 0 0);have hbb:=aQ (aQ (aQ (aQ hba (p:=⟨w.heap.size+1+1+1,0,none⟩) (by dsimp only;omega) (.int .i64 1)) (p:=⟨w.heap.size+1+1+1,1,none⟩) (by dsimp only;omega) (.int .i64 0)) (p:=⟨w.heap.size+1+1+1,2,none⟩) (by dsimp only;omega) (.slice none 0 0)) (p:=⟨w.heap.size+1+1+1,3,none⟩) (by dsimp only;omega) (.slice none 0 0);exact bodyPost_ret (tH rfl _ _ rfl rfl YX) rfl ⟨rfl,hbb⟩
attribute [local go_sem] Oper.semAt_some
structure AX where
 d:Sh.Dl
 hs:List Sh.Hn
 v:Value
def X9 (x:AX):List Value:=[.int .i64 x.d.r,.int .i64 x.d.d,.int .i64 x.d.t,.int .i64 x.d.n,x.v]
def NP (x:AX) (w:World):Prop:=∃A c,x.v=.slice A x.hs.length c/\At 3 dw w w.heap.size A x.hs/\x.hs.length<=c
theorem NP.call {x:AX} {w w':World} (h:NP x w) (hb:Below w.heap.size w w'):NP x w':=by
 obtain⟨A,c,h1,h2,h3⟩:=h;exact ⟨A,c,h1,h2.aU hb,h3⟩
def cT (num:Int) (x:AX × Int):Bool:=x.1.d.r==num
def cC (ks:List (List UInt8)) (num:Int) (x:AX × Int):Bool:=(x.1.d.r==num)&&N9 ks ((x.1.d,x.1.hs),x.2)
def CS (num cn cd:Int) (tr co:Nat):Array Value:=#[.int .i64 2,.int .i64 num,.int .i64 cn,.int .i64 cd,.int .i64 (tr:Int),.int .i64 (co:Int),.slice none 0 0,.int .i64 0,.int .i64 0,.int .i64 0]
def OG:Array Value:=#[.int .i64 0,.int .i64 0,.int .i64 0,.int .i64 0,.int .i64 0,.int .i64 0,.slice none 0 0,.int .i64 0,.int .i64 0,.int .i64 0]
theorem Gj {fn:Func} {t u:Tmp} {g:Nat} {c0 c1 c2 c3 c4 c5 c6 c7 c8 c9 f:Value} (hf:fn.results=#[.cell t 72,.tmp u]) (tmps:Array Value) (w:World) (ht:tmps.getD t undef=.pointer (some ⟨g,0,none⟩)) (hu:tmps.getD u undef=f) (hB:Bx w g 72 #[c0,c1,c2,c3,c4,c5,c6,c7,c8,c9]) :
 (results fn tmps).run Tryz.prog w=.ok (.tuple #[.agg #[c0,c1,c2,c3,c4,c5,c6,c7,c8,c9],f]) w:=by
 obtain⟨h0,h1,h2,h3,h4,h5,h6,h7,h8,h9⟩:=hB.p10;have ht':tmps[t]?.getD undef=.pointer (some ⟨g,0,none⟩):=by simpa using ht
 have hu':tmps[u]?.getD undef=f:=by simpa using hu
 simp only[results,hf];simp [go_sem,ht',hu',h0,h1,h2,h3,h4,h5,h6,h7,h8,h9,loadVar]
set_option maxHeartbeats 16000000 in
theorem Nu (ks:List (List UInt8)) (K:Option Addr) (kc:Nat) (ls:List AX) (A5:Option Addr) (c5:Nat) (fr:List Int) (AF:Option Addr) (cF:Nat) (num cn cd:Int) (w:World) (hK:At 1 h_ w w.heap.size K ks) (h8:ks.length=8) (hkc:8<=kc) (hks:∀k∈ks,mg k)
 (hL:At 5 X9 w w.heap.size A5 ls) (hl5:ls.length<=c5) (hl50:ls.length<=50) (hax:∀x∈ls,NP x w/\iK x.d x.hs) (hF:At 1 uV w w.heap.size AF fr) (hfl:fr.length=ls.length) (hfc:ls.length<=cF) (hfr:∀x∈fr,0<=x/\x<=7)
 (hnum:0<=num/\num<=99999999) (hcd:1<=cd/\cd<=1000) (hcn:0<=cn/\cn<=cd) (hR:Rnd w) :
 Calls Tryz.prog 15 #[.slice K 8 kc,.slice A5 ls.length c5,.slice AF ls.length cF,.int .i64 num,.agg #[.int .i64 cn,.int .i64 cd]] w
  fun e w'=>e=.returned (.tuple #[.agg (CS num cn cd (cnt (cT num) (ls.zip fr) ls.length) (cnt (cC ks num) (ls.zip fr) ls.length)),.int .i64 0])/\Below w.heap.size w w':=by
 have hb:=bNew (bY w (.cells #[.int .i64 cn,.int .i64 cd] 39)) (.cells OG 72);have BC:=(Bx.mk w 39 #[.int .i64 cn,.int .i64 cd]).new (.cells OG 72);have BO:=Bx.mk (w.alloc (.cells #[.int .i64 cn,.int .i64 cd] 39)) 72 OG;rw [World.size_alloc]at BO;have hN:=fun w0=>bG (jD num 0 99999999 w0)
 rw[Tp.within_iff.2 hnum]at hN;have hCh:=fun w0=>AA cn cd w0
 rw[yO.2 ⟨hcd.1,hcd.2,hcn.1,hcn.2⟩]at hCh;have hCf:=fun w0 (hb0:Below w.heap.size w w0)=>MX fr AF cF w0 (hF.aU hb0) (by omega) (by omega) hfr
 rw[hfl]at hCf;have h50:decide ((ls.length:Int) > 50)=false:=decide_eq_false (by omega);have L_:=fun (x:AX) (hx:x∈ls) A c (hv:x.v=.slice A x.hs.length c) (hA:At 3 dw w w.heap.size A x.hs) (hc:x.hs.length<=c) w0 (hb0:Below w.heap.size w w0)=>uK ks K kc x.d x.hs A c w0 (hK.aU hb0) h8 hkc hks (hA.aU hb0) hc (hax x hx).2 (hR.below hb0)
 have Xd:=Kp.mk hfl
 unfold OG at *
 clear hfr hcn hcd hnum hfl
 go_enter Tryz.func15,Tryz.ntmps15
 go_wp2_with fail;refine (hN _).mono ?_;rintro _ w1 ⟨rfl,hb1⟩;replace hb:=ah hb hb1;replace BC:=BC.call hb1;replace BO:=BO.call hb1;have c0:=BC.cell 0 rfl;have c1:=BC.cell 1 rfl;clear hb1 hN;go_wp2_with fail;refine (hCh _).mono ?_;rintro _ w2 ⟨rfl,hb1⟩;replace hb:=ah hb hb1;replace BC:=BC.call hb1;replace BO:=BO.call hb1;have XA:=hCf _ hb;clear c0 c1 hb1 hCh hCf;go_wp2_with fail;refine XA.mono ?_;rintro _ w3 ⟨rfl,hb1⟩;replace hb:=ah hb hb1;replace BC:=BC.call hb1;replace BO:=BO.call hb1;have hbn:=bY w3 (.cells #[.int .i64 2,.int .i64 num,.int .i64 cn,.int .i64 cd,.int .i64 0,.int .i64 0,.slice none 0 0,.int .i64 0,.int .i64 0,.int .i64 0] 72);have BS:=Bx.mk w3 72 #[.int .i64 2,.int .i64 num,.int .i64 cn,.int .i64 cd,.int .i64 0,.int .i64 0,.slice none 0 0,.int .i64 0,.int .i64 0,.int .i64 0];have hg3:w.heap.size+1<w3.heap.size:=BO.lt;have c0:=BC.cell 0 rfl;have c1:=BC.cell 1 rfl;replace hb:=ah hb hbn;replace BO:=BO.call hbn;obtain ⟨g3,hg⟩:∃g3,Kp (w3.heap.size=g3):=⟨_,⟨rfl⟩⟩
 rw[hg.out]at BS hg3;have h0T:Kp (cnt (cT num) (ls.zip fr) 0=0):=⟨rfl⟩
 have h0C:Kp (cnt (cC ks num) (ls.zip fr) 0=0):=⟨rfl⟩
 clear XA hb1 BC hbn h50;go_wp2_with fail;rw [hg.out];clear hg
 go_loopw [50] (fun Y7 wr=>∃k:Nat,k<=ls.length/\Y7=.int .i64 k/\Bx wr g3 72 (CS num cn cd (cnt (cT num) (ls.zip fr) k) (cnt (cC ks num) (ls.zip fr) k))/\Bx wr (w.heap.size+1) 72 #[.int .i64 0,.int .i64 0,.int .i64 0,.int .i64 0,.int .i64 0,.int .i64 0,.slice none 0 0,.int .i64 0,.int .i64 0,.int .i64 0]/\Below w.heap.size w wr) (fun Y7 _=>ls.length-(intOf Y7).toNat)
 case atStart=>exact⟨0,Nat.zero_le _,rfl,by rw[h0T.out,h0C.out];exact BS,BO,hb⟩
 case round =>
  clear h0T h0C BS BO hb c0 c1;obtain ⟨k,hk,rfl,BS,BO,hb⟩:=hrel;by_cases hlt:k<ls.length
  · obtain⟨x,hx⟩:∃x,ls[k]? = some x:=⟨_,List.getElem?_eq_getElem hlt⟩
    obtain⟨f,hf⟩:∃f,fr[k]? = some f:=⟨_,List.getElem?_eq_getElem (by rw[Xd.out];exact hlt)⟩
    have hz:(ls.zip fr)[k]? = some (x,f):=by rw[List.getElem?_zip_eq_some];exact⟨hx,hf⟩
    have hxm:=List.mem_of_getElem? hx;obtain ⟨⟨A,c,hv,hA,hc⟩,hfm⟩:=hax x hxm;have Uk:=L_ x hxm A c hv hA hc;obtain ⟨p5,o5,rfl,Wp,qF⟩:=hL (by omega);obtain ⟨pF,oF,rfl,hpF,LU⟩:=hF (by rw[Xd.out];omega);obtain ⟨p,off,rfl,hp,hcell⟩:=hA (by have:=hfm.len.1;omega);obtain ⟨g0,hg0⟩:∃g,x.hs[0]? = some g:=⟨_,List.getElem?_eq_getElem hfm.len.1⟩
    have q0:wr.cell? ⟨p5,o5+k*5,none⟩=some (.int .i64 x.d.r):=(hb.cell (p:=⟨p5,o5+k*5,none⟩) Wp).trans (qF k x hx 0 _ rfl);have q1:=(hb.cell (p:=⟨p5,o5+k*5+1,none⟩) Wp).trans (qF k x hx 1 _ rfl);have q2:=(hb.cell (p:=⟨p5,o5+k*5+2,none⟩) Wp).trans (qF k x hx 2 _ rfl);have q3:=(hb.cell (p:=⟨p5,o5+k*5+3,none⟩) Wp).trans (qF k x hx 3 _ rfl);have q4:=(hb.cell (p:=⟨p5,o5+k*5+4,none⟩) Wp).trans (qF k x hx 4 _ rfl);rw [hv]at q4;have hT1:Kp (cnt (cT num) (ls.zip fr) (k+1)=cnt (cT num) (ls.zip fr) k+if (x.d.r==num) then 1 else 0):=⟨AZ hz⟩
    have hcA:N9 ks ((x.d,x.hs),f)=((qZ ks x.d x.hs==3)&&(g0.c != f)):=by
     unfold N9 c0
     rw[hg0];simp only[Option.map_some,Option.getD_some,bne,ne_eq];by_cases h1:qZ ks x.d x.hs=3 <;> by_cases h2:g0.c=f <;> simp[h1,h2]
    have E9:Kp (cnt (cC ks num) (ls.zip fr) (k+1)=cnt (cC ks num) (ls.zip fr) k+if ((x.d.r==num)&&((qZ ks x.d x.hs==3)&&(g0.c != f))) then 1 else 0):=⟨by
     rw[AZ hz]
     show cnt (cC ks num) (ls.zip fr) k+(if ((x.d.r==num)&&N9 ks ((x.d,x.hs),f))=true then 1 else 0)=_
     rw[hcA]⟩
    have trl:cnt (cT num) (ls.zip fr) k<=k:=cnt_le;have col:cnt (cC ks num) (ls.zip fr) k<=k:=cnt_le;obtain ⟨tr1,KP⟩:∃tr1,Kp (cnt (cT num) (ls.zip fr) (k+1)=tr1):=⟨_,⟨rfl⟩⟩
    obtain⟨Uu,LP⟩:∃Uu,Kp (cnt (cC ks num) (ls.zip fr) (k+1)=Uu):=⟨_,⟨rfl⟩⟩
    rw[KP.out]at hT1;rw [LP.out]at E9;have hc0c:∀X,Below w.heap.size w X->X.cell? ⟨p,off,none⟩=some (.int .i64 g0.c):=fun X hX=>(hX.cell (p:=⟨p,off,none⟩) hp).trans (by have h9:=hcell 0 g0 hg0 0 _ rfl;simpa using h9)
    have hfc:∀X,Below w.heap.size w X->X.cell? ⟨pF,oF+k,none⟩=some (.int .i64 f):=fun X hX=>(hX.cell (p:=⟨pF,oF+k,none⟩) hpF).trans (by have h9:=LU k f hf 0 _ rfl;simpa using h9)
    have hl1:1<=x.hs.length:=hfm.len.1;generalize cnt (cT num) (ls.zip fr) k=tr at *;generalize cnt (cC ks num) (ls.zip fr) k=co at *;generalize qZ ks x.d x.hs=lv at *;generalize Tn (vP (jG ks x.d x.hs) x.hs.length)=ix at *;generalize g0.c=gc at *
    unfold dD at Uk
    have hbn:=bY wr (.cells #[.int .i64 x.d.r,.int .i64 x.d.d,.int .i64 x.d.t,.int .i64 x.d.n,.slice (some ⟨p,off,none⟩) x.hs.length c] 32);have BA:=Bx.mk wr 32 #[.int .i64 x.d.r,.int .i64 x.d.d,.int .i64 x.d.t,.int .i64 x.d.n,.slice (some ⟨p,off,none⟩) x.hs.length c];have hgw:g3≠wr.heap.size:=by have:=BS.lt;omega
    replace hb:=ah hb hbn;replace BS:=BS.call hbn;replace BO:=BO.call hbn;have Xz:=Uk _ hb;obtain ⟨a0,a1,a2,a3,a4⟩:=BA.p5;clear hcA hz hcell LU qF hxm hx hf hfm hA Uk hbn hv;go_wp2_with fail;refine Xz.mono ?_;rintro _ w4 ⟨rfl,hb1⟩;replace hb:=ah hb hb1;replace BS:=BS.call hb1;replace BO:=BO.call hb1;replace BA:=BA.call hb1;clear a0 a1 a2 a3 a4 Xz hb1 q0 q1 q2 q3 q4
    unfold CS at BS
    have a0:=BA.cell 0 (v:=.int .i64 x.d.r) rfl;have s4:=BS.cell 4 (v:=.int .i64 tr) rfl;have s4f:=BS.frozen 4
    cases ht:(x.d.r==num) with
    | false =>
     obtain rfl:tr1=tr:=by have:=hT1.out;rw[ht]at this;simpa using this
     obtain rfl:Uu=co:=by have:=E9.out;rw[ht]at this;simpa using this
     clear hT1 E9;go_wp2_with fail;exact ⟨⟨k+1,by omega,by go_num,by rw[KP.out,LP.out];exact BS,BO,hb⟩,by simp[intOf];omega⟩
    | true =>
     obtain rfl:tr1=tr+1:=by have:=hT1.out;rw[ht]at this;simpa using this
     have hC2:Kp (Uu=co+if ((lv==3)&&(gc != f)) then 1 else 0):=⟨by have:=E9.out;rw[ht]at this;simpa using this⟩
     clear hT1 E9;have Xb:w.heap.size<=g3:=by omega
     have BS5:=BS.set 4 (.int .i64 ((tr:Int)+1));have BO5:=BO.far (p:=⟨g3,4,none⟩) (by dsimp only;omega) (.int .i64 ((tr:Int)+1));have BA5:=BA.far (p:=⟨g3,4,none⟩) (by dsimp only;omega) (.int .i64 ((tr:Int)+1));have hb5:=aQ hb (p:=⟨g3,4,none⟩) Xb (.int .i64 ((tr:Int)+1));go_upto_region 13 with fail;generalize w4.setCell ⟨g3,4,none⟩ (.int .i64 ((tr:Int)+1))=W5 at *;clear BS BO BA hb a0 s4 s4f;have z4:=fun d os=>(BA5.again d os).cell 4 (v:=.slice (some ⟨p,off,none⟩) x.hs.length c) rfl
     have zc:=fun d os=>hc0c (Sort.grow (redrawn W5 d) os) (ah hb5 (below_regrown W5 d os))
     have zf:=fun d os=>hfc (Sort.grow (redrawn W5 d) os) (ah hb5 (below_regrown W5 d os))
     have hdone:∀W6:World,Below W5.heap.size W5 W6->Bx W6 g3 72 (CS num cn cd (tr+1) co)/\Bx W6 (w.heap.size+1) 72 #[.int .i64 0,.int .i64 0,.int .i64 0,.int .i64 0,.int .i64 0,.int .i64 0,.slice none 0 0,.int .i64 0,.int .i64 0,.int .i64 0]/\Below w.heap.size w W6:=fun W6 h6=>⟨(BS5.call h6),BO5.call h6,ah hb5 h6⟩
     have ways:((lv==3)=false/\Kp (Uu=co))∨((lv==3)=true/\(gc != f)=false/\Kp (Uu=co))∨((lv==3)=true/\(gc != f)=true/\Kp (Uu=co+1)):=by
      have:=hC2.out;cases h1:(lv==3) <;> cases h2:(gc != f) <;> simp[h1,h2]at this ⊢ <;> exact⟨this⟩
     clear hC2 hb5 BA5 BO5
     rcases ways with ⟨t1,hco⟩|⟨t1,t2,hco⟩|⟨t1,t2,hco⟩
     · refine wp_region_quiet_below (by kernel_rfl) (by kernel_rfl) ?_
       repeat (go_big_quiet_step (fail))
       refine wpQuiet_nil ?_;rintro _ ⟨q,rfl⟩;obtain ⟨RX,Yr,hb6⟩:=hdone _ (below_regrown W5 q.d q.os);obtain rfl:=hco.out;go_wp2_with fail;exact ⟨⟨k+1,by omega,by go_num,by rw[KP.out,LP.out];exact RX,Yr,hb6⟩,by simp[intOf];omega⟩
     · refine wp_region_quiet_below (by kernel_rfl) (by kernel_rfl) ?_
       repeat (go_big_quiet_step (fail))
       refine wpQuiet_nil ?_;rintro _ ⟨q,rfl⟩;obtain ⟨RX,Yr,hb6⟩:=hdone _ (below_regrown W5 q.d q.os);obtain rfl:=hco.out;go_wp2_with fail;exact ⟨⟨k+1,by omega,by go_num,by rw[KP.out,LP.out];exact RX,Yr,hb6⟩,by simp[intOf];omega⟩
     · refine wp_region_quiet_below (by kernel_rfl) (by kernel_rfl) ?_
       repeat (go_big_quiet_step (fail))
       refine wpQuiet_nil ?_;rintro _ ⟨q,rfl⟩;obtain ⟨RX,Yr,hb6⟩:=hdone _ (below_regrown W5 q.d q.os);clear z4 zc zf hdone;generalize Sort.grow (redrawn W5 q.d) q.os=W6 at *
       unfold CS at RX
       have s5:=RX.cell 5 (v:=.int .i64 co) rfl;have s5f:=RX.frozen 5;have BS7:=RX.set 5 (.int .i64 ((co:Int)+1));have BO7:=Yr.far (p:=⟨g3,5,none⟩) (by dsimp only;omega) (.int .i64 ((co:Int)+1));have hb7:=aQ hb6 (p:=⟨g3,5,none⟩) Xb (.int .i64 ((co:Int)+1));go_wp2_with fail;exact ⟨⟨k+1,by omega,by go_num,by rw[KP.out,LP.out,hco.out];exact BS7,BO7,hb7⟩,by simp[intOf];omega⟩
  · obtain rfl:k=ls.length:=by omega
    obtain⟨tr,htr⟩:∃tr,Kp (cnt (cT num) (ls.zip fr) ls.length=tr):=⟨_,⟨rfl⟩⟩
    obtain⟨co,hco⟩:∃co,Kp (cnt (cC ks num) (ls.zip fr) ls.length=co):=⟨_,⟨rfl⟩⟩
    rw[htr.out,hco.out]at BS
    unfold CS at BS
    obtain⟨s0,s1,s2,s3,s4,s5,s6,s7,s8,s9⟩:=BS.p10;obtain ⟨o0,o1,o2,o3,o4,o5,o6,o7,o8,o9⟩:=BO.p10;have f0:=BO.frozen 0;have f1:=BO.frozen 1;have f2:=BO.frozen 2;have f3:=BO.frozen 3;have f4:=BO.frozen 4;have f5:=BO.frozen 5;have f6:=BO.frozen 6;have f7:=BO.frozen 7;have f8:=BO.frozen 8;have f9:=BO.frozen 9;go_wp2_with fail;clear s0 s1 s2 s3 s4 s5 s6 s7 s8 s9 f0 f1 f2 f3 f4 f5 f6 f7 f8 f9 o0 o1 o2 o3 o4 o5 o6 o7 o8 o9 BS;replace BO:Bx _ (w.heap.size+1) 72 #[.int .i64 2,.int .i64 0,.int .i64 0,.int .i64 0,.int .i64 0,.int .i64 0,.slice none 0 0,.int .i64 0,.int .i64 0,.int .i64 0]:=BO.set 0 (.int .i64 2);replace hb:=aQ hb (p:=⟨w.heap.size+1,0,none⟩) (by dsimp only;omega) (.int .i64 2);replace BO:Bx _ (w.heap.size+1) 72 #[.int .i64 2,.int .i64 num,.int .i64 0,.int .i64 0,.int .i64 0,.int .i64 0,.slice none 0 0,.int .i64 0,.int .i64 0,.int .i64 0]:=BO.set 1 (.int .i64 num);replace hb:=aQ hb (p:=⟨w.heap.size+1,1,none⟩) (by dsimp only;omega) (.int .i64 num);replace BO:Bx _ (w.heap.size+1) 72 #[.int .i64 2,.int .i64 num,.int .i64 cn,.int .i64 0,.int .i64 0,.int .i64 0,.slice none 0 0,.int .i64 0,.int .i64 0,.int .i64 0]:=BO.set 2 (.int .i64 cn);replace hb:=aQ hb (p:=⟨w.heap.size+1,2,none⟩) (by dsimp only;omega) (.int .i64 cn);replace BO:Bx _ (w.heap.size+1) 72 #[.int .i64 2,.int .i64 num,.int .i64 cn,.int .i64 cd,.int .i64 0,.int .i64 0,.slice none 0 0,.int .i64 0,.int .i64 0,.int .i64 0]:=BO.set 3 (.int .i64 cd);replace hb:=aQ hb (p:=⟨w.heap.size+1,3,none⟩) (by dsimp only;omega) (.int .i64 cd);replace BO:Bx _ (w.heap.size+1) 72 #[.int .i64 2,.int .i64 num,.int .i64 cn,.int .i64 cd,.int .i64 (tr:Int),.int .i64 0,.slice none 0 0,.int .i64 0,.int .i64 0,.int .i64 0]:=BO.set 4 (.int .i64 (tr:Int));replace hb:=aQ hb (p:=⟨w.heap.size+1,4,none⟩) (by dsimp only;omega) (.int .i64 (tr:Int));replace BO:Bx _ (w.heap.size+1) 72 #[.int .i64 2,.int .i64 num,.int .i64 cn,.int .i64 cd,.int .i64 (tr:Int),.int .i64 (co:Int),.slice none 0 0,.int .i64 0,.int .i64 0,.int .i64 0]:=BO.set 5 (.int .i64 (co:Int));replace hb:=aQ hb (p:=⟨w.heap.size+1,5,none⟩) (by dsimp only;omega) (.int .i64 (co:Int));replace BO:Bx _ (w.heap.size+1) 72 #[.int .i64 2,.int .i64 num,.int .i64 cn,.int .i64 cd,.int .i64 (tr:Int),.int .i64 (co:Int),.slice none 0 0,.int .i64 0,.int .i64 0,.int .i64 0]:=BO.set 6 (.slice none 0 0);replace hb:=aQ hb (p:=⟨w.heap.size+1,6,none⟩) (by dsimp only;omega) (.slice none 0 0);replace BO:Bx _ (w.heap.size+1) 72 #[.int .i64 2,.int .i64 num,.int .i64 cn,.int .i64 cd,.int .i64 (tr:Int),.int .i64 (co:Int),.slice none 0 0,.int .i64 0,.int .i64 0,.int .i64 0]:=BO.set 7 (.int .i64 0);replace hb:=aQ hb (p:=⟨w.heap.size+1,7,none⟩) (by dsimp only;omega) (.int .i64 0);replace BO:Bx _ (w.heap.size+1) 72 #[.int .i64 2,.int .i64 num,.int .i64 cn,.int .i64 cd,.int .i64 (tr:Int),.int .i64 (co:Int),.slice none 0 0,.int .i64 0,.int .i64 0,.int .i64 0]:=BO.set 8 (.int .i64 0);replace hb:=aQ hb (p:=⟨w.heap.size+1,8,none⟩) (by dsimp only;omega) (.int .i64 0);replace BO:Bx _ (w.heap.size+1) 72 #[.int .i64 2,.int .i64 num,.int .i64 cn,.int .i64 cd,.int .i64 (tr:Int),.int .i64 (co:Int),.slice none 0 0,.int .i64 0,.int .i64 0,.int .i64 0]:=BO.set 9 (.int .i64 0);replace hb:=aQ hb (p:=⟨w.heap.size+1,9,none⟩) (by dsimp only;omega) (.int .i64 0);exact bodyPost_ret (Gj rfl _ _ rfl rfl BO) rfl ⟨by rw[htr.out,hco.out];rfl,hb⟩
theorem aF.GH {e e2:TypeId} {size B n:Nat} {flat:List Value} {v:Value} {w w':World} (h:aF e2 size B n flat v w) (k:jW e w w') (hne:e2≠e):aF e2 size B n flat v w':=by
 rcases h with h|⟨cap,⟨g,cells,h1,h2,h3,h4,h5⟩,hm⟩
 · exact .inl h
 · exact .inr ⟨cap,⟨g,cells,h1,h2,h3,k.bx hne h4,h5⟩,hm⟩
theorem JW {w:World} {g:Nat} {n:Int} (h:Bx w g 3 #[.int .i64 n]):Src Tryz.prog 1 23 (.slice (some ⟨g,0,none⟩) 1 1) 1 (uV n) w :=
 dI.src (P:=Tryz.prog) (size:=1) (B:=0) (cap:=1) (e:=3) (t:=23) (fun u hu=>by simp only[uV,List.mem_cons,List.not_mem_nil,or_false]at hu;subst hu;rfl) kC ⟨g,_,rfl,Nat.zero_le _,Nat.le_refl _,h,rfl,rfl⟩
structure NX where
 x:lg
 v:Value
def Zl (q:NX):List Value:=[.int .i64 q.x.a,.int .i64 q.x.b,.int .i64 q.x.c,.int .i64 q.x.e,.int .i64 q.x.lv,q.v,.int .i64 q.x.k0,.int .i64 q.x.k1,.int .i64 q.x.k2,.int .i64 q.x.k3,.int .i64 q.x.k4,.int .i64 q.x.k5,.int .i64 q.x.k6,.int .i64 q.x.k7]
structure NK (q:NX) (w:World):Prop where
 ok:BQ q.x
 at_:∃A c,q.v=.slice A q.x.cs.length c/\At 1 uV w w.heap.size A q.x.cs/\q.x.cs.length<=c/\c<=maxLen
theorem NK.call {q:NX} {w w':World} (h:NK q w) (hb:Below w.heap.size w w'):NK q w':=by
 obtain⟨h0,A,c,h1,h2,h3⟩:=h;exact ⟨h0,A,c,h1,h2.aU hb,h3⟩
structure Oe (B:Nat) (x:AX) (w:World):Prop where
 r9:x.d.r=9
 Zp:∃kn,yY x.d kn x.hs
 row:dN x.d x.hs B x.v w
 one:x.v.oneCell'=true
theorem Oe.call {B:Nat} {x:AX} {w w':World} (h:Oe B x w) (hb:Below w.heap.size w w'):Oe B x w':=⟨h.r9,h.Zp,h.row.call hb,h.one⟩
theorem Oe.GH {B:Nat} {x:AX} {e:TypeId} {w w':World} (h:Oe B x w) (k:jW e w w') (he:70≠e):Oe B x w':=⟨h.r9,h.Zp,aF.GH h.row k he,h.one⟩
theorem Oe.ha {B:Nat} {x:AX} {w:World} (h:Oe B x w):NP x w:=by
 obtain⟨A,c,h1,h2,h3,-⟩:=aF.at (p:=x.hs) (f:=dw) (fun _=>rfl) h.row;exact ⟨A,c,h1,h2,h3⟩
structure NM (B:Nat) (w:World) (k m:Nat) (v10 v11:Value) (ls:List AX) (fr:List Int) (X:World):Prop where
 bl:Below w.heap.size w X
 sz:B<=X.heap.size
 l1:ls.length=k
 l2:fr.length=m
 ra:aF 32 5 B k (ls.flatMap X9) v10 X
 rf:aF 3 1 B m (fr.flatMap uV) v11 X
 md:∀x∈ls,Oe B x X
 f8:∀f∈fr,0<=f/\f<=7
variable {B:Nat} {w:World} {k m:Nat} {v10 v11:Value} {ls:List AX} {fr:List Int} {X Y:World}
theorem NM.call (h:NM B w k m v10 v11 ls fr X) (hb:Below X.heap.size X Y):NM B w k m v10 v11 ls fr Y :=
 ⟨ah h.bl hb,Nat.le_trans h.sz hb.size,h.l1,h.l2,aW _ _ _ _ _ _ _ _ h.ra hb,aW _ _ _ _ _ _ _ _ h.rf hb,fun x hx=>(h.md x hx).call hb,h.f8⟩
theorem NM.more (h:NM B w k m v10 v11 ls fr X) (hB:w.heap.size<=B) {x:AX} {v:Value} (hx:Oe B x X) (hb:Below B X Y) (hk:jW 32 X Y) (hr:aF 32 5 B (k+1) (ls.flatMap X9++X9 x) v Y):NM B w (k+1) m v v11 (ls++[x]) fr Y :=
 ⟨h.bl.trans (hb.mono hB),Nat.le_trans h.sz hk.size,by rw[List.length_append,h.l1];rfl,h.l2,by rw[List.flatMap_append];simpa using hr,aF.GH h.rf hk (by decide),fun y hy=>by
  rcases List.mem_append.1 hy with h9|h9
  · exact (h.md y h9).GH hk (by decide)
  · rw[List.mem_singleton.1 h9];exact hx.GH hk (by decide),h.f8⟩
theorem NM.from (h:NM B w k m v10 v11 ls fr X) (hB:w.heap.size<=B) {f:Int} {v:Value} (hf:0<=f/\f<=7) (hb:Below B X Y) (hk:jW 3 X Y) (hr:aF 3 1 B (m+1) (fr.flatMap uV++uV f) v Y):NM B w k (m+1) v10 v ls (fr++[f]) Y :=
 ⟨h.bl.trans (hb.mono hB),Nat.le_trans h.sz hk.size,h.l1,by rw[List.length_append,h.l2];rfl,aF.GH h.ra hk (by decide),by rw[List.flatMap_append];simpa using hr,fun y hy=>(h.md y hy).GH hk (by decide),fun y hy=>by
  rcases List.mem_append.1 hy with h9|h9
  · exact h.f8 y h9
  · rw[List.mem_singleton.1 h9];exact hf⟩
theorem Fv {α:Type} {f:α->Bool} {l:List α} {k:Nat} (h:∀x∈l,f x=true) (hk:k<=l.length):cnt f l k=k:=by
 unfold cnt
 rw[List.countP_eq_length.2 fun x hx=>h x (List.mem_of_mem_take hx),List.length_take];omega
theorem uJ {α:Type} {f:α->Bool} {l:List α} {k:Nat} (h:∀x∈l,f x=false):cnt f l k=0:=by
 unfold cnt
 rw[List.countP_eq_zero];intro x hx;rw [h x (List.mem_of_mem_take hx)];decide
def cLL (ks:List (List UInt8)) (x:AX × Int):Bool:=(c0 x.1.hs != x.2)&&((l0 x.1.hs==3)&&(ks.getD (c0 x.1.hs).toNat [] != []))
structure CnF (s m n:Nat) (Z:List (AX × Int)):Prop where
 t9:cnt (cT 9) Z n=n
 t10:cnt (cT 10) Z n=0
 c10:cnt (cC (f_ keysA s) 10) Z n=0
 ab:cnt (cC (f_ keysA s) 9) Z n<=cnt (cC (f_ keysA (s ||| m)) 9) Z n
 an:cnt (cC (f_ keysA s) 9) Z n<=n
 bn:cnt (cC (f_ keysA (s ||| m)) 9) Z n<=n
 la:cnt (cLL (f_ keysA s)) Z n<=cnt (cC (f_ keysA s) 9) Z n
theorem NM.counts (h:NM B w k m v10 v11 ls fr X) (hkm:k=m) (s t:Nat):CnF s t k (ls.zip fr):=by
 have hz:(ls.zip fr).length=k:=by rw[List.length_zip,h.l1,h.l2];omega
 have hx:∀x∈ls.zip fr,x.1.d.r=9/\∃kn,yY x.1.d kn x.1.hs:=fun x hx=>by
  have h9:=h.md x.1 (List.of_mem_zip hx).1;exact ⟨h9.r9,h9.Zp⟩
 refine⟨Fv (fun x PI=>by unfold cT;rw[(hx x PI).1];rfl) (by omega),uJ (fun x PI=>by unfold cT;rw[(hx x PI).1];rfl),uJ (fun x PI=>by unfold cC;rw[(hx x PI).1];rfl),cnt_mono fun x PI hc=>?_,cnt_le,cnt_le,cnt_mono fun x PI hc=>?_⟩
 · obtain⟨h1,kn,h2⟩:=hx x PI
   unfold cC at hc ⊢
   rw[Bool.and_eq_true]at hc ⊢;exact ⟨hc.1,Qd (x:=((x.1.d,x.1.hs),x.2)) h2 hc.2⟩
 · obtain⟨h1,kn,h2⟩:=hx x PI
   unfold cLL at hc
   unfold cC
   rw[Bool.and_eq_true];refine ⟨by rw[h1];rfl,M_ (x:=((x.1.d,x.1.hs),x.2)) h2 ?_⟩
   unfold cnL
   rw[Bool.and_eq_true,Bool.and_eq_true]at hc ⊢;exact ⟨decide_eq_true (by simpa using hc.1),decide_eq_true (by simpa using hc.2.1),hc.2.2⟩
attribute [local go_sem] Oper.semAt_some
theorem H6 (gR gC:Nat) (d:Sh.Dl) (lv:Int) (hlv:(lv==3)=false) (w:World) (hF:CB gR gC w) (h:rF d lv) :
 Calls Tryz.prog 10 #[.agg #[.slice (some ⟨gR,0,none⟩) 1 1,.int .i64 4],.agg #[.slice none 0 0,.slice none 0 0,.slice none 0 0],.agg (mZ d lv)] w fun e w'=>(∃v,e=.returned (.tuple #[.agg #[.int .i64 4,.int .i64 (-1),v,.slice none 0 0],.int .i64 0])/\aF 3 1 w.heap.size 1 [.int .i64 0] v w')/\Below w.heap.size w w':=by
 have hO:=fun w0 (hb0:Below w.heap.size w w0)=>rM gR gC d lv w0 (hF.call hb0) h
 have hM:=fun gD w0 (hb0:Below w.heap.size w w0) BD=>zU gR gC gD d lv w0 (hF.call hb0) BD h false hlv
 obtain⟨bi,hbi,hbz,hbs,hbb2⟩:=QX;have DU:=fun w0 (hb0:Below w.heap.size w w0)=>hF.call hb0
 have hb:=bNew (bNew (bNew (bY w (.cells #[.slice (some ⟨gR,0,none⟩) 1 1,.int .i64 4] 47)) (.cells #[.slice none 0 0,.slice none 0 0,.slice none 0 0] 62)) (.cells (mZ d lv) 49)) (.cells #[.int .i64 0,.int .i64 0,.slice none 0 0,.slice none 0 0] 55);have B3:=(((Bx.mk w 47 #[.slice (some ⟨gR,0,none⟩) 1 1,.int .i64 4]).new (.cells #[.slice none 0 0,.slice none 0 0,.slice none 0 0] 62)).new (.cells (mZ d lv) 49)).new (.cells #[.int .i64 0,.int .i64 0,.slice none 0 0,.slice none 0 0] 55);have B4:=((Bx.mk (w.alloc (.cells #[.slice (some ⟨gR,0,none⟩) 1 1,.int .i64 4] 47)) 62 #[.slice none 0 0,.slice none 0 0,.slice none 0 0]).new (.cells (mZ d lv) 49)).new (.cells #[.int .i64 0,.int .i64 0,.slice none 0 0,.slice none 0 0] 55);have B5:=(Bx.mk ((w.alloc (.cells #[.slice (some ⟨gR,0,none⟩) 1 1,.int .i64 4] 47)).alloc (.cells #[.slice none 0 0,.slice none 0 0,.slice none 0 0] 62)) 49 (mZ d lv)).new (.cells #[.int .i64 0,.int .i64 0,.slice none 0 0,.slice none 0 0] 55);have B6:=Bx.mk (((w.alloc (.cells #[.slice (some ⟨gR,0,none⟩) 1 1,.int .i64 4] 47)).alloc (.cells #[.slice none 0 0,.slice none 0 0,.slice none 0 0] 62)).alloc (.cells (mZ d lv) 49)) 55 #[.int .i64 0,.int .i64 0,.slice none 0 0,.slice none 0 0];simp only[World.size_alloc]at B4 B5 B6
 unfold mZ at *
 have wZ:=hO _ hb;have a0:=B3.cell 0 rfl;have a1:=B3.cell 1 rfl;obtain ⟨b0,b1,b2⟩:=B4.p3;obtain ⟨c0,c1,c2,c3,c4,c5⟩:=B5.p6;clear hO hF h hlv
 go_enter Tryz.func10,Tryz.ntmps10
 go_wp2_with fail;refine wZ.mono ?_;rintro _ w1 ⟨⟨gD,rfl,hgD,BD⟩,hb1⟩;replace hb:=ah hb hb1;replace B3:=B3.call hb1;replace B5:=B5.call hb1;replace B6:=B6.call hb1;have hl6:w.heap.size+1+1+1<w1.heap.size:=B6.lt;clear a0 a1 b0 b1 b2 c0 c1 c2 c3 c4 c5 B4 wZ hb1;have c5:=B5.cell 5 rfl;have a0:=B3.cell 0 rfl;have a1:=B3.cell 1 rfl;have hbn:=bY w1 (.cells #[.int .i64 4,.int .i64 (-1),.slice none 0 0,.slice none 0 0] 55);have BX:=Bx.mk w1 55 #[.int .i64 4,.int .i64 (-1),.slice none 0 0,.slice none 0 0];replace hb:=ah hb hbn;replace BD:=BD.call hbn;replace B3:=B3.call hbn;replace B6:=B6.call hbn;go_upto_region 7 with fail;generalize w1.alloc (.cells #[.int .i64 4,.int .i64 (-1),.slice none 0 0,.slice none 0 0] 55)=W at *;clear c5 a0 a1 hbn;have a0:=B3.cell 0 rfl;clear B3 B5;go_wp2_with fail
 go_loopw [37] (fun SB wr=>(SB=.int .i64 0/\wr=W)∨(SB=.int .i64 1/\∃v,Bx wr w1.heap.size 55 #[.int .i64 4,.int .i64 (-1),v,.slice none 0 0]/\aF 3 1 W.heap.size 1 [.int .i64 0] v wr/\Bx wr (w.heap.size+1+1+1) 55 #[.int .i64 0,.int .i64 0,.slice none 0 0,.slice none 0 0]/\Below w.heap.size w wr)) (fun SB _=>1-(intOf SB).toNat)
 case atStart=>exact .inl ⟨rfl,rfl⟩
 case round =>
  rcases hrel with ⟨rfl,rfl⟩|⟨rfl,v,BXa,hrow,Si,hba⟩
  · have hww:w.heap.size<=wr.heap.size:=hb.size;have BR:=(DU wr hb).br;have r0:=BR.cell 0 rfl;have r1:=BR.cell 1 rfl;have hbn:=bY wr (.cells #[.slice (some ⟨gC,0,none⟩) 1 1,.int .i64 1] 44);have hwl:=hbn.size;replace hb:=ah hb hbn;replace BX:=BX.call hbn;replace B6:=B6.call hbn;replace BD:=BD.call hbn;have hM1:=hM gD _ hb BD;clear a0 hM DU hbn BR;go_upto_region 10 with fail;generalize wr.alloc (.cells #[.slice (some ⟨gC,0,none⟩) 1 1,.int .i64 1] 44)=W2 at *;clear r0 r1;go_wp2_with fail;refine hM1.mono ?_;rintro _ w2 ⟨rfl,hb1⟩;have hs2:=hb1.size;replace hb:=ah hb hb1;replace BX:=BX.call hb1;replace B6:=B6.call hb1;clear hM1 hb1 BD;have x3:=BX.cell 3 rfl;have Y1:=BX.frozen 3;have BXb:Bx _ w1.heap.size 55 #[.int .i64 4,.int .i64 (-1),.slice none 0 0,.slice none 0 0]:=BX.set 3 (.slice none 0 0);have YX:=B6.far (p:=⟨w1.heap.size,3,none⟩) (by dsimp only;omega) (.slice none 0 0);have hbb:=aQ hb (p:=⟨w1.heap.size,3,none⟩) (by dsimp only;omega) (.slice none 0 0);have hsz:(w2.setCell ⟨w1.heap.size,3,none⟩ (.slice none 0 0)).heap.size=w2.heap.size:=World.size_setCell _ _ _;go_upto_region 14 with fail;generalize w2.setCell ⟨w1.heap.size,3,none⟩ (.slice none 0 0)=W3 at *;clear x3 Y1 BX B6 hb;have hbn:=bY W3 (.cells #[.int .i64 0] 3);have hsrc:=JW (Bx.mk W3 3 #[.int .i64 0]);have hb4:=Kp.mk (ah hbb hbn);have BX4:=Kp.mk (BXb.call hbn);have B64:=Kp.mk (YX.call hbn);have hB4:wr.heap.size<=(W3.alloc (.cells #[.int .i64 0] 3)).heap.size:=by have:=hbn.size;omega
    have x2:=BXb.cell 2 rfl;have hnil:aF 3 1 wr.heap.size 0 [] (.slice none 0 0) (W3.alloc (.cells #[.int .i64 0] 3)):=.inl ⟨rfl,rfl,rfl⟩;clear hbn BXb YX hbb hwl hs2 hsz;go_upto_region 15 with (at_builtin;refine nP rfl (.tmp 61) (.tmp 63) 23 3 rfl bi (.int .i64 0) 1 wr.heap.size 0 1 [] (uV 0) (.slice none 0 0) (.slice (some ⟨W3.heap.size,0,none⟩) 1 1) kC hbi hbz hbs rfl rfl rfl hnil hB4 hsrc (by decide) (by unfold maxLen;omega) (by rw[hbb2];omega) ?_;intro v5 w5 p1 p2 p3;obtain⟨A5,q5,rfl⟩:=p3.slc;have Vl:=p2.bx (by decide) BX4.out;have xf2:=Vl.frozen 2;have xc2:=Vl.cell 2 rfl;replace p1:=Kp.mk p1;replace p2:=Kp.mk p2;replace p3:=Kp.mk p3;replace Vl:=Kp.mk Vl)
    have B65:=p2.out.bx (by decide) B64.out;have hb5:=hb4.out.trans (p1.out.mono hww);have BX6:Bx _ w1.heap.size 55 #[.int .i64 4,.int .i64 (-1),.slice A5 1 q5,.slice none 0 0]:=Vl.out.set 2 (.slice A5 1 q5);have B66:=B65.far (p:=⟨w1.heap.size,2,none⟩) (by dsimp only;omega) (.slice A5 1 q5);have hb6:=aQ hb5 (p:=⟨w1.heap.size,2,none⟩) (by dsimp only;omega) (.slice A5 1 q5);have hro:aF 3 1 wr.heap.size 1 [.int .i64 0] (.slice A5 1 q5) (w5.setCell ⟨w1.heap.size,2,none⟩ (.slice A5 1 q5)):=aF.GH (e:=55) p3.out (jW.set Vl.out 2 (.slice A5 1 q5)) (by decide);go_wp2_with fail;exact ⟨.inr ⟨rfl,_,BX6,hro,B66,hb6⟩,by simp[intOf]⟩
  · have hwW:w.heap.size<=W.heap.size:=hb.size;clear hM DU hb BX B6 BD a0;obtain ⟨A5,q5,rfl⟩:=hrow.slc;obtain ⟨x0,x1,x2,x3⟩:=BXa.p4;obtain ⟨y0,y1,y2,y3⟩:=Si.p4;have YZ:=fun i=>Si.frozen i
    go_wp2_with fail;have k1:Bx _ (w.heap.size+1+1+1) 55 #[.int .i64 4,.int .i64 0,.slice none 0 0,.slice none 0 0]:=Si.set 0 (.int .i64 4);have k2:Bx _ (w.heap.size+1+1+1) 55 #[.int .i64 4,.int .i64 (-1),.slice none 0 0,.slice none 0 0]:=k1.set 1 (.int .i64 (-1));have k3:Bx _ (w.heap.size+1+1+1) 55 #[.int .i64 4,.int .i64 (-1),.slice A5 1 q5,.slice none 0 0]:=k2.set 2 (.slice A5 1 q5);have k4:Bx _ (w.heap.size+1+1+1) 55 #[.int .i64 4,.int .i64 (-1),.slice A5 1 q5,.slice none 0 0]:=k3.set 3 (.slice none 0 0);have hbf:=aQ (aQ (aQ (aQ hba (p:=⟨w.heap.size+1+1+1,0,none⟩) (by dsimp only;omega) (.int .i64 4)) (p:=⟨w.heap.size+1+1+1,1,none⟩) (by dsimp only;omega) (.int .i64 (-1))) (p:=⟨w.heap.size+1+1+1,2,none⟩) (by dsimp only;omega) (.slice A5 1 q5)) (p:=⟨w.heap.size+1+1+1,3,none⟩) (by dsimp only;omega) (.slice none 0 0);have hrf:=((((hrow.mono hwW).GH (jW.set Si 0 (.int .i64 4)) (by decide)).GH (jW.set k1 1 (.int .i64 (-1))) (by decide)).GH (jW.set k2 2 (.slice A5 1 q5)) (by decide)).GH (jW.set k3 3 (.slice none 0 0)) (by decide);exact bodyPost_ret (tH rfl _ _ rfl rfl k4) rfl ⟨⟨_,rfl,hrf⟩,hbf⟩
end Go.Proofs.YtohgjenaclfegaaGreatDoor

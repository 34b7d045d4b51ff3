import Derived.Test.YtelljijajgiabaaGreatDoorW01
set_option linter.unusedVariables false
set_option linter.unusedSimpArgs false
set_option maxRecDepth 100000
set_option maxHeartbeats 8000000
namespace Go.Proofs.YtelljijajgiabaaGreatDoor
open Go.RowKit
theorem GV (c e lo re pay:Int) (x:List Tf.X4) (A:Option Addr) (cap:Nat) (w:World) (hok:Tf.BJ ⟨c,e,lo,re,pay⟩) (LC:lo<=20) (Lr:re<=20) (hA:At 4 Ue w w.heap.size A x) (hn:x.length<=cap) (hlen:x.length<=maxLen) (hx:∀y∈x,I64 y.a/\I64 y.b/\I64 y.c/\I64 y.d) (L:List Tf.Ho) (hL:Kp ((Tf.xg (bnd e) ⟨c,e,lo,re,pay⟩ (x.take 8)).1=L)) :
 Calls Tryz.prog 13 #[.agg #[.int .i64 c,.int .i64 e,.int .i64 lo,.int .i64 re,.int .i64 pay],.slice A x.length cap] w fun e' w'=>(∃LA gQ,e'=.returned (.slice LA L.length gQ)/\BK w' LA gQ L/\gQ<=maxLen)/\Below w.heap.size w w':=by
 refine (Jo c e lo re pay x A cap w hok LC Lr hA hn hlen hx L hL).mono ?_;rintro e' w' ⟨⟨v,rfl,hr⟩,hb⟩;obtain ⟨LA,gQ,rfl,h1,h2,h3⟩:=bD.at (f:=aX) (fun _=>rfl) hr;have hM:=tZ hok LC Lr x;rw [hL.out]at hM;exact ⟨⟨LA,gQ,rfl,⟨h1,h2,by have:=hM.len;omega,OW hM.va⟩,h3⟩,hb⟩
theorem BK.cells {w:World} {LA:Option Addr} {gQ:Nat} {L:List Tf.Ho} (h:BK w LA gQ L) {i:Nat} (hi:i<L.length):∃b off,LA=some ⟨b,off,none⟩/\∀w2,Below w.heap.size w w2->∀(j:Nat) (u:Value),(aX L[i])[j]? = some u->w2.cell? ⟨b,off+i*6+j,none⟩=some u:=by
 obtain⟨b,off,rfl,hb,hc⟩:=h.at_ (by omega);exact ⟨b,off,rfl,fun w2 h2 j u hu=>(h2.cell (p:=⟨b,off+i*6+j,none⟩) hb).trans (hc i _ (List.getElem?_eq_getElem hi) j u hu)⟩
theorem OV {c e lo re pay:Int} {l:List Tf.Ho} (hv:wB ⟨c,e,lo,re,pay⟩ l) (A:Option Addr) (cap:Nat) (w:World) (h:BK w A cap l) (hE:Env w) :
 aW 19 #[.agg #[.int .i64 c,.int .i64 e,.int .i64 lo,.int .i64 re,.int .i64 pay],.slice A l.length cap] w (.bool true):=by
 have:=tH c e lo re pay l A cap w h.at_ h.cap h.len h.txt hE;rw [l7 hv]at this;exact this
end Go.Proofs.YtelljijajgiabaaGreatDoor

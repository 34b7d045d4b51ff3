import Derived.Test.YtelljijajgiabaaGreatDoorW01
set_option linter.unusedVariables false
set_option linter.unusedSimpArgs false
set_option maxRecDepth 100000
set_option maxHeartbeats 8000000
namespace Go.Proofs.YtelljijajgiabaaGreatDoor
open Go.RowKit
theorem holds_ok (c e lo re pay:Int) (x:List Tf.X4) (A:Option Addr) (cap:Nat) (w:World) (hok:Tf.RuOk ⟨c,e,lo,re,pay⟩) (hlo20:lo<=20) (hre20:re<=20) (hA:At 4 x4C w w.heap.size A x) (hn:x.length<=cap) (hlen:x.length<=maxLen) (hx:∀y∈x,I64 y.a/\I64 y.b/\I64 y.c/\I64 y.d) (L:List Tf.Ho) (hL:Kp ((Tf.genH (bnd e) ⟨c,e,lo,re,pay⟩ (x.take 8)).1=L)) :
 Calls Tryz.prog 13 #[.agg #[.int .i64 c,.int .i64 e,.int .i64 lo,.int .i64 re,.int .i64 pay],.slice A x.length cap] w fun e' w'=>(∃LA lcap,e'=.returned (.slice LA L.length lcap)/\HoA w' LA lcap L/\lcap<=maxLen)/\Below w.heap.size w w':=by
 refine (rHolds_any c e lo re pay x A cap w hok hlo20 hre20 hA hn hlen hx L hL).mono ?_;rintro e' w' ⟨⟨v,rfl,hr⟩,hb⟩;obtain ⟨LA,lcap,rfl,h1,h2,h3⟩:=RowZ.at (f:=hoC) (fun _=>rfl) hr;have hM:=holds_made hok hlo20 hre20 x;rw [hL.out]at hM;exact ⟨⟨LA,lcap,rfl,⟨h1,h2,by have:=hM.len;omega,va_hoL hM.va⟩,h3⟩,hb⟩
theorem HoA.cells {w:World} {LA:Option Addr} {lcap:Nat} {L:List Tf.Ho} (h:HoA w LA lcap L) {i:Nat} (hi:i<L.length):∃b off,LA=some ⟨b,off,none⟩/\∀w2,Below w.heap.size w w2->∀(j:Nat) (u:Value),(hoC L[i])[j]? = some u->w2.cell? ⟨b,off+i*6+j,none⟩=some u:=by
 obtain⟨b,off,rfl,hb,hc⟩:=h.at_ (by omega);exact ⟨b,off,rfl,fun w2 h2 j u hu=>(h2.cell (p:=⟨b,off+i*6+j,none⟩) hb).trans (hc i _ (List.getElem?_eq_getElem hi) j u hu)⟩
theorem made_fm {c e:Int} {r:Tf.Ru} {L:List Tf.Ho} (h:Tf.Made (InB c e) r L) {g:Tf.Ho} (hg:g∈L):fmB c e g=true/\HoL g:=⟨fmB_t (h.va.fm g hg),inB_len (h.va.fm g hg).b⟩
theorem owed_ok {c e lo re pay:Int} {g:Tf.Ho} (hr:ruB c e lo re pay=true) (hf:fmB c e g=true/\HoL g) (w:World) (hE:Env w) :
 Calls Tryz.prog 31 #[.agg #[.int .i64 c,.int .i64 e,.int .i64 lo,.int .i64 re,.int .i64 pay],.agg #[.int .i64 g.n,.int .i64 g.f,.string ⟨g.b.1.toArray⟩,.string ⟨g.b.2.toArray⟩,.int .i64 g.v,.int .i64 g.d]] w fun e' w'=>e'=.returned (.tuple #[.int .i64 (Tf.owed ⟨c,e,lo,re,pay⟩ g),.int .i64 0])/\Below w.heap.size w w' :=
 Owed_good c e lo re pay g.n g.f g.v g.d g.b.1 g.b.2 w hf.2.1 hf.2.2 hr hf.1 hE
theorem held_ok {c e lo re pay:Int} {l:List Tf.Ho} (hv:VaR ⟨c,e,lo,re,pay⟩ l) (A:Option Addr) (cap:Nat) (n t:Int) (w:World) (h:HoA w A cap l) (hE:Env w) :
 Calls Tryz.prog 21 #[.agg #[.int .i64 c,.int .i64 e,.int .i64 lo,.int .i64 re,.int .i64 pay],.slice A l.length cap,.int .i64 n,.int .i64 t] w fun e' w'=>e'=.returned (.bool (Tf.held ⟨c,e,lo,re,pay⟩ l n t))/\Below w.heap.size w w':=by
 have:=held_any c e lo re pay l A cap n t w h.at_ h.cap h.len h.txt hE;rw [heB_t hv]at this;exact this
end Go.Proofs.YtelljijajgiabaaGreatDoor

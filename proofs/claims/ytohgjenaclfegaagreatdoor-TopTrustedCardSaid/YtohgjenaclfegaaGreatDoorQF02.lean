import Derived.Test.YtohgjenaclfegaaGreatDoorQT04
import Derived.RangeFuncFrom
import Derived.RangeFuncWrites
set_option linter.unusedVariables false
set_option linter.unusedSimpArgs false
set_option maxRecDepth 100000
set_option maxHeartbeats 8000000
namespace Go.Proofs.YtohgjenaclfegaaGreatDoor
open Go.RowKit Go.Shelf
attribute [local go_sem] Oper.semAt_some
attribute [local go_sem] Oper.semAt_some
theorem Fr.set {B g i:Nat} {W:World} {u:Value} (hg:g<B):Fr B W (W.setCell ⟨g,i,none⟩ u) :=
 ⟨((Below.refl 0 W).setCell (p:=⟨g,i,none⟩) (Nat.zero_le _) u).size,fun b o hb ho=>(Below.heap_setCell W ⟨g,i,none⟩ u b (by show b≠g;omega)).trans ho⟩
attribute [local go_sem] Oper.semAt_some
theorem At.call {α:Type} {size:Nat} {f:α->List Value} {w w':World} {A:Option Addr} {p:List α} (h:At size f w w.heap.size A p) (hb:Below w.heap.size w w'):At size f w' w'.heap.size A p:=(h.below hb).more hb.size
end Go.Proofs.YtohgjenaclfegaaGreatDoor

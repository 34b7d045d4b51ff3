import Derived.Test.YtohgjenaclfegaaGreatDoorQF01
set_option linter.unusedVariables false
set_option linter.unusedSimpArgs false
set_option maxRecDepth 100000
set_option maxHeartbeats 8000000
namespace Go.Proofs.YtohgjenaclfegaaGreatDoor
open Go.RowKit Go.Shelf
theorem I8 {α:Type} {size:Nat} {f:α->List Value} (hf:∀c,(f c).length=size) {w:World} {g:Nat} {t:TypeId} {p:List α} (h:Bx w g t (p.flatMap f).toArray):At size f w w.heap.size (some ⟨g,0,none⟩) p:=fun _=>by
 refine⟨g,0,rfl,h.lt,fun i c hi j u hj=>h.cell (0+i*size+j) ?_⟩;have hjl:j<size:=by rw[←hf c];exact (List.getElem?_eq_some_iff.1 hj).1
 rw[List.getElem?_toArray,Nat.zero_add,flat_get hf p i j c hi hjl];exact hj
theorem JG {q:Rat} {n d:Int} {a b:List UInt8} (h1:q.num=n) (h2:(q.den:Int)=d) (h3:Lib.itoa n=a) (h4:Lib.itoa d=b):LQ q a b:=⟨by rw[h1,h3],by rw[h2,h4]⟩
theorem lq_p2:LQ (Tb.Pq 3 3 1 (10-1)) [49] [49,48,48,48]:=JG (n:=1) (d:=1000) (by decide +kernel) (by decide +kernel) (by decide +kernel) (by decide +kernel)
theorem lq_h2:LQ (Tb.Hq 5 2 2 2) [49] [49,48]:=JG (n:=1) (d:=10) (by decide +kernel) (by decide +kernel) (by decide +kernel) (by decide +kernel)
end Go.Proofs.YtohgjenaclfegaaGreatDoor

import Derived.Test.YtohgjenaclfegaaGreatDoorQF00
set_option linter.unusedVariables false
set_option linter.unusedSimpArgs false
set_option maxRecDepth 100000
set_option maxHeartbeats 8000000
namespace Go.Proofs.YtohgjenaclfegaaGreatDoor
open Go.RowKit Go.Shelf
structure Nb (c e lo re pay n f v d:Int) (b1 b2:List UInt8):Prop where
 l1:1<=lo
 l2:lo<=1000000
 r1:1<=re
 r2:re<=1000000
 p0:0<=pay
 p2:pay<=1000
 f0:0<=f
 f2:f<=10000000
 x0:f<=Tf.fin ⟨c,e,lo,re,pay⟩ ⟨n,f,(b1,b2),v,d⟩
 x2:Tf.fin ⟨c,e,lo,re,pay⟩ ⟨n,f,(b1,b2),v,d⟩<=f+lo
 m0:0<=pay*(Tf.fin ⟨c,e,lo,re,pay⟩ ⟨n,f,(b1,b2),v,d⟩-f)
 m2:pay*(Tf.fin ⟨c,e,lo,re,pay⟩ ⟨n,f,(b1,b2),v,d⟩-f)<=1000000000
 d0:0<=d
 d2:d<=11000000
theorem Nb.of {c e lo re pay n f v d:Int} {b1 b2:List UInt8} (hr:Zc c e lo re pay=true) (hf:YT c e ⟨n,f,(b1,b2),v,d⟩=true):Nb c e lo re pay n f v d b1 b2:=by
 have hr':=OT.1 hr;have hf':=P8.1 hf;have hl:=hr'.l1;have hl2:=hr'.l2;have hp:=hr'.p0;have hp2:=hr'.p2;have hf0:=hf'.f0;have hf1:=hf'.f2;dsimp only at hl hl2 hp hp2 hf0 hf1
 have hsp:Tf.Sp ⟨c,e,lo,re,pay⟩ ⟨n,f,(b1,b2),v,d⟩:=Tf.QF (by dsimp only;omega) fun h=>by
  rcases hf'.v with ⟨a,-⟩|⟨-,a,-⟩
  · rw[h]at a;cases a
  · exact a
 obtain⟨s1,s2⟩:=hsp;dsimp only at s1 s2
 have hd:0<=d/\d<=11000000:=by
  rcases hf'.v with ⟨-,a⟩|⟨-,a,b⟩ <;> dsimp only at* <;> omega
 refine⟨hl,hl2,hr'.r1,hr'.r2,hp,hp2,hf0,hf1,s1,s2,Int.mul_nonneg hp (by omega),?_,hd.1,hd.2⟩;have:=Int.mul_le_mul hp2 (show Tf.fin ⟨c,e,lo,re,pay⟩ ⟨n,f,(b1,b2),v,d⟩-f<=1000000 by omega) (by omega) (by decide);omega
end Go.Proofs.YtohgjenaclfegaaGreatDoor

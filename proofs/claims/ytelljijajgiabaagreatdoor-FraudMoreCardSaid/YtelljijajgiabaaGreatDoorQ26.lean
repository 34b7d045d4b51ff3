import Derived.Test.YtelljijajgiabaaGreatDoorQ24
set_option linter.unusedVariables false
set_option linter.unusedSimpArgs false
set_option maxRecDepth 100000
set_option maxHeartbeats 8000000
namespace Go.Proofs.YtelljijajgiabaaGreatDoor.RS
open Go.RowKit
def K2 (B:Nat) (t:TypeId) (cs:Array Value) (w w':World):Prop:=KF B t cs w w'/\yu t w w'
variable {B:Nat} {t:TypeId} {cs:Array Value} {W w w':World}
theorem YU (B:Nat) (t:TypeId) (cs:Array Value):Cls (K2 B t cs) :=
 ⟨fun w=>⟨(xC B t cs).refl w,yu.refl t w⟩,fun h1 h2=>⟨(xC B t cs).trans h1.1 h2.1,h1.2.trans h2.2⟩,fun w n=>⟨(xC B t cs).drawn w n,⟨Nat.le_refl _,fun _ _ h _=>h⟩⟩⟩
theorem K2.rf (B:Nat) (t:TypeId) (cs:Array Value) (w:World):K2 B t cs w w:=(YU B t cs).refl w
theorem K2.call (h:K2 B t cs W w) (hB:B<=W.heap.size) (hb:Below w.heap.size w w'):K2 B t cs w w':=⟨h.1.call hB hb,yu.call hb⟩
theorem K2.new (h:K2 B t cs W w) (hB:B<=W.heap.size) (z:Array Value) (hz:z.size=cs.size) (x:Value):K2 B t cs w (w.alloc (.cells z t))/\PtrR B t cs x (.pointer (some ⟨w.heap.size,0,none⟩)) (w.alloc (.cells z t)) :=
 ⟨⟨(h.1.new hB z hz x).1,yu.call (bNew (Below.refl w.heap.size w) _)⟩,(h.1.new hB z hz x).2⟩
theorem K2.store2 {x y a b:Value} {g:Nat} (hg:B<=g) (hB:Bx w g t #[a,b]) (u:Value) (hu:u=.pointer (some ⟨g,0,none⟩)) (z:Value) :
 K2 B t #[x,y] w ((w.setCell ⟨g,0,none⟩ x).setCell ⟨g,1,none⟩ y)/\StoR B t #[x,y] u z ((w.setCell ⟨g,0,none⟩ x).setCell ⟨g,1,none⟩ y) :=
 ⟨⟨(KF.store2 hg hB u hu z).1,(yu.set hB 0 x).trans (yu.set (hB.set 0 x) 1 y)⟩,(KF.store2 hg hB u hu z).2⟩
end Go.Proofs.YtelljijajgiabaaGreatDoor.RS
namespace Go.Proofs.YtelljijajgiabaaGreatDoor.RS
open Go.RowKit
structure KZ (B:Nat) (t:TypeId) (z cs:Array Value) (w w':World):Prop where
 bl:Below B w w'
 size:w.heap.size<=w'.heap.size
 own:∀g c,B<=g->Bx w g t c->Bx w' g t c∨(c=z/\Bx w' g t cs)
 oth:yu t w w'
variable {B:Nat} {t:TypeId} {z cs:Array Value} {W w w':World}
theorem KZ.rf (B:Nat) (t:TypeId) (z cs:Array Value) (w:World):KZ B t z cs w w:=⟨Below.refl _ _,Nat.le_refl _,fun g c _ h=>.inl h,yu.refl t w⟩
theorem jD (B:Nat) (t:TypeId) (z cs:Array Value):Cls (KZ B t z cs) :=
 ⟨KZ.rf B t z cs,fun h1 h2=>⟨h1.bl.trans h2.bl,Nat.le_trans h1.size h2.size,fun g c hg h=>by
  rcases h1.own g c hg h with h3|⟨h3,h4⟩
  · exact h2.own g c hg h3
  · rcases h2.own g cs hg h4 with h5|⟨-,h5⟩ <;> exact .inr ⟨h3,h5⟩,h1.oth.trans h2.oth⟩,
  fun w n=>⟨⟨rfl,rfl,rfl,Nat.le_refl _,fun _ _=>rfl⟩,Nat.le_refl _,fun g c _ h=>.inl h,⟨Nat.le_refl _,fun _ _ h _=>h⟩⟩⟩
theorem KZ.of (hB:B<=w.heap.size) (h:Below w.heap.size w w'):KZ B t z cs w w':=⟨h.mono hB,h.size,fun g c _ hb=>.inl (hb.call h),yu.call h⟩
theorem KZ.call (h:KZ B t z cs W w) (hB:B<=W.heap.size) (hb:Below w.heap.size w w'):KZ B t z cs w w':=KZ.of (Nat.le_trans hB h.size) hb
def vW (B:Nat) (t:TypeId) (z cs:Array Value):Rl:=fun _ v w=>∃g,v=.pointer (some ⟨g,0,none⟩)/\B<=g/\(Bx w g t z∨Bx w g t cs)
def vT (B:Nat) (t:TypeId) (cs:Array Value):Rl:=fun x _ w=>∃g,x=.pointer (some ⟨g,0,none⟩)/\B<=g/\Bx w g t cs
def Uc (B:Nat) (ty:TypeId) (n:Nat) (c:Array Value):Rl:=fun _ v w=>∃g,v=.slice (some ⟨g,0,none⟩) n n/\B<=g/\Bx w g ty c
theorem KZ.keep (h:KZ B t z cs w w') {g:Nat} (hg:B<=g) (hb:Bx w g t cs):Bx w' g t cs:=by
 rcases h.own g cs hg hb with h1|⟨-,h1⟩ <;> exact h1
theorem iM:eP (KZ B t z cs) (vW B t z cs):=fun x v w w' ⟨g,e,hg,hb⟩ h=>by
 rcases hb with hb|hb
 · rcases h.own g z hg hb with h1|⟨-,h1⟩
   · exact⟨g,e,hg,.inl h1⟩
   · exact⟨g,e,hg,.inr h1⟩
 · exact⟨g,e,hg,.inr (h.keep hg hb)⟩
theorem iL:eP (KZ B t z cs) (vT B t cs):=fun x v w w' ⟨g,e,hg,hb⟩ h=>⟨g,e,hg,h.keep hg hb⟩
theorem qH {ty:TypeId} {n:Nat} {c:Array Value} (hc:ty≠t∨c≠z):eP (KZ B t z cs) (Uc B ty n c):=fun x v w w' ⟨g,e,hg,hb⟩ h=>by
 by_cases ht:ty=t
 · subst ht
   rcases hc with hc|hc
   · exact absurd rfl hc
   · rcases h.own g c hg hb with h1|⟨h1,-⟩
     · exact⟨g,e,hg,h1⟩
     · exact absurd h1 hc
 · exact⟨g,e,hg,h.oth.bx ht hb⟩
theorem KZ.slice (h:KZ B t z cs W w) (hB:B<=W.heap.size) (ty:TypeId) (n:Nat) (c:Array Value) (x:Value):KZ B t z cs w (w.alloc (.cells c ty))/\Uc B ty n c x (.slice (some ⟨w.heap.size,0,none⟩) n n) (w.alloc (.cells c ty)) :=
 ⟨h.call hB (bNew (Below.refl w.heap.size w) _),_,rfl,Nat.le_trans hB h.size,Bx.mk w ty c⟩
theorem KZ.new (h:KZ B t z cs W w) (hB:B<=W.heap.size) (x:Value):KZ B t z cs w (w.alloc (.cells z t))/\vW B t z cs x (.pointer (some ⟨w.heap.size,0,none⟩)) (w.alloc (.cells z t)) :=
 ⟨h.call hB (bNew (Below.refl w.heap.size w) _),_,rfl,Nat.le_trans hB h.size,.inl (Bx.mk w t z)⟩
theorem KZ.put {g:Nat} (hg:B<=g) (hB:Bx w g t z∨Bx w g t cs) (hs:w.heap.size<=w'.heap.size) (hb:Below B w w') (ho:∀b,b≠g->w'.heap[b]? = w.heap[b]?) (hB':Bx w' g t cs):KZ B t z cs w w':=by
 refine⟨hb,hs,fun b c hbb hc=>?_,hs,fun b o h1 h2=>?_⟩
 · by_cases e:b=g
   · subst e
     rcases hB with h1|h1
     · right
       have:c=z:=by
        have:=(show w.heap[b]? = _ from hc).symm.trans h1;simpa using this
       exact⟨this,hB'⟩
     · left
       have:c=cs:=by
        have:=(show w.heap[b]? = _ from hc).symm.trans h1;simpa using this
       rw[this];exact hB'
   · exact .inl ((ho b e).trans hc)
 · by_cases e:b=g
   · subst e
     rcases hB with h3|h3
     · exact absurd ((Option.some.inj (h1.symm.trans h3))) (h2 _ _)
     · exact absurd ((Option.some.inj (h1.symm.trans h3))) (h2 _ _)
   · exact (ho b e).trans h1
theorem wM {g:Nat}:∀(vs:List Value) (k:Nat) (w:World) (cs:Array Value),Bx w g t cs->cs.size=k+vs.length->Bx (w.setCells g k vs) g t ((cs.toList.take k)++vs).toArray
 | [],k,w,cs,h,hs=>by
  have:((cs.toList.take k)++([]:List Value)).toArray=cs:=by rw[List.append_nil,List.take_of_length_le (by simpa using Nat.le_of_eq hs)]
  rw[this];exact h
 | v :: r,k,w,cs,h,hs=>by
  have h1:=wM r (k+1) (w.setCell ⟨g,k,none⟩ v) _ (h.set k v) (by simp only[Array.size_setIfInBounds];simp only[List.length_cons]at hs;omega)
  have e:((cs.setIfInBounds k v).toList.take (k+1))++r=cs.toList.take k++v :: r:=by
   have:(cs.setIfInBounds k v).toList.take (k+1)=cs.toList.take k++[v]:=by
    rw[Array.toList_setIfInBounds,List.take_add_one,List.take_set_of_le (Nat.le_refl _)];simp [show k<cs.size by simp only[List.length_cons]at hs;omega]
   rw[this];simp
  rw[e]at h1;exact h1
theorem KZ.stores {g:Nat} {L:List Value} (hL:cs=L.toArray) (hz:z.size=L.length) (hg:B<=g) (hB:Bx w g t z∨Bx w g t cs) (x y:Value) (hx:x=.pointer (some ⟨g,0,none⟩)):KZ B t z cs w (w.setCells g 0 L)/\vT B t cs x y (w.setCells g 0 L):=by
 have hb:Below B w (w.setCells g 0 L):=by
  have:∀(vs:List Value) (o:Nat) (w':World),Below B w w'->Below B w (w'.setCells g o vs):=by
   intro vs
   induction vs with
   | nil=>intro o w' h;exact h
   | cons a l ih=>intro o w' h;exact ih _ _ (h.setCell hg _)
  exact this _ _ _ (Below.refl _ _)
 have hn:Bx (w.setCells g 0 L) g t cs:=by
  rw[hL]
  rcases hB with h|h
  · have:=wM L 0 w z h (by omega);simpa using this
  · have:=wM L 0 w cs h (by rw[hL];simp);simpa using this
 have hsz:w.heap.size<=(w.setCells g 0 L).heap.size:=size_setCells _ _ _;exact ⟨KZ.put hg hB hsz hb (fun b e=>kJ e _ _ _) hn,g,hx,hg,hn⟩
end Go.Proofs.YtelljijajgiabaaGreatDoor.RS

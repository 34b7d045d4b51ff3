import Derived.Test.YtohgjenaclfegaaGreatDoorQA06
import Derived.Laws.BitsAllLaws
set_option linter.unusedVariables false
set_option linter.unusedSimpArgs false
set_option maxRecDepth 100000
set_option maxHeartbeats 8000000
namespace Go.Proofs.YtohgjenaclfegaaGreatDoor
open Go.RowKit Go.Shelf
theorem qJ (c n:Int) (h0:0<n) (h:y8 c) (w:World) :
 aT 19 #[.int .i64 c,.int .i64 n] w (.int .i64 (Sh.pk c n)):=by
 obtain⟨h1,h2⟩:=h;have hb:=bH w;by_cases hc:c<0
 · have hm:0<= -(c+1):=by omega
   go_enter Tryz.func19,Tryz.ntmps19
   go_wp2;go_ret;refine ⟨bQ ?_,hb⟩;rw [Sh.O9 hc,←Int.neg_tmod];exact Int.tmod_eq_emod_of_nonneg hm
 · have hm:0<=c:=by omega
   go_enter Tryz.func19,Tryz.ntmps19
   go_wp2;go_ret;exact ⟨bQ (Sh.O8 hm).symm,hb⟩
theorem or256 (a b:Nat) (ha:a<256) (hb:b<256):bits .or .i64 (a:Int) (b:Int)=((a ||| b:Nat):Int):=by
 have hx:a ||| b<2 ^ 8:=Nat.or_lt_two_pow (by omega) (by omega)
 have h1:(BitVec.ofInt 64 (a:Int)).toNat=a:=ofInt_u64 a (by omega);have h2:(BitVec.ofInt 64 (b:Int)).toNat=b:=ofInt_u64 b (by omega)
 show IntKind.i64.wrap ((BitVec.ofInt 64 (a:Int) ||| BitVec.ofInt 64 (b:Int)).toNat:Int)=_
 rw[BitVec.toNat_or,h1,h2];simp [IntKind.wrap,IntKind.bits,IntKind.signed]
 omega
theorem Pv {a b:Nat} (ha:a<256) (hb:b<256):a ||| b<256:=Nat.or_lt_two_pow (n:=8) ha hb
theorem aI.YS {e e2:TypeId} {size B n:Nat} {flat:List Value} {v:Value} {w w':World} (h:aI e2 size B n flat v w) (k:nM e w w') (hne:e2≠e):aI e2 size B n flat v w':=by
 rcases h with h|⟨cap,⟨g,cells,h1,h2,h3,h4,h5⟩,hm⟩
 · exact .inl h
 · exact .inr ⟨cap,⟨g,cells,h1,h2,h3,k.bx hne h4,h5⟩,hm⟩
theorem yU:Tryz.prog.underlying 75=some (.slice 32):=by kernel_rfl
theorem attI:∃i z,Tryz.prog.info? 32=some i/\i.zero=some z/\i.size=5/\z.cells.size=5/\i.bytes=56:=by
 have h:(Tryz.prog.info? 32).map (fun i=>(i.zero,i.size,i.bytes))=some (some (.agg #[.int .i64 0,.int .i64 0,.int .i64 0,.int .i64 0,.slice none 0 0]),5,56):=by kernel_rfl
 obtain⟨i,h1,h2,h3,h4⟩:=info_parts h;exact ⟨i,_,h1,h2,h3,rfl,h4⟩
theorem PK {w:World} {g:Nat} {a b c d:Int} {v:Value} (hv:v.oneCell'=true) (h:Bx w g 32 #[.int .i64 a,.int .i64 b,.int .i64 c,.int .i64 d,v]):Src Tryz.prog 5 75 (.slice (some ⟨g,0,none⟩) 1 1) 1 [.int .i64 a,.int .i64 b,.int .i64 c,.int .i64 d,v] w :=
 dP.src (P:=Tryz.prog) (size:=5) (B:=0) (cap:=1) (e:=32) (t:=75) (fun u hu=>by
  simp only[List.mem_cons,List.not_mem_nil,or_false]at hu
  rcases hu with rfl|rfl|rfl|rfl|rfl
  · rfl
  · rfl
  · rfl
  · rfl
  · exact hv) yU ⟨g,_,rfl,Nat.zero_le _,Nat.le_refl _,h,rfl,rfl⟩
theorem PI {w:World} {g:Nat} {n:Int} (h:Bx w g 3 #[.int .i64 n]):Src Tryz.prog 1 23 (.slice (some ⟨g,0,none⟩) 1 1) 1 (AA n) w :=
 dP.src (P:=Tryz.prog) (size:=1) (B:=0) (cap:=1) (e:=3) (t:=23) (fun u hu=>by simp only[AA,List.mem_cons,List.not_mem_nil,or_false]at hu;subst hu;rfl) mP ⟨g,_,rfl,Nat.zero_le _,Nat.le_refl _,h,rfl,rfl⟩
structure NX where
 x:lY
 v:Value
def nxC (q:NX):List Value:=[.int .i64 q.x.a,.int .i64 q.x.b,.int .i64 q.x.c,.int .i64 q.x.e,.int .i64 q.x.lv,q.v,.int .i64 q.x.k0,.int .i64 q.x.k1,.int .i64 q.x.k2,.int .i64 q.x.k3,.int .i64 q.x.k4,.int .i64 q.x.k5,.int .i64 q.x.k6,.int .i64 q.x.k7]
structure Jg (q:NX) (w:World):Prop where
 ok:KJ q.x
 at_:∃A c,q.v=.slice A q.x.cs.length c/\At 1 AA w w.heap.size A q.x.cs/\q.x.cs.length<=c/\c<=maxLen
theorem Jg.call {q:NX} {w w':World} (h:Jg q w) (hb:Below w.heap.size w w'):Jg q w':=by
 obtain⟨h0,A,c,h1,h2,h3⟩:=h;exact ⟨h0,A,c,h1,h2.bY hb,h3⟩
structure TQ (B:Nat) (x:AX) (w:World):Prop where
 r9:x.d.r=9
 mad:∃kn,Jh x.d kn x.hs
 row:eY x.d x.hs B x.v w
 one:x.v.oneCell'=true
theorem TQ.call {B:Nat} {x:AX} {w w':World} (h:TQ B x w) (hb:Below w.heap.size w w'):TQ B x w':=⟨h.r9,h.mad,h.row.call hb,h.one⟩
theorem TQ.YS {B:Nat} {x:AX} {e:TypeId} {w w':World} (h:TQ B x w) (k:nM e w w') (he:70≠e):TQ B x w':=⟨h.r9,h.mad,aI.YS h.row k he,h.one⟩
theorem TQ.ha {B:Nat} {x:AX} {w:World} (h:TQ B x w):TR x w:=by
 obtain⟨A,c,h1,h2,h3,-⟩:=aI.at (p:=x.hs) (f:=dS) (fun _=>rfl) h.row;exact ⟨A,c,h1,h2,h3⟩
structure KO (B:Nat) (w:World) (k m:Nat) (v10 v11:Value) (ls:List AX) (fr:List Int) (X:World):Prop where
 bl:Below w.heap.size w X
 sz:B<=X.heap.size
 l1:ls.length=k
 l2:fr.length=m
 ra:aI 32 5 B k (ls.flatMap axC) v10 X
 rf:aI 3 1 B m (fr.flatMap AA) v11 X
 md:∀x∈ls,TQ B x X
 f8:∀f∈fr,0<=f/\f<=7
variable {B:Nat} {w:World} {k m:Nat} {v10 v11:Value} {ls:List AX} {fr:List Int} {X Y:World}
theorem KO.call (h:KO B w k m v10 v11 ls fr X) (hb:Below X.heap.size X Y):KO B w k m v10 v11 ls fr Y :=
 ⟨ah h.bl hb,Nat.le_trans h.sz hb.size,h.l1,h.l2,aU _ _ _ _ _ _ _ _ h.ra hb,aU _ _ _ _ _ _ _ _ h.rf hb,fun x hx=>(h.md x hx).call hb,h.f8⟩
theorem KO.more (h:KO B w k m v10 v11 ls fr X) (hB:w.heap.size<=B) {x:AX} {v:Value} (hx:TQ B x X) (hb:Below B X Y) (hk:nM 32 X Y) (hr:aI 32 5 B (k+1) (ls.flatMap axC++axC x) v Y):KO B w (k+1) m v v11 (ls++[x]) fr Y :=
 ⟨h.bl.trans (hb.mono hB),Nat.le_trans h.sz hk.size,by rw[List.length_append,h.l1];rfl,h.l2,by rw[List.flatMap_append];simpa using hr,aI.YS h.rf hk (by decide),fun y hy=>by
  rcases List.mem_append.1 hy with h9|h9
  · exact (h.md y h9).YS hk (by decide)
  · rw[List.mem_singleton.1 h9];exact hx.YS hk (by decide),h.f8⟩
theorem KO.from (h:KO B w k m v10 v11 ls fr X) (hB:w.heap.size<=B) {f:Int} {v:Value} (hf:0<=f/\f<=7) (hb:Below B X Y) (hk:nM 3 X Y) (hr:aI 3 1 B (m+1) (fr.flatMap AA++AA f) v Y):KO B w k (m+1) v10 v ls (fr++[f]) Y :=
 ⟨h.bl.trans (hb.mono hB),Nat.le_trans h.sz hk.size,h.l1,by rw[List.length_append,h.l2];rfl,aI.YS h.ra hk (by decide),by rw[List.flatMap_append];simpa using hr,fun y hy=>(h.md y hy).YS hk (by decide),fun y hy=>by
  rcases List.mem_append.1 hy with h9|h9
  · exact h.f8 y h9
  · rw[List.mem_singleton.1 h9];exact hf⟩
theorem Kq {α:Type} {f:α->Bool} {l:List α} {k:Nat} (h:∀x∈l,f x=true) (hk:k<=l.length):cnt f l k=k:=by
 unfold cnt
 rw[List.countP_eq_length.2 fun x hx=>h x (List.mem_of_mem_take hx),List.length_take];omega
theorem yQ {α:Type} {f:α->Bool} {l:List α} {k:Nat} (h:∀x∈l,f x=false):cnt f l k=0:=by
 unfold cnt
 rw[List.countP_eq_zero];intro x hx;rw [h x (List.mem_of_mem_take hx)];decide
def Ti (ks:List (List UInt8)) (x:AX × Int):Bool:=(c0 x.1.hs != x.2)&&((l0 x.1.hs==3)&&(ks.getD (c0 x.1.hs).toNat [] != []))
structure CnF (s m n:Nat) (Z:List (AX × Int)):Prop where
 t9:cnt (cT 9) Z n=n
 t10:cnt (cT 10) Z n=0
 c10:cnt (cC (fF keysA s) 10) Z n=0
 ab:cnt (cC (fF keysA s) 9) Z n<=cnt (cC (fF keysA (s ||| m)) 9) Z n
 an:cnt (cC (fF keysA s) 9) Z n<=n
 bn:cnt (cC (fF keysA (s ||| m)) 9) Z n<=n
 la:cnt (Ti (fF keysA s)) Z n<=cnt (cC (fF keysA s) 9) Z n
theorem KO.counts (h:KO B w k m v10 v11 ls fr X) (hkm:k=m) (s t:Nat):CnF s t k (ls.zip fr):=by
 have hz:(ls.zip fr).length=k:=by rw[List.length_zip,h.l1,h.l2];omega
 have hx:∀x∈ls.zip fr,x.1.d.r=9/\∃kn,Jh x.1.d kn x.1.hs:=fun x hx=>by
  have h9:=h.md x.1 (List.of_mem_zip hx).1;exact ⟨h9.r9,h9.mad⟩
 refine⟨Kq (fun x VE=>by unfold cT;rw[(hx x VE).1];rfl) (by omega),yQ (fun x VE=>by unfold cT;rw[(hx x VE).1];rfl),yQ (fun x VE=>by unfold cC;rw[(hx x VE).1];rfl),cnt_mono fun x VE hc=>?_,cnt_le,cnt_le,cnt_mono fun x VE hc=>?_⟩
 · obtain⟨h1,kn,h2⟩:=hx x VE
   unfold cC at hc ⊢
   rw[Bool.and_eq_true]at hc ⊢;exact ⟨hc.1,V9 (x:=((x.1.d,x.1.hs),x.2)) h2 hc.2⟩
 · obtain⟨h1,kn,h2⟩:=hx x VE
   unfold Ti at hc
   unfold cC
   rw[Bool.and_eq_true];refine ⟨by rw[h1];rfl,Si (x:=((x.1.d,x.1.hs),x.2)) h2 ?_⟩
   unfold cnL
   rw[Bool.and_eq_true,Bool.and_eq_true]at hc ⊢;exact ⟨decide_eq_true (by simpa using hc.1),decide_eq_true (by simpa using hc.2.1),hc.2.2⟩
end Go.Proofs.YtohgjenaclfegaaGreatDoor

import Derived.WalkKit
import Derived.Laws.BitsAllLaws
import Derived.Test.YtohgjenaclfegaaGreatDoorProg
import Derived.Test.YtohgjenaclfegaaGreatDoorQK01
import Derived.Laws.CopyOwn
import Derived.Deep.WholeRow
set_option linter.unusedVariables false
set_option linter.unusedSimpArgs false
set_option maxRecDepth 100000
set_option maxHeartbeats 8000000
namespace Go.Proofs.YtohgjenaclfegaaGreatDoor.Sh
def vb (z:Nat):List UInt8:=if z<128 then [UInt8.ofNat z] else UInt8.ofNat (z % 128+128) :: vb (z / 128)
termination_by z
decreasing_by omega
theorem zl {z:Nat} (h:z<128):vb z=[UInt8.ofNat z]:=by rw[vb,if_pos h]
theorem I4 {z:Nat} (h:¬z<128):vb z=UInt8.ofNat (z % 128+128) :: vb (z / 128):=by rw[vb,if_neg h]
theorem CJ:∀(k z:Nat),z<128 ^ (k+1)->(vb z).length<=k+1
 | 0,z,h=>by rw[zl (by omega)];simp
 | k+1,z,h=>by
  by_cases hz:z<128
  · rw[zl hz];simp
  · rw[I4 hz,List.length_cons];have:=CJ k (z / 128) (by rw[Nat.pow_succ]at h;omega);omega
def dV (n:Int):List UInt8:=vb (2*n.toNat)
theorem JB {n:Int} (h1:n<=99999999):(dV n).length<=4:=CJ 3 _ (by omega)
def W (x:Int):Int:=x % 4294967296
def nS (x:Int) (n:Nat):Int:=bits .or .u32 (W (x*2 ^ (32-n))) (x / 2 ^ n)
def x32 (a b:Int):Int:=bits .xor .u32 a b
def a32 (a b:Int):Int:=bits .and .u32 a b
def I32 (x:Int):Prop:=0<=x/\x<4294967296
theorem Qh (op:BinOp) (a b:Int):I32 (bits op .u32 a b):=by
 unfold bits I32
 simp only[IntKind.wrap_u32'];omega
theorem Ju (x:Int) (n:Nat):I32 (nS x n):=Qh _ _ _
theorem Gu (a b:Int):bits .or .u32 a b=bits .or .u32 b a:=by
 unfold bits
 simp only[BitVec.or_comm]
theorem sD {a:Int} (h:I32 a):bits .xor .u32 0 a=a:=by
 rw[u32_xor 0 a (by decide) (by decide) h.1 h.2];have:=h.1;simp;omega
def mixed (x:Int) (l:List Nat):Int:=l.foldl (fun o n=>x32 o (nS x n)) 0
def S0 (x:Int):Int:=x32 (x32 (nS x 2) (nS x 13)) (nS x 22)
def S1 (x:Int):Int:=x32 (x32 (nS x 6) (nS x 11)) (nS x 25)
def s0 (x:Int):Int:=x32 (x32 (nS x 7) (nS x 18)) (x / 8)
def s1 (x:Int):Int:=x32 (x32 (nS x 17) (nS x 19)) (x / 1024)
theorem EM (x:Int) (a b:Nat):mixed x [a,b]=x32 (nS x a) (nS x b):=by
 unfold mixed x32
 simp only[List.foldl_cons,List.foldl_nil];rw [sD (Ju _ _)]
theorem EL (x:Int) (a b c:Nat):mixed x [a,b,c]=x32 (x32 (nS x a) (nS x b)) (nS x c):=by
 unfold mixed x32
 simp only[List.foldl_cons,List.foldl_nil];rw [sD (Ju _ _)]
def ch (e f g:Int):Int:=x32 (a32 e f) (a32 (x32 4294967295 e) g)
def maj (a b c:Int):Int:=x32 (x32 (a32 a b) (a32 a c)) (a32 b c)
structure S8 where
 (a b c d e f g h:Int)
def S8.l (s:S8):List Int:=[s.a,s.b,s.c,s.d,s.e,s.f,s.g,s.h]
def t1 (s:S8) (k w:Int):Int:=W (W (W (W (s.h+S1 s.e)+ch s.e s.f s.g)+k)+w)
def t2 (s:S8):Int:=W (S0 s.a+maj s.a s.b s.c)
def U3 (s:S8) (k w:Int):S8:=⟨W (t1 s k w+t2 s),s.a,s.b,s.c,W (s.d+t1 s k w),s.e,s.f,s.g⟩
def rs:List (Int × Int)->S8->S8
 | [],s=>s
 | (k,w) :: r,s=>rs r (U3 s k w)
def kc:List Int:=[0x428a2f98,0x71374491,0xb5c0fbcf,0xe9b5dba5,0x3956c25b,0x59f111f1,0x923f82a4,0xab1c5ed5,
 0xd807aa98,0x12835b01,0x243185be,0x550c7dc3,0x72be5d74,0x80deb1fe,0x9bdc06a7,0xc19bf174,
 0xe49b69c1,0xefbe4786,0x0fc19dc6,0x240ca1cc,0x2de92c6f,0x4a7484aa,0x5cb0a9dc,0x76f988da,
 0x983e5152,0xa831c66d,0xb00327c8,0xbf597fc7,0xc6e00bf3,0xd5a79147,0x06ca6351,0x14292967,
 0x27b70a85,0x2e1b2138,0x4d2c6dfc,0x53380d13,0x650a7354,0x766a0abb,0x81c2c92e,0x92722c85,
 0xa2bfe8a1,0xa81a664b,0xc24b8b70,0xc76c51a3,0xd192e819,0xd6990624,0xf40e3585,0x106aa070,
 0x19a4c116,0x1e376c08,0x2748774c,0x34b0bcb5,0x391c0cb3,0x4ed8aa4a,0x5b9cca4f,0x682e6ff3,
 0x748f82ee,0x78a5636f,0x84c87814,0x8cc70208,0x90befffa,0xa4506ceb,0xbef9a3f7,0xc67178f2]
theorem uf:kc.length=64:=rfl
def iv:S8:=⟨0x6a09e667,0xbb67ae85,0x3c6ef372,0xa54ff53a,0x510e527f,0x9b05688c,0x1f83d9ab,0x5be0cd19⟩
def U5 (w:List Int):Int:=W (W (W (w.getD (w.length-16) 0+s0 (w.getD (w.length-15) 0))+w.getD (w.length-7) 0)+s1 (w.getD (w.length-2) 0))
theorem JY {l:List Int} {m:Nat} (h:l.length=m+16) (h0:m+14<l.length):U5 l=W (W (W (l[m]+s0 l[m+1])+l[m+9])+s1 l[m+14]):=by
 have g:∀k (hk:k<l.length),l.getD k 0=l[k]:=fun k hk=>by rw[List.getD_eq_getElem?_getD,List.getElem?_eq_getElem hk];rfl
 unfold U5
 rw[show l.length-16=m by omega,show l.length-15=m+1 by omega,show l.length-7=m+9 by omega,show l.length-2=m+14 by omega,g _ (by omega),g _ (by omega),g _ (by omega),g _ (by omega)]
def ext:Nat->List Int->List Int
 | 0,w=>w
 | n+1,w=>ext n (w++[U5 w])
theorem Fg:∀(n:Nat) (w:List Int),(ext n w).length=w.length+n
 | 0,w=>rfl
 | n+1,w=>by rw[ext,Fg n,List.length_append,List.length_singleton];omega
def Oc (b0 b1 b2 b3:Int):Int:=bits .or .u32 (bits .or .u32 (bits .or .u32 (W (W b0*16777216)) (W (W b1*65536))) (W (W b2*256))) (W b3)
def bD (b:List UInt8) (i:Nat):Int:=((b.getD i 0).toNat:Int)
def sH (b:List UInt8):List Int:=(List.range 16).map fun i=>Oc (bD b (4*i)) (bD b (4*i+1)) (bD b (4*i+2)) (bD b (4*i+3))
theorem jw (b:List UInt8):(sH b).length=16:=by simp[sH]
def F8 (b:List UInt8):List Int:=ext 48 (sH b)
theorem OQ (b:List UInt8):(F8 b).length=64:=by rw[F8,Fg,jw]
def adds (s t:S8):S8:=⟨W (s.a+t.a),W (s.b+t.b),W (s.c+t.c),W (s.d+t.d),W (s.e+t.e),W (s.f+t.f),W (s.g+t.g),W (s.h+t.h)⟩
theorem Bv {h s:S8} {i:Nat} {x y:Int} (hx:h.l[i]? = some x) (hy:s.l[i]? = some y):(adds h s).l[i]? = some ((x+y) % 4294967296):=by
 match i,hx,hy with
 | 0,hx,hy=>cases hx;cases hy;rfl
 | 1,hx,hy=>cases hx;cases hy;rfl
 | 2,hx,hy=>cases hx;cases hy;rfl
 | 3,hx,hy=>cases hx;cases hy;rfl
 | 4,hx,hy=>cases hx;cases hy;rfl
 | 5,hx,hy=>cases hx;cases hy;rfl
 | 6,hx,hy=>cases hx;cases hy;rfl
 | 7,hx,hy=>cases hx;cases hy;rfl
 | n+8,hx,hy=>cases hx
theorem O_ {R H:List Int} {i:Nat} (hR:i<=R.length):(R.take i++H.drop i)[i]? = H[i]? := by
 rw[List.getElem?_append_right (by rw[List.length_take];omega),List.length_take,Nat.min_eq_left hR,Nat.sub_self,List.getElem?_drop,Nat.add_zero]
theorem O9 {R H:List Int} {i:Nat} {x:Int} (hR:R[i]? = some x) (hH:i<H.length):(R.take i++H.drop i).set i x=R.take (i+1)++H.drop (i+1):=by
 have h1:i<R.length:=(List.getElem?_eq_some_iff.1 hR).1;rw [List.set_append_right _ _ (by rw[List.length_take];omega),List.length_take,Nat.min_eq_left (by omega),Nat.sub_self,List.drop_eq_getElem_cons hH,List.set_cons_zero,List.take_add_one,hR,List.append_assoc];rfl
def comp (h:S8) (b:List UInt8):S8:=adds h (rs (kc.zip (F8 b)) h)
def blocks:Nat->List UInt8->S8->S8
 | 0,_,h=>h
 | n+1,b,h=>blocks n (b.drop 64) (comp h (b.take 64))
def by8 (x:Int):UInt8:=UInt8.ofNat (IntKind.u8.wrap x).toNat
theorem kQ (x:Int):((by8 x).toNat:Int)=IntKind.u8.wrap x:=by
 have h1:0<=IntKind.u8.wrap x/\IntKind.u8.wrap x<256:=by rw[IntKind.wrap_u8'];omega
 have:(IntKind.u8.wrap x).toNat<256:=by omega
 unfold by8
 rw[UInt8.toNat_ofNat',Nat.mod_eq_of_lt (by omega)];omega
def wb (x:Int):List UInt8:=[by8 (x / 16777216),by8 (x / 65536),by8 (x / 256),by8 x]
def out (h:S8):List UInt8:=h.l.flatMap wb
theorem mV (h:S8):(out h).length=32:=rfl
def zeros (n:Nat):Nat:=(119-n % 64) % 64
def lG (n:Nat):List UInt8:=[by8 (8*n / 2 ^ 56),by8 (8*n / 2 ^ 48),by8 (8*n / 2 ^ 40),by8 (8*n / 2 ^ 32),by8 (8*n / 2 ^ 24),by8 (8*n / 2 ^ 16),by8 (8*n / 2 ^ 8),by8 (8*n)]
theorem zW (n:Nat) {t:Nat} (h:t<8):(lG n)[7-t]? = some (by8 (8*(n:Int) / 2 ^ (8*t))):=by
 match t,h with
 | 0,_=>simp[lG]
 | 1,_=>rfl
 | 2,_=>rfl
 | 3,_=>rfl
 | 4,_=>rfl
 | 5,_=>rfl
 | 6,_=>rfl
 | 7,_=>rfl
def pad (s:List UInt8):List UInt8:=s++[128]++List.replicate (zeros s.length) 0++lG s.length
theorem O4 (s:List UInt8):(pad s).length % 64=0:=by
 simp only[pad,lG,zeros,List.length_append,List.length_replicate,List.length_cons,List.length_nil];omega
theorem zK (s:List UInt8):(pad s).length=64*((pad s).length / 64):=by have:=O4 s;omega
theorem JG (s:List UInt8):(pad s).length<=s.length+73:=by
 simp only[pad,lG,zeros,List.length_append,List.length_replicate,List.length_cons,List.length_nil];omega
def IE (s:List UInt8):List UInt8:=out (blocks ((pad s).length / 64) (pad s) iv)
theorem xU (s:List UInt8):(IE s).length=32:=mV _
def leaf (s:List UInt8):List UInt8:=IE (0 :: s)
def node (a b:List UInt8):List UInt8:=IE (1 :: (a++b))
open Go.RowKit in
def uC (l:List Int):Array Value:=(l.map fun x=>Value.int .u32 x).toArray
theorem jY (l:List Int):(uC l).size=l.length:=by simp[uC]
theorem jE {l:List Int} {i:Nat} {x:Int} (h:l[i]? = some x):(uC l)[i]? = some (.int .u32 x):=by simp[uC,h]
theorem CP (l:List Int) (i:Nat) (x:Int):(uC l).setIfInBounds i (.int .u32 x)=uC (l.set i x):=by simp[uC,List.map_set]
theorem EC {b:List UInt8} {k:Nat} (h:k<16):(sH b)[k]? = some (Oc (bD b (4*k)) (bD b (4*k+1)) (bD b (4*k+2)) (bD b (4*k+3))):=by
 simp[sH,h]
open Go.RowKit in
def bC (l:List UInt8):Array Value:=(l.map fun x=>Value.int .u8 x.toNat).toArray
theorem uN {l:List UInt8} {i:Nat} {x:UInt8} (h:l[i]? = some x):(bC l)[i]? = some (.int .u8 x.toNat):=by simp[bC,h]
theorem NG (l:List UInt8) (i:Nat) (x:UInt8):(bC l).setIfInBounds i (.int .u8 x.toNat)=bC (l.set i x):=by simp[bC,List.map_set]
theorem O5 {h:S8} {i k:Nat} {x:Int} (hx:h.l[i]? = some x) (hk:k<4):(out h)[4*i+k]? = (wb x)[k]? := by
 match i,hx with
 | 0,hx=>cases hx;match k,hk with|0,_=>rfl|1,_=>rfl|2,_=>rfl|3,_=>rfl
 | 1,hx=>cases hx;match k,hk with|0,_=>rfl|1,_=>rfl|2,_=>rfl|3,_=>rfl
 | 2,hx=>cases hx;match k,hk with|0,_=>rfl|1,_=>rfl|2,_=>rfl|3,_=>rfl
 | 3,hx=>cases hx;match k,hk with|0,_=>rfl|1,_=>rfl|2,_=>rfl|3,_=>rfl
 | 4,hx=>cases hx;match k,hk with|0,_=>rfl|1,_=>rfl|2,_=>rfl|3,_=>rfl
 | 5,hx=>cases hx;match k,hk with|0,_=>rfl|1,_=>rfl|2,_=>rfl|3,_=>rfl
 | 6,hx=>cases hx;match k,hk with|0,_=>rfl|1,_=>rfl|2,_=>rfl|3,_=>rfl
 | 7,hx=>cases hx;match k,hk with|0,_=>rfl|1,_=>rfl|2,_=>rfl|3,_=>rfl
 | n+8,hx=>cases hx
theorem XI {O:List UInt8} {n:Nat} {x:UInt8} (hO:O.length=32) (h:O[n]? = some x):(bC (O.take n++List.replicate (32-n) 0)).setIfInBounds n (.int .u8 x.toNat)=bC (O.take (n+1)++List.replicate (32-(n+1)) 0):=by
 have h1:n<32:=by have:=(List.getElem?_eq_some_iff.1 h).1;omega
 rw[NG,List.set_append_right _ _ (by rw[List.length_take];omega),List.length_take,Nat.min_eq_left (by omega),Nat.sub_self,show 32-n=31-n+1 by omega,List.replicate_succ,List.set_cons_zero,List.take_add_one,h,List.append_assoc,show 31-n=32-(n+1) by omega];rfl
theorem Az {l:List Int} {m:Nat} {x:Int}:(l++List.replicate (m+1) 0).set l.length x=(l++[x])++List.replicate m 0:=by
 rw[List.replicate_succ,List.set_append_right _ _ (Nat.le_refl _),Nat.sub_self];simp
theorem Om {b:List UInt8} {k:Nat} (h:k<16):(uC ((sH b).take k++List.replicate (64-k) 0)).setIfInBounds k (.int .u32 (Oc (bD b (4*k)) (bD b (4*k+1)) (bD b (4*k+2)) (bD b (4*k+3))))=uC ((sH b).take (k+1)++List.replicate (64-(k+1)) 0):=by
 have h1:((sH b).take k).length=k:=by rw[List.length_take,jw];omega
 have h2:=Az (l:=(sH b).take k) (m:=63-k) (x:=Oc (bD b (4*k)) (bD b (4*k+1)) (bD b (4*k+2)) (bD b (4*k+3)));rw [h1]at h2;rw [CP,show 64-k=63-k+1 by omega,h2,List.take_add_one,EC h,show 63-k=64-(k+1) by omega];rfl
structure Dl where
 (r d t n:Int)
structure Hn where
 (c l:Int)
 s:List UInt8
def cont (d:Dl) (i c l:Int) (before:List UInt8):List UInt8:=[7,d.r,d.d,d.t,d.n,i,c,l].flatMap dV++before
def sg (key:List UInt8) (s:List UInt8):List UInt8:=node key (leaf s)
theorem CX (k s:List UInt8):(sg k s).length=32:=xU _
end Go.Proofs.YtohgjenaclfegaaGreatDoor.Sh
namespace Go.Proofs.YtohgjenaclfegaaGreatDoor
open Go.RowKit
theorem bY (W:World) (o:Obj):Below W.heap.size W (W.alloc o):=(Below.refl W.heap.size W).alloc (Nat.le_refl _) o
theorem At.aU {α:Type} {size:Nat} {f:α->List Value} {w w':World} {A:Option Addr} {p:List α} (h:At size f w w.heap.size A p) (hb:Below w.heap.size w w'):At size f w' w'.heap.size A p:=(h.below hb).more hb.size
theorem At.run {α:Type} {size:Nat} {f:α->List Value} {w:World} {B:Nat} {A:Option Addr} {p:List α} (h:At size f w B A p) (hB:B<=w.heap.size) {i:Nat} (hi:i<p.length) :
 ∃b off,A=some ⟨b,off,none⟩/\b<w.heap.size/\∀w',Below w.heap.size w w'->∀j u,(f p[i])[j]? = some u->w'.cell? ⟨b,off+i*size+j,none⟩=some u:=by
 obtain⟨b,off,e,hb,hc⟩:=h (by omega);exact ⟨b,off,e,by omega,fun w' hw j u hj=>(hw.cell (p:=⟨b,off+i*size+j,none⟩) (by show b< _;omega)).trans (hc i p[i] (List.getElem?_eq_getElem hi) j u hj)⟩
def C_:List Nat:=[2,6,7,11,13,17,18,19,22,25]
theorem Zf:bits .and .u64 (IntKind.u64.wrap (-2)) 31=30:=by decide +kernel
theorem Ze:bits .and .u64 (IntKind.u64.wrap (-6)) 31=26:=by decide +kernel
theorem Zd:bits .and .u64 (IntKind.u64.wrap (-7)) 31=25:=by decide +kernel
theorem VB:bits .and .u64 (IntKind.u64.wrap (-11)) 31=21:=by decide +kernel
theorem VA:bits .and .u64 (IntKind.u64.wrap (-13)) 31=19:=by decide +kernel
theorem Vz:bits .and .u64 (IntKind.u64.wrap (-17)) 31=15:=by decide +kernel
theorem Vy:bits .and .u64 (IntKind.u64.wrap (-18)) 31=14:=by decide +kernel
theorem Vx:bits .and .u64 (IntKind.u64.wrap (-19)) 31=13:=by decide +kernel
theorem Vw:bits .and .u64 (IntKind.u64.wrap (-22)) 31=10:=by decide +kernel
theorem Vu:bits .and .u64 (IntKind.u64.wrap (-25)) 31=7:=by decide +kernel
attribute [local go_sem] Zf Ze Zd VB VA Vz Vy Vx Vw Vu
theorem zF (x:Int) (n:Nat) (w:World) (hn:n∈C_) :
 Calls Tryz.prog 298 #[.int .u32 x,.int .i64 n] w fun e w'=>e=.returned (.int .u32 (Sh.nS x n))/\∃m,w'=w.drewN m:=by
 simp only[C_,List.mem_cons,List.not_mem_nil,or_false]at hn
 rcases hn with rfl|rfl|rfl|rfl|rfl|rfl|rfl|rfl|rfl|rfl
 all_goals
  simp only[Int.cast_ofNat_Int]
  go_enter Tryz.func298,Tryz.ntmps298
  go_wp2
  go_quiet (fail)
  go_wp2;go_ret;exact ⟨gJ ((Sh.Gu _ _).trans rfl),_,rfl⟩
theorem zG (x:Int) (n:Nat) (w:World) (hn:n∈C_) :
 Calls Tryz.prog 300 #[.int .u32 x,.int .i64 (-(n:Int))] w fun e w'=>e=.returned (.int .u32 (Sh.nS x n))/\w=w':=by
 simp only[C_,List.mem_cons,List.not_mem_nil,or_false]at hn
 rcases hn with rfl|rfl|rfl|rfl|rfl|rfl|rfl|rfl|rfl|rfl
 all_goals
  simp only[Int.cast_ofNat_Int]
  go_enter Tryz.func300,Tryz.ntmps300
  go_wp2;go_ret;exact ⟨gJ rfl,rfl⟩
theorem aO {p:Prop} (h:p:=by first|exact⟨RS.KZ.rf _ _ _ _ _,rfl⟩|rfl|exact⟨RS.KZ.rf _ _ _ _ _,by simp[RS.ak]⟩|exact RS.KZ.rf _ _ _ _ _|(refine ⟨RS.KZ.rf _ _ _ _ _,?_⟩;simp only[RS.ak,Value.int.injEq,true_and];omega)|(simp [RS.ak])):p:=h
def Zm (n:Nat):List Value:=[.int .i64 n]
theorem mW (x:Int) (l:List Nat) (A:Option Addr) (cap:Nat) (w:World) (hA:At 1 Zm w w.heap.size A l) (hn:l.length<=cap) (hl:l.length<=100) (hr:∀n∈l,n∈C_) :
 Calls Tryz.prog 277 #[.int .u32 x,.slice A l.length cap] w fun e w'=>e=.returned (.int .u32 (Sh.mixed x l))/\w=w':=by
 have hz:Sh.mixed x (l.take 0)=0:=rfl
 go_enter Tryz.func277,Tryz.ntmps277
 go_wp2
 go_loopw [5,7,10] (fun s5 s7 s10 wr=>∃(k:Nat) (o:Int),k<=l.length/\s10=.int .i64 k/\s5=.int .u32 o/\Kp (o=Sh.mixed x (l.take k))/\wr=w) (fun s5 s7 s10 _=>l.length-(intOf s10).toNat)
 case atStart=>exact⟨0,0,Nat.zero_le _,rfl,rfl,⟨hz.symm⟩,rfl⟩
 case round =>
  obtain⟨k,o,hk,rfl,rfl,ho,rfl⟩:=hrel;by_cases hlt:k<l.length
  · obtain⟨p,off,rfl,hbB,hcell⟩:=hA.run (Nat.le_refl _) hlt;have c0:=hcell _ (aP _) 0 _ rfl;simp only[Nat.add_zero,Nat.mul_one]at c0;have hC:=zG x l[k] wr (hr _ (List.getElem_mem hlt))
    have hnx:Kp (Sh.x32 o (Sh.nS x l[k])=Sh.mixed x (l.take (k+1))):=⟨by
     rw[ho.out,List.take_succ_eq_append_getElem hlt]
     simp only[Sh.mixed,List.foldl_append,List.foldl_cons,List.foldl_nil]⟩
    have hy:l[k]<=25:=by
     have:=hr _ (List.getElem_mem hlt);simp only[C_,List.mem_cons,List.not_mem_nil,or_false]at this;omega
    clear hcell hA ho hr;generalize l[k]=y at *;go_wp2_with fail;refine hC.mono ?_;rintro _ w1 ⟨rfl,rfl⟩;clear hC c0;go_wp2;exact ⟨⟨k+1,_,by omega,by go_num,rfl,hnx,trivial⟩,by simp[intOf];omega⟩
  · have hfin:Kp (o=Sh.mixed x l):=⟨by rw[ho.out,List.take_of_length_le (by omega)]⟩
    clear ho hr hA;go_wp2;go_ret;exact ⟨gJ hfin.out,rfl⟩
theorem sW {W:World} {g:Nat} {t:TypeId} {old:Array Value} (hB:Bx W g t old) (cs:Array Value):Bx (W.setRow g cs) g t cs:=by
 unfold Bx at *
 show (W.heap.modify g _)[g]? = _
 rw[Array.getElem?_modify,if_pos rfl,hB];rfl
theorem jF {W:World} {g:Nat} (cs:Array Value) {k:Nat} (h:k≠g):(W.setRow g cs).heap[k]? = W.heap[k]? := by
 show (W.heap.modify g _)[k]? = _
 rw[Array.getElem?_modify,if_neg (fun e=>h e.symm)]
theorem nK {B g:Nat} (W:World) (cs:Array Value) (h:B<=g):Below B W (W.setRow g cs) :=
 ⟨rfl,rfl,rfl,by show W.heap.size<=(W.heap.modify g _).size;simp,fun k hk=>jF cs (by omega)⟩
theorem xO (l:List Int):(Sh.uC l).all (·.oneCell')=true:=by
 rw[Array.all_eq_true_iff_forall_mem];intro v hv;simp only[Sh.uC,List.mem_toArray,List.mem_map]at hv;obtain ⟨k,-,rfl⟩:=hv;rfl
theorem ng:Tryz.prog.underlying 361=some (.array 64 310):=by kernel_rfl
theorem uS:(Tryz.prog.info? 361).map (·.size)=some 64:=by kernel_rfl
theorem RS.FH {w:World} {g:Nat} {t:TypeId} {l:List Nat} (h:Bx w g t (l.map fun n:Nat=>Value.int .i64 (n:Int)).toArray):At 1 Zm w w.heap.size (some ⟨g,0,none⟩) l:=fun _ =>
 ⟨g,0,rfl,h.lt,fun i c hi j u hj=>by
  match j,hj with
  | 0,hj =>
   simp only[Zm,List.getElem?_cons_zero,Option.some.injEq]at hj;subst hj;have:=h.cell i (v:=.int .i64 c) (by simp[hi])
   rwa [Nat.zero_add,Nat.mul_one,Nat.add_zero]⟩
def Ob (b:UInt8):List Value:=[.int .u8 b.toNat]
theorem At.Oc {b:List UInt8} {A:Option Addr} {B:Nat} {w:World} (h:At 1 Ob w B A b) (hB:B<=w.heap.size) (h0:0<b.length) :
 ∃p off,A=some ⟨p,off,none⟩/\p<w.heap.size/\∀w' i,Below w.heap.size w w'->i<b.length->w'.cell? ⟨p,off+i,none⟩=some (.int .u8 (Sh.bD b i)):=by
 obtain⟨p,off,rfl,hp,hc⟩:=h.run hB h0;refine ⟨p,off,rfl,hp,fun w' i hw hi=>?_⟩;obtain ⟨p2,off2,e,-,hc2⟩:=h.run hB hi;simp only[Option.some.injEq,Addr.mk.injEq,and_true]at e;obtain ⟨rfl,rfl⟩:=e;have:=hc2 w' hw 0 _ rfl;simp only[Nat.add_zero,Nat.mul_one]at this;rw [this,Sh.bD,List.getD_eq_getElem?_getD,List.getElem?_eq_getElem hi];rfl
theorem xW (b:List UInt8) (A:Option Addr) (cap:Nat) (w:World) (hA:At 1 Ob w w.heap.size A b) (hn:64<=cap) (hl:b.length=64) :
 bP 276 #[.slice A 64 cap] w (.agg (Sh.uC (Sh.F8 b))):=by
 obtain⟨p,off,rfl,hp,hby⟩:=hA.Oc (Nat.le_refl _) (by omega);obtain ⟨W0,hW0⟩:∃W0,W0=w.alloc (.cells (Sh.uC (List.replicate 64 0)) 361):=⟨_,rfl⟩
 have hB0:Bx W0 w.heap.size 361 (Sh.uC ((Sh.sH b).take 0++List.replicate 64 0)):=by rw[hW0];exact Bx.mk w _ _
 have hb0:Below w.heap.size w W0:=by rw[hW0];exact bY w _
 simp only[Sh.uC,List.replicate,List.map_cons,List.map_nil]at hW0
 go_enter Tryz.func276,Tryz.ntmps276
 go_wp2;rw [←hW0];clear hW0
 go_loopw [7] (fun s7 wr=>∃k:Nat,k<=16/\s7=.int .i64 k/\Bx wr w.heap.size 361 (Sh.uC ((Sh.sH b).take k++List.replicate (64-k) 0))/\Below w.heap.size w wr) (fun s7 _=>16-(intOf s7).toNat)
 case atStart=>exact⟨0,by omega,rfl,hB0,hb0⟩
 case round =>
  clear hB0 hb0;obtain ⟨k,hk,rfl,hB,hb⟩:=hrel;by_cases hlt:k<16
  · have c0:=fun d os=>hby (Sort.grow (redrawn wr d) os) (4*k) (fM hb d os) (by omega)
    have c1:=fun d os=>hby (Sort.grow (redrawn wr d) os) (4*k+1) (fM hb d os) (by omega)
    have c2:=fun d os=>hby (Sort.grow (redrawn wr d) os) (4*k+2) (fM hb d os) (by omega)
    have c3:=fun d os=>hby (Sort.grow (redrawn wr d) os) (4*k+3) (fM hb d os) (by omega)
    go_wp2_with fail;refine bQ 35 (by kernel_rfl) (by kernel_rfl) ?_;simp only[List.take,List.drop]
    repeat (go_big_quiet_step (fail))
    refine wpQuiet_nil ?_;rintro _ ⟨q,rfl⟩;replace hb:=fM hb q.d q.os;replace hB:=hB.again q.d q.os;clear c0 c1 c2 c3;generalize Sort.grow (redrawn wr q.d) q.os=w2 at *;obtain ⟨x,hx⟩:∃x,Kp (x=Sh.Oc (Sh.bD b (4*k)) (Sh.bD b (4*k+1)) (Sh.bD b (4*k+2)) (Sh.bD b (4*k+3))):=⟨_,⟨rfl⟩⟩
    have hx':=hx.out.symm;simp only[Sh.Oc,Sh.W]at hx';rw [hx'];clear hx';have f0:=hB.frozen k;have q0:w2.cell? ⟨w.heap.size,k,none⟩=some (.int .u32 0):=hB.cell k (Sh.jE (by rw[List.getElem?_append_right (by rw[List.length_take,Sh.jw];omega),List.length_take,Sh.jw,List.getElem?_replicate,if_pos (by omega)]));have hB2:=hB.set k (.int .u32 x);rw [hx.out,Sh.Om hlt,←hx.out]at hB2;have hb2:=aQ hb (p:=⟨w.heap.size,k,none⟩) (Nat.le_refl _) (.int .u32 x);clear hB hx;go_wp2;exact ⟨⟨k+1,by omega,by go_num,hB2,hb2⟩,by simp[intOf];omega⟩
  · obtain rfl:k=16:=by omega
    rw[List.take_of_length_le (Nat.le_of_eq (Sh.jw b))]at hB;have hext:Kp (Sh.ext (48-0) (Sh.sH b)=Sh.F8 b):=⟨rfl⟩
    have hB':Bx wr w.heap.size 361 (Sh.uC (Sh.sH b++List.replicate (48-0) 0)):=hB;have hwl:(Sh.sH b).length=0+16:=Sh.jw b;clear hB;generalize Sh.sH b=l0 at *;go_wp2_with fail
    go_loopw [4] (fun s4 wr=>∃(m:Nat) (l:List Int),m<=48/\s4=.int .i64 ((m+16:Nat):Int)/\l.length=m+16/\Kp (Sh.ext (48-m) l=Sh.F8 b)/\Bx wr w.heap.size 361 (Sh.uC (l++List.replicate (48-m) 0))/\Below w.heap.size w wr) (fun s4 _=>64-(intOf s4).toNat)
    case atStart=>exact⟨0,l0,by omega,rfl,hwl,hext,hB',hb⟩
    case round =>
     clear hext hB' hb hwl;obtain ⟨m,l,hm,rfl,hll,hext,hB,hb⟩:=hrel;by_cases hlt:m<48
     · have hg:∀j (h:j<l.length),(Sh.uC (l++List.replicate (48-m) 0))[j]? = some (.int .u32 l[j]):=fun j h=>Sh.jE (by rw[List.getElem?_append_left h,List.getElem?_eq_getElem h])
       have c15:=fun d os=>(hB.again d os).cell (m+1) (hg _ (by omega))
       have c2:=fun d os=>(hB.again d os).cell (m+14) (hg _ (by omega))
       go_wp2_with fail;refine wp_region_quiet_below (by kernel_rfl) (by kernel_rfl) ?_
       repeat (go_big_quiet_step (fail))
       refine wpQuiet_nil ?_;rintro _ ⟨q,rfl⟩;replace hb:=fM hb q.d q.os;replace hB:=hB.again q.d q.os;clear c15 c2;generalize Sort.grow (redrawn wr q.d) q.os=w1 at *;obtain ⟨x,hx⟩:∃x,Kp (x=Sh.U5 l):=⟨_,⟨rfl⟩⟩
       obtain⟨cc,hcc⟩:∃cc,Kp (cc=Sh.uC ((l++[x])++List.replicate (48-(m+1)) 0)):=⟨_,⟨rfl⟩⟩
       obtain⟨zz,hzz⟩:∃zz,Kp (zz=Sh.uC (l++List.replicate (48-m) 0)):=⟨_,⟨rfl⟩⟩
       have hzc:Sh.uC (l++List.replicate (48-m) 0)=zz:=hzz.out.symm
       have hg2:∀j (h:j<l.length),cc[j]? = some (.int .u32 l[j]):=fun j h=>by
        rw[hcc.out];exact Sh.jE (by rw[List.append_assoc,List.getElem?_append_left h,List.getElem?_eq_getElem h])
       have hset:zz.setIfInBounds (m+16) (.int .u32 x)=cc:=by
        rw[hzz.out,hcc.out,Sh.CP,←hll,show 48-m=48-(m+1)+1 by omega,Sh.Az]
       have QY:cc.setIfInBounds (m+16) (.int .u32 x)=cc:=by rw[←hset,Array.setIfInBounds_setIfInBounds]
       have hz0:zz[m+16]? = some (.int .u32 0):=by
        rw[hzz.out];exact Sh.jE (by rw[List.getElem?_append_right (by omega),List.getElem?_replicate,if_pos (by omega)])
       have hc0:cc[m+16]? = some (.int .u32 x):=by
        rw[hcc.out];exact Sh.jE (by rw[List.append_assoc,List.getElem?_append_right (by omega),hll,Nat.sub_self];rfl)
       rw[hzc]at hB hg;have VT:=hg m (by omega);have hz7:=hg (m+9) (by omega);have hc16:=hg2 m (by omega);have II:=hg2 (m+9) (by omega)
       have hxe:Kp (((((l[m]+bits .xor .u32 (Sh.mixed l[m+1] [7,18]) (l[m+1] / 8)) % 4294967296+l[m+9]) % 4294967296)+bits .xor .u32 (Sh.mixed l[m+14] [17,19]) (l[m+14] / 1024)) % 4294967296=x):=⟨by
        rw[hx.out,Sh.EM,Sh.EM,Sh.JY hll (by omega)];rfl⟩
       have LJ:Kp (Sh.ext (48-(m+1)) (l++[x])=Sh.F8 b):=⟨by
        rw[hx.out,←hext.out,show 48-m=48-(m+1)+1 by omega];rfl⟩
       have hl':(l++[x]).length=m+1+16:=by simp only[List.length_append,List.length_singleton];omega
       clear hg hg2 hext hx hzz hzc;have hgen:∀(i:Nat) (h:i<l.length),∃y,Kp (l[i]=y):=fun i h=>⟨_,⟨rfl⟩⟩
       generalize l[m]=a16 at *;generalize l[m+1]=yU at *;generalize l[m+9]=a7 at *;generalize l[m+14]=a2 at *;clear hgen;go_wp2_with fail;refine RS.au (RS.dX (w.heap.size) 361 zz cc) [] [RS.ak (.int .i64 (((m+16:Nat):Int))),RS.ak (.int .i64 (((m+16:Nat):Int))),RS.ak (.int .i64 m),RS.ak (.pointer (some ⟨w.heap.size,m,none⟩)),RS.ak (.int .u32 a16),RS.ak (.int .u32 yU),RS.Bz (w.heap.size) 3 2 #[.int .i64 7,.int .i64 18],RS.ak (.int .u32 (Sh.mixed yU [7,18])),RS.ak (.int .u32 yU),RS.ak (.int .u32 (yU / 8)),RS.ak (.int .u32 (bits .xor .u32 (Sh.mixed yU [7,18]) (yU / 8))),RS.ak (.int .u32 ((a16+bits .xor .u32 (Sh.mixed yU [7,18]) (yU / 8)) % 4294967296)),RS.ak (.int .i64 (((m+16:Nat):Int))),RS.ak (.int .i64 ((m:Int)+9)),RS.ak (.pointer (some ⟨w.heap.size,m+9,none⟩)),RS.ak (.int .u32 a7),RS.ak (.int .u32 (((a16+bits .xor .u32 (Sh.mixed yU [7,18]) (yU / 8)) % 4294967296+a7) % 4294967296)),RS.ak (.int .u32 a2),RS.Bz (w.heap.size) 3 2 #[.int .i64 17,.int .i64 19],RS.ak (.int .u32 (Sh.mixed a2 [17,19])),RS.ak (.int .u32 a2),RS.ak (.int .u32 (a2 / 1024)),RS.ak (.int .u32 (bits .xor .u32 (Sh.mixed a2 [17,19]) (a2 / 1024))),RS.ak (.int .u32 x),RS.ak (.pointer (some ⟨w.heap.size,m+16,none⟩)),RS.BoZ (w.heap.size) 361 cc] 26 84 (by kernel_rfl) rfl rfl (by kernel_rfl) (by kernel_rfl) ?_ ?_ ?_
       · simp only[RS.aY]
         and_intros <;> first|exact RS.aI _|exact RS.d_ (by first|(left;decide)|(right;decide)|(right;simp))|exact RS.zA|trivial
       · simp only[RS.aT,List.take,List.length];refine ⟨?_,?_,?_,?_,?_,?_,?_,?_,?_,?_,?_,?_,?_,?_,?_,?_,?_,?_,?_,?_,?_,?_,?_,?_,?_,?_,trivial⟩;all_goals (intro vs w2 hb2 hd;simp only[RS.aN,Act.put,List.nil_append,List.cons_append,List.setIfInBounds_toArray,List.set_cons_succ,List.set_cons_zero,Nat.reduceAdd])
         · clear hd;go_wp2;exact aO
         · clear hd;go_wp2;exact aO
         · have e0:vs 1=_:=hd 1 rfl;clear hd;rw [e0];go_wp2;exact aO
         · have e0:vs 2=_:=hd 2 rfl;clear hd;rw [e0];go_wp2;exact aO
         · have e0:vs 3=_:=hd 3 rfl
           rcases hb2.own _ _ (Nat.le_refl _) hB with hBg|⟨-,hBg⟩
           · have q0:=hBg.cell (m) VT;clear hBg hd;rw [e0];go_wp2;exact aO
           · have q0:=hBg.cell (m) hc16;clear hBg hd;rw [e0];go_wp2;exact aO
         · clear hd;go_wp2;exact aO
         · have hK:=hb2.slice (Nat.le_of_lt hB.lt) 3 2 #[.int .i64 7,.int .i64 18] undef;clear hd hb2;go_wp2;first|exact hK|exact hK.2|exact⟨hK.1,hK.2⟩
         · have e0:vs 5=_:=hd 5 rfl;obtain⟨gs6,es6,hgs6,hBs6⟩:=hd 6 rfl;change vs 6=_ at es6;have hC:=bG (mW yU [7,18] (some ⟨gs6,0,none⟩) 2 w2 (RS.FH hBs6) (Nat.le_refl _) (by decide) (by decide));clear hd;rw [e0,es6];go_wp2_with fail;refine hC.mono ?_;rintro _ w9 ⟨rfl,aX⟩;clear hC;have hK9:=hb2.call (Nat.le_of_lt hB.lt) aX;go_wp2;first|exact⟨hK9,rfl⟩|exact hK9|rfl
         · clear hd;go_wp2;exact aO
         · have e0:vs 8=_:=hd 8 rfl;clear hd;rw [e0];go_wp2;exact aO
         · have e0:vs 7=_:=hd 7 rfl;have e1:vs 9=_:=hd 9 rfl;clear hd;rw [e0,e1];go_wp2;exact aO
         · have e0:vs 4=_:=hd 4 rfl;have e1:vs 10=_:=hd 10 rfl;clear hd;rw [e0,e1];go_wp2;exact aO
         · clear hd;go_wp2;exact aO
         · have e0:vs 12=_:=hd 12 rfl;clear hd;rw [e0];go_wp2;first|exact⟨RS.KZ.rf _ _ _ _ _,congrArg (Value.int .i64) (by omega)⟩|exact congrArg (Value.int .i64) (by omega)|exact⟨RS.KZ.rf _ _ _ _ _,rfl⟩|rfl|exact⟨RS.KZ.rf _ _ _ _ _,by simp[RS.ak]⟩|exact RS.KZ.rf _ _ _ _ _|(refine ⟨RS.KZ.rf _ _ _ _ _,?_⟩;simp only[RS.ak,Value.int.injEq,true_and];omega)|(simp [RS.ak])
         · have e0:vs 13=_:=hd 13 rfl;clear hd;rw [e0];go_wp2;exact aO
         · have e0:vs 14=_:=hd 14 rfl
           rcases hb2.own _ _ (Nat.le_refl _) hB with hBg|⟨-,hBg⟩
           · have q0:=hBg.cell (m+9) hz7;clear hBg hd;rw [e0];go_wp2;exact aO
           · have q0:=hBg.cell (m+9) II;clear hBg hd;rw [e0];go_wp2;exact aO
         · have e0:vs 11=_:=hd 11 rfl;have e1:vs 15=_:=hd 15 rfl;clear hd;rw [e0,e1];go_wp2;exact aO
         · clear hd;go_wp2;exact aO
         · have hK:=hb2.slice (Nat.le_of_lt hB.lt) 3 2 #[.int .i64 17,.int .i64 19] undef;clear hd hb2;go_wp2;first|exact hK|exact hK.2|exact⟨hK.1,hK.2⟩
         · have e0:vs 17=_:=hd 17 rfl;obtain⟨gs18,XK,hgs18,XB⟩:=hd 18 rfl;change vs 18=_ at XK;have hC:=bG (mW a2 [17,19] (some ⟨gs18,0,none⟩) 2 w2 (RS.FH XB) (Nat.le_refl _) (by decide) (by decide));clear hd;rw [e0,XK];go_wp2_with fail;refine hC.mono ?_;rintro _ w9 ⟨rfl,aX⟩;clear hC;have hK9:=hb2.call (Nat.le_of_lt hB.lt) aX;go_wp2;first|exact⟨hK9,rfl⟩|exact hK9|rfl
         · clear hd;go_wp2;exact aO
         · have e0:vs 20=_:=hd 20 rfl;clear hd;rw [e0];go_wp2;exact aO
         · have e0:vs 19=_:=hd 19 rfl;have e1:vs 21=_:=hd 21 rfl;clear hd;rw [e0,e1];go_wp2;exact aO
         · have e0:vs 16=_:=hd 16 rfl;have e1:vs 22=_:=hd 22 rfl;clear hd;rw [e0,e1];go_wp2;first|exact⟨RS.KZ.rf _ _ _ _ _,congrArg (Value.int .u32) (by have h9:=hxe.out;omega)⟩|exact congrArg (Value.int .u32) (by have h9:=hxe.out;omega)|exact⟨RS.KZ.rf _ _ _ _ _,rfl⟩|rfl|exact⟨RS.KZ.rf _ _ _ _ _,by simp[RS.ak]⟩|exact RS.KZ.rf _ _ _ _ _|(refine ⟨RS.KZ.rf _ _ _ _ _,?_⟩;simp only[RS.ak,Value.int.injEq,true_and];omega)|(simp [RS.ak])
         · have e0:vs 0=_:=hd 0 rfl;clear hd;rw [e0];go_wp2;exact aO
         · have e0:vs 23=_:=hd 23 rfl;have e1:vs 24=_:=hd 24 rfl
           rcases hb2.own _ _ (Nat.le_refl _) hB with hBg|⟨-,hBg⟩
           · have hN:Bx (w2.setCell ⟨w.heap.size,m+16,none⟩ (.int .u32 x)) (w.heap.size) 361 cc:=by have h9:=hBg.set (m+16) (.int .u32 x);rw[hset]at h9;exact h9
             have hK:RS.KZ (w.heap.size) 361 zz cc w2 (w2.setCell ⟨w.heap.size,m+16,none⟩ (.int .u32 x)):=RS.KZ.put (Nat.le_refl _) (.inl hBg) (Below.setCell (Below.refl (w.heap.size) w2) (p:=⟨w.heap.size,m+16,none⟩) (Nat.le_refl _) (.int .u32 x)).size (Below.setCell (Below.refl (w.heap.size) w2) (p:=⟨w.heap.size,m+16,none⟩) (Nat.le_refl _) (.int .u32 x)) (fun b e=>Below.heap_setCell _ ⟨w.heap.size,m+16,none⟩ _ b e) hN;have q0:=hBg.cell (m+16) hz0;have f0:=hBg.frozen (m+16);clear hd;rw [e0,e1];clear hBg hb2;go_wp2;first|exact⟨hK,hN⟩|exact hN|exact hK
           · have hN:Bx (w2.setCell ⟨w.heap.size,m+16,none⟩ (.int .u32 x)) (w.heap.size) 361 cc:=by have h9:=hBg.set (m+16) (.int .u32 x);rw[QY]at h9;exact h9
             have hK:RS.KZ (w.heap.size) 361 zz cc w2 (w2.setCell ⟨w.heap.size,m+16,none⟩ (.int .u32 x)):=RS.KZ.put (Nat.le_refl _) (.inr hBg) (Below.setCell (Below.refl (w.heap.size) w2) (p:=⟨w.heap.size,m+16,none⟩) (Nat.le_refl _) (.int .u32 x)).size (Below.setCell (Below.refl (w.heap.size) w2) (p:=⟨w.heap.size,m+16,none⟩) (Nat.le_refl _) (.int .u32 x)) (fun b e=>Below.heap_setCell _ ⟨w.heap.size,m+16,none⟩ _ b e) hN;have q0:=hBg.cell (m+16) hc0;have f0:=hBg.frozen (m+16);clear hd;rw [e0,e1];clear hBg hb2;go_wp2;first|exact⟨hK,hN⟩|exact hN|exact hK
       · intro vs wa hba hR2;simp only[RS.bV,RS.ak]at hR2;obtain ⟨e0,e1,e2,e3,e4,e5,e6,e7,e8,e9,e10,e11,e12,e13,e14,e15,e16,e17,e18,e19,e20,e21,e22,e23,e24,e25,-⟩:=hR2;obtain ⟨gL6,XL,Z9,BL6⟩:=e6;obtain ⟨gL18,Rw,WY,BL18⟩:=e18;simp only[List.drop,List.take,List.map,RS.aN,Act.put,List.setIfInBounds_toArray,List.set_cons_succ,List.set_cons_zero,Nat.reduceAdd];rw [e0,e1,e2,e3,e4,e5,XL,e7,e8,e9,e10,e11,e12,e13,e14,e15,e16,e17,Rw,e19,e20,e21,e22,e23,e24];clear e0 e1 e2 e3 e4 e5 e7 e8 e9 e10 e11 e12 e13 e14 e15 e16 e17 e19 e20 e21 e22 e23 e24 XL BL6 Z9 Rw BL18 WY;have BN:=e25;clear e25;change Bx _ _ _ _ at BN;replace hb:=hb.trans hba.bl;rw [hcc.out]at BN;clear hba hB hset QY hz0 hc0 VT hz7 hc16 II hxe;go_wp2;exact ⟨⟨m+1,l++[x],by omega,by go_num,hl',LJ,BN,hb⟩,by simp[intOf];omega⟩
     · obtain rfl:m=48:=by omega
       have e:Sh.F8 b=l:=hext.out.symm;rw [Nat.sub_self,List.replicate_zero,List.append_nil]at hB;have hK:=Kp.mk e;have hsz:(Sh.uC l).size=64:=by rw[Sh.jY,hll]
       have hi:(Tryz.prog.info? 361).map (·.size)=some (Sh.uC l).size:=by rw[hsz];exact uS
       have hB3:=sW hB (Sh.uC l);have hb3:=hb.trans (nK wr (Sh.uC l) (Nat.le_refl w.heap.size));clear hext e hby hA
       go_wp2_with (first|(refine wpList_load_row rfl 361 _ rfl _ rfl 361 (Sh.uC l) (0,0) _ hB ng rfl hi ?_)|(refine wpList_store_row rfl 361 _ _ rfl _ (Sh.uC l) rfl rfl 361 (Sh.uC l) hB hi rfl (xO l) ?_))
       exact bodyPost_ret (results_cell_row rfl _ _ _ 361 (Sh.uC l) (0,0) _ rfl hB3 ng rfl hi) rfl ⟨by rw[hK.out],hb3⟩
def Rnd (w:World):Prop:=∃t fr,w.heap[0]? = some (.cells (Sh.uC Sh.kc) t fr)
theorem Rnd.lt {w:World} (h:Rnd w):0<w.heap.size:=by
 obtain⟨t,fr,h⟩:=h;exact (Array.getElem?_eq_some_iff.1 h).1
theorem Rnd.below {w w':World} (h:Rnd w) (hb:Below w.heap.size w w'):Rnd w':=by
 have hl:=h.lt;obtain ⟨t,fr,h⟩:=h;exact ⟨t,fr,(hb.block _ hl).trans h⟩
structure Ex (g:Nat) (w w':World):Prop where
 os:w'.os=w.os
 tape:w'.tape=w.tape
 output:w'.output=w.output
 size:w.heap.size<=w'.heap.size
 block:∀b,b<w.heap.size->b≠g->w'.heap[b]? = w.heap[b]?
theorem Ex.of {g:Nat} {w w':World} (h:Below w.heap.size w w'):Ex g w w':=⟨h.os,h.tape,h.output,h.size,fun b hb _=>h.block b hb⟩
theorem Ex.set {g:Nat} {w w':World} (h:Ex g w w') (k:Nat) (v:Value):Ex g w (w'.setCell ⟨g,k,none⟩ v) :=
 ⟨h.os,h.tape,h.output,by rw[World.size_setCell];exact h.size,fun b hb hne=>(Below.heap_setCell w' ⟨g,k,none⟩ v b hne).trans (h.block b hb hne)⟩
theorem Ex.call {g:Nat} {w w' w2:World} (h:Ex g w w') (hb:Below w'.heap.size w' w2):Ex g w w2 :=
 ⟨hb.os.trans h.os,hb.tape.trans h.tape,hb.output.trans h.output,Nat.le_trans h.size hb.size,fun b hlt hne=>(hb.block b (by have:=h.size;omega)).trans (h.block b hlt hne)⟩
theorem vX {T:TypeId} {n:Nat} (hu:Tryz.prog.underlying T=some (.array n 310)) (l:List Int) (hl:l.length=n) {k:Nat} {x:Int} (h:l[k]? = some x) (W:World):(Instr.index T (.agg (Sh.uC l)) (.int .i64 k)).run Tryz.prog W=.ok (.int .u32 x) W:=by
 have hu2:Tryz.prog.underlying 310=some (.int .u32):=by kernel_rfl
 have hi:(Tryz.prog.info? 310).map (·.size)=some 1:=by kernel_rfl
 obtain⟨i,hi,hs⟩:=Option.map_eq_some_iff.1 hi
 have hagg:(isAgg 310).run Tryz.prog W=.ok false W:=by
  unfold isAgg
  rw[Sem.run_bind,run_underlying hu2 W];rfl
 have hsz:(sizeOf 310).run Tryz.prog W=.ok 1 W:=by
  simp[sizeOf,typeInfo,hi,hs,Sem.run_bind]
 have hk:k<l.length:=(List.getElem?_eq_some_iff.1 h).1;have hd:(0:Int)<=(k:Int)/\(k:Int)<(n:Int):=by omega
 have hg:=Sh.jE h;simp only[Instr.index,asIntOf,Sem.run_bind,Sem.run_pure,Result.andThen_ok,run_underlying hu W];rw [if_pos hd];simp only[Sem.run_bind,hsz,Result.andThen_ok,part,hagg,Int.toNat_natCast,Nat.mul_one,hg];rfl
theorem oz:Tryz.prog.underlying 324=some (.array 8 310):=by kernel_rfl
theorem rH:(Tryz.prog.info? 324).map (·.size)=some 8:=by kernel_rfl
theorem fJ:Tryz.prog.underlying 356=some (.slice 310):=by kernel_rfl
theorem I7:(Tryz.prog.info? 310).map (·.size)=some 1:=by kernel_rfl
theorem add_any (h:Sh.S8) (gh:Nat) (b:List UInt8) (A:Option Addr) (cap:Nat) (w:World) (hB:Bx w gh 324 (Sh.uC h.l)) (hA:At 1 Ob w w.heap.size A b) (hn:64<=cap) (hl:b.length=64) (hR:Rnd w) :
 Calls Tryz.prog 237 #[.pointer (some ⟨gh,0,none⟩),.slice A 64 cap] w fun e w'=>(∃v,e=.returned v)/\Bx w' gh 324 (Sh.uC (Sh.comp h b).l)/\Ex gh w w':=by
 have hS:=xW b A cap w hA hn hl;have hcl:=Sh.OQ b
 unfold Sh.comp
 generalize Sh.F8 b=sc at *;have hsz:(Sh.uC sc).size=64:=by rw[Sh.jY,hcl]
 have hi:(Tryz.prog.info? 361).map (·.size)=some (Sh.uC sc).size:=by rw[hsz];exact uS
 have hiK:=Kp.mk hi;have hszK:=Kp.mk hsz;have Hf:=Kp.mk hR;clear hi hsz hR
 go_enter Tryz.func237,Tryz.ntmps237
 go_wp2_with fail;refine hS.mono ?_;rintro _ w1 ⟨rfl,hb1⟩;clear hS;have hB1:=hB.call hb1;have hR1:=Kp.mk (Hf.out.below hb1);have BZ:=Bx.mk w1 361 (Sh.uC (List.replicate 64 0));obtain ⟨W1,hW1⟩:∃W1,W1=w1.alloc (.cells (Sh.uC sc) 361):=⟨_,rfl⟩
 have BW:Bx W1 w1.heap.size 361 (Sh.uC sc):=by rw[hW1];exact Bx.mk w1 _ _
 have hbW:Below w1.heap.size w1 W1:=by rw[hW1];exact bY w1 _
 have hBh:=hB1.call hbW;have hRW:Kp (Rnd W1):=⟨hR1.out.below hbW⟩
 have Yq:=Bx.mk W1 324 (Sh.uC (List.replicate 8 0));obtain ⟨W2,hW2⟩:∃W2,W2=W1.alloc (.cells (Sh.uC h.l) 324):=⟨_,rfl⟩
 have BV:Bx W2 W1.heap.size 324 (Sh.uC h.l):=by rw[hW2];exact Bx.mk W1 _ _
 have hbW2:Below W1.heap.size W1 W2:=by rw[hW2];exact bY W1 _
 have Ul:=hBh.call hbW2;have Qv:=BW.call hbW2;obtain ⟨tr,fr,hr⟩:=hRW.out.below hbW2;have hzs:(Sh.uC (List.replicate 64 0)).size=(Sh.uC sc).size:=by rw[hszK.out];rfl
 have hzK:=Kp.mk hzs;have MB:Kp ((Tryz.prog.info? 324).map (·.size)=some (Sh.uC h.l).size):=⟨by rw[Sh.jY];exact rH⟩
 have XF:Kp ((Tryz.prog.info? 361).map (·.size)=some (Sh.uC Sh.kc).size):=⟨by rw[Sh.jY];exact uS⟩
 have h8o:Kp ((Sh.uC h.l).all (·.oneCell')=true):=⟨xO _⟩
 generalize YI:Sh.uC h.l=x8 at *;generalize hkk:Sh.uC Sh.kc=kk at *;have Xr:=Kp.mk hW1;have LX:=Kp.mk hW2;have VU:=Kp.mk YI;have ZX:=Kp.mk hkk;clear hzs hB hW1 hW2 YI hkk
 go_wp2_with (first
  | (refine wpList_store_row rfl 361 _ _ rfl w1.heap.size (Sh.uC sc) rfl rfl 361 (Sh.uC (List.replicate 64 0)) BZ hiK.out hzK.out (xO sc) ?_;rw[World.setRow_alloc_new,←Xr.out])
  | (refine wpList_load_row rfl 324 _ rfl gh rfl 324 x8 (0,0) _ hBh oz rfl MB.out ?_)
  | (refine wpList_store_row rfl 324 _ _ rfl W1.heap.size x8 rfl rfl 324 (Sh.uC (List.replicate 8 0)) Yq MB.out (by rw[←VU.out];rfl) h8o.out ?_;rw[World.setRow_alloc_new,←LX.out])
  | (refine wpList_load_row rfl 361 _ rfl 0 rfl tr kk fr _ hr ng rfl XF.out ?_))
 have hs0:Kp (Sh.rs ((Sh.kc.zip sc).drop 0) h=Sh.rs (Sh.kc.zip sc) h):=⟨rfl⟩
 have hb2:Below w.heap.size w W2:=(hb1.trans (hbW.mono hb1.size)).trans (hbW2.mono (Nat.le_trans hb1.size hbW.size));have hzl:(Sh.kc.zip sc).length=64:=by rw[List.length_zip,hcl,Sh.uf];rfl
 have hwz:w.heap.size<=w1.heap.size:=hb1.size;have hWz:w1.heap.size<W1.heap.size:=BW.lt;have hgW:gh<w1.heap.size:=hB1.lt;rw [←VU.out]at BV Ul;clear BZ Yq hbW hbW2 hBh BW hRW hr hzK MB XF Xr LX hb1 hB1 hR1 Hf hA
 go_loopw [19] (fun Y_ wr=>∃(k:Nat) (s:Sh.S8),k<=64/\Y_=.int .i64 k/\Kp (Sh.rs ((Sh.kc.zip sc).drop k) s=Sh.rs (Sh.kc.zip sc) h)/\Bx wr W1.heap.size 324 (Sh.uC s.l)/\Bx wr w1.heap.size 361 (Sh.uC sc)/\Bx wr gh 324 (Sh.uC h.l)/\Below w.heap.size w wr) (fun Y_ _=>64-(intOf Y_).toNat)
 case atStart=>exact⟨0,h,by omega,rfl,hs0,BV,Qv,Ul,hb2⟩
 case round =>
  clear hs0 BV Qv Ul hb2;obtain ⟨k,s,hk,rfl,hs,BV,BW,BH,hb⟩:=hrel;by_cases hlt:k<64
  · obtain⟨kx,hkx⟩:∃kx,Sh.kc[k]? = some kx:=⟨_,List.getElem?_eq_getElem (by rw[Sh.uf];exact hlt)⟩
    obtain⟨wx,hwx⟩:∃wx,sc[k]? = some wx:=⟨_,List.getElem?_eq_getElem (by rw[hcl];exact hlt)⟩
    have hix:=fun W=>vX ng Sh.kc Sh.uf hkx W
    rw[ZX.out]at hix
    have hnx:Kp (Sh.rs ((Sh.kc.zip sc).drop (k+1)) (Sh.U3 s kx wx)=Sh.rs (Sh.kc.zip sc) h):=⟨by
     have e:(Sh.kc.zip sc)[k]? = some (kx,wx):=by rw[List.getElem?_zip_eq_some];exact⟨hkx,hwx⟩
     have hk2:k<(Sh.kc.zip sc).length:=by omega
     rw[←hs.out,List.drop_eq_getElem_cons hk2];rw [List.getElem?_eq_getElem hk2]at e;rw [Option.some.inj e]
     rfl⟩
    obtain⟨a,bb,c,d,e,f,g,hh⟩:=s;obtain ⟨x1,hx1⟩:∃x1,Kp (Sh.t1 ⟨a,bb,c,d,e,f,g,hh⟩ kx wx=x1):=⟨_,⟨rfl⟩⟩
    obtain⟨x2,hx2⟩:∃x2,Kp (Sh.t2 ⟨a,bb,c,d,e,f,g,hh⟩=x2):=⟨_,⟨rfl⟩⟩
    have hrn:Kp (Sh.U3 ⟨a,bb,c,d,e,f,g,hh⟩ kx wx=⟨(x1+x2) % 4294967296,a,bb,c,(d+x1) % 4294967296,e,f,g⟩):=⟨by rw[←hx1.out,←hx2.out];rfl⟩
    have hy1:Kp ((((((hh+Sh.mixed e [6,11,25]) % 4294967296+bits .xor .u32 (bits .and .u32 e f) (bits .and .u32 (bits .xor .u32 4294967295 e) g)) % 4294967296+kx) % 4294967296)+wx) % 4294967296=x1):=⟨by rw[←hx1.out,Sh.EL];rfl⟩
    have hy2:Kp ((Sh.mixed a [2,13,22]+bits .xor .u32 (bits .xor .u32 (bits .and .u32 a bb) (bits .and .u32 a c)) (bits .and .u32 bb c)) % 4294967296=x2):=⟨by rw[←hx2.out,Sh.EL];rfl⟩
    clear hx1 hx2 hs;change Bx wr W1.heap.size 324 #[.int .u32 a,.int .u32 bb,.int .u32 c,.int .u32 d,.int .u32 e,.int .u32 f,.int .u32 g,.int .u32 hh]at BV;have hwl:=Sh.jE hwx;have v0:=fun d os=>(BV.again d os).cell 0 (v:=.int .u32 a) rfl
    have v4:=fun d os=>(BV.again d os).cell 4 (v:=.int .u32 e) rfl
    go_wp2_with fail;refine wp_region_quiet_below (by kernel_rfl) (by kernel_rfl) ?_
    repeat (go_big_quiet_step (fail))
    refine wpQuiet_nil ?_;rintro _ ⟨q,rfl⟩;replace hb:=fM hb q.d q.os;replace BV:=BV.again q.d q.os;replace BW:=BW.again q.d q.os;replace BH:=BH.again q.d q.os;clear v0 v4 hix;generalize Sort.grow (redrawn wr q.d) q.os=w5 at *;go_wp2_with fail;refine RS.au (RS.dX (w5.heap.size) 4 #[] #[]) [] [RS.ak (.pointer (some ⟨W1.heap.size,7,none⟩)),RS.ak (.int .u32 hh),RS.ak (.int .u32 e),RS.Bz (w5.heap.size) 3 3 #[.int .i64 6,.int .i64 11,.int .i64 25],RS.ak (.int .u32 (Sh.mixed e [6,11,25])),RS.ak (.int .u32 ((hh+Sh.mixed e [6,11,25]) % 4294967296)),RS.ak (.int .u32 e),RS.ak (.pointer (some ⟨W1.heap.size,5,none⟩)),RS.ak (.int .u32 f),RS.ak (.int .u32 (bits .and .u32 e f)),RS.ak (.int .u32 e),RS.ak (.int .u32 (bits .xor .u32 4294967295 e)),RS.ak (.pointer (some ⟨W1.heap.size,6,none⟩)),RS.ak (.int .u32 g),RS.ak (.int .u32 (bits .and .u32 (bits .xor .u32 4294967295 e) g)),RS.ak (.int .u32 (bits .xor .u32 (bits .and .u32 e f) (bits .and .u32 (bits .xor .u32 4294967295 e) g))),RS.ak (.int .u32 (((hh+Sh.mixed e [6,11,25]) % 4294967296+bits .xor .u32 (bits .and .u32 e f) (bits .and .u32 (bits .xor .u32 4294967295 e) g)) % 4294967296)),RS.ak (.int .u32 kx),RS.ak (.int .u32 ((((hh+Sh.mixed e [6,11,25]) % 4294967296+bits .xor .u32 (bits .and .u32 e f) (bits .and .u32 (bits .xor .u32 4294967295 e) g)) % 4294967296+kx) % 4294967296)),RS.ak (.int .i64 k),RS.ak (.pointer (some ⟨w1.heap.size,k,none⟩)),RS.ak (.int .u32 wx),RS.ak (.int .u32 x1),RS.ak (.int .u32 x1)] 24 97 (by kernel_rfl) rfl rfl (by kernel_rfl) (by kernel_rfl) ?_ ?_ ?_
    · simp only[RS.aY]
      and_intros <;> first|exact RS.aI _|exact RS.d_ (by first|(left;decide)|(right;decide)|(right;simp))|trivial
    · simp only[RS.aT,List.take,List.length];refine ⟨?_,?_,?_,?_,?_,?_,?_,?_,?_,?_,?_,?_,?_,?_,?_,?_,?_,?_,?_,?_,?_,?_,?_,?_,trivial⟩;all_goals (intro vs w2 hb2 hd;simp only[RS.aN,Act.put,List.nil_append,List.cons_append,List.setIfInBounds_toArray,List.set_cons_succ,List.set_cons_zero,Nat.reduceAdd])
      · clear hd;go_wp2;exact aO
      · have e0:vs 0=_:=hd 0 rfl;have q0:=(BV.call hb2.bl).cell 7 (v:=.int .u32 hh) rfl;clear hd;rw [e0];go_wp2;exact aO
      · clear hd;go_wp2;exact aO
      · have hK:=hb2.slice (Nat.le_refl _) 3 3 #[.int .i64 6,.int .i64 11,.int .i64 25] undef;clear hd hb2;go_wp2;first|exact hK|exact hK.2|exact⟨hK.1,hK.2⟩
      · have e0:vs 2=_:=hd 2 rfl;obtain⟨gs3,es3,hgs3,hBs3⟩:=hd 3 rfl;change vs 3=_ at es3;have hC:=bG (mW e [6,11,25] (some ⟨gs3,0,none⟩) 3 w2 (RS.FH hBs3) (Nat.le_refl _) (by decide) (by decide));clear hd;rw [e0,es3];go_wp2_with fail;refine hC.mono ?_;rintro _ w9 ⟨rfl,aX⟩;clear hC;have hK9:=hb2.call (Nat.le_refl _) aX;go_wp2;first|exact⟨hK9,rfl⟩|exact hK9|rfl
      · have e0:vs 1=_:=hd 1 rfl;have e1:vs 4=_:=hd 4 rfl;clear hd;rw [e0,e1];go_wp2;exact aO
      · clear hd;go_wp2;exact aO
      · clear hd;go_wp2;exact aO
      · have e0:vs 7=_:=hd 7 rfl;have q0:=(BV.call hb2.bl).cell 5 (v:=.int .u32 f) rfl;clear hd;rw [e0];go_wp2;exact aO
      · have e0:vs 6=_:=hd 6 rfl;have e1:vs 8=_:=hd 8 rfl;clear hd;rw [e0,e1];go_wp2;exact aO
      · clear hd;go_wp2;exact aO
      · have e0:vs 10=_:=hd 10 rfl;clear hd;rw [e0];go_wp2;exact aO
      · clear hd;go_wp2;exact aO
      · have e0:vs 12=_:=hd 12 rfl;have q0:=(BV.call hb2.bl).cell 6 (v:=.int .u32 g) rfl;clear hd;rw [e0];go_wp2;exact aO
      · have e0:vs 11=_:=hd 11 rfl;have e1:vs 13=_:=hd 13 rfl;clear hd;rw [e0,e1];go_wp2;exact aO
      · have e0:vs 9=_:=hd 9 rfl;have e1:vs 14=_:=hd 14 rfl;clear hd;rw [e0,e1];go_wp2;exact aO
      · have e0:vs 5=_:=hd 5 rfl;have e1:vs 15=_:=hd 15 rfl;clear hd;rw [e0,e1];go_wp2;exact aO
      · clear hd;go_wp2;exact aO
      · have e0:vs 16=_:=hd 16 rfl;have e1:vs 17=_:=hd 17 rfl;clear hd;rw [e0,e1];go_wp2;exact aO
      · clear hd;go_wp2;exact aO
      · have e0:vs 19=_:=hd 19 rfl;clear hd;rw [e0];go_wp2;exact aO
      · have e0:vs 20=_:=hd 20 rfl;have q0:=(BW.call hb2.bl).cell k hwl;clear hd;rw [e0];go_wp2;exact aO
      · have e0:vs 18=_:=hd 18 rfl;have e1:vs 21=_:=hd 21 rfl;clear hd;rw [e0,e1];go_wp2;first|exact⟨RS.KZ.rf _ _ _ _ _,congrArg (Value.int .u32) (by have h9:=hy1.out;omega)⟩|exact congrArg (Value.int .u32) (by have h9:=hy1.out;omega)|exact⟨RS.KZ.rf _ _ _ _ _,rfl⟩|rfl|exact⟨RS.KZ.rf _ _ _ _ _,by simp[RS.ak]⟩|exact RS.KZ.rf _ _ _ _ _|(refine ⟨RS.KZ.rf _ _ _ _ _,?_⟩;simp only[RS.ak,Value.int.injEq,true_and];omega)|(simp [RS.ak])
      · have e0:vs 22=_:=hd 22 rfl;clear hd;rw [e0];go_wp2;exact aO
    · intro vs wa hba hR2;simp only[RS.bV,RS.ak]at hR2;obtain ⟨e0,e1,e2,e3,e4,e5,e6,e7,e8,e9,e10,e11,e12,e13,e14,e15,e16,e17,e18,e19,e20,e21,e22,e23,-⟩:=hR2;obtain ⟨gL3,XM,Z_,BL3⟩:=e3;simp only[List.drop,List.take,List.map,RS.aN,Act.put,List.setIfInBounds_toArray,List.set_cons_succ,List.set_cons_zero,Nat.reduceAdd];rw [e0,e1,e2,XM,e4,e5,e6,e7,e8,e9,e10,e11,e12,e13,e14,e15,e16,e17,e18,e19,e20,e21,e22,e23];clear e0 e1 e2 e4 e5 e6 e7 e8 e9 e10 e11 e12 e13 e14 e15 e16 e17 e18 e19 e20 e21 e22 e23 XM BL3 Z_;replace hb:=hb.trans (hba.bl.mono hb.size);replace BV:=BV.call hba.bl;replace BW:=BW.call hba.bl;replace BH:=BH.call hba.bl;clear hba;go_wp2_with fail;refine RS.au (RS.dX (wa.heap.size) 4 #[] #[]) [] [RS.ak (.int .u32 a),RS.Bz (wa.heap.size) 3 3 #[.int .i64 2,.int .i64 13,.int .i64 22],RS.ak (.int .u32 (Sh.mixed a [2,13,22])),RS.ak (.int .u32 a),RS.ak (.pointer (some ⟨W1.heap.size,1,none⟩)),RS.ak (.int .u32 bb),RS.ak (.int .u32 (bits .and .u32 a bb)),RS.ak (.int .u32 a),RS.ak (.pointer (some ⟨W1.heap.size,2,none⟩)),RS.ak (.int .u32 c),RS.ak (.int .u32 (bits .and .u32 a c)),RS.ak (.int .u32 (bits .xor .u32 (bits .and .u32 a bb) (bits .and .u32 a c))),RS.ak (.pointer (some ⟨W1.heap.size,1,none⟩)),RS.ak (.int .u32 bb),RS.ak (.pointer (some ⟨W1.heap.size,2,none⟩)),RS.ak (.int .u32 c),RS.ak (.int .u32 (bits .and .u32 bb c)),RS.ak (.int .u32 (bits .xor .u32 (bits .xor .u32 (bits .and .u32 a bb) (bits .and .u32 a c)) (bits .and .u32 bb c))),RS.ak (.int .u32 x2),RS.ak (.int .u32 x2)] 20 97 (by kernel_rfl) rfl rfl (by kernel_rfl) (by kernel_rfl) ?_ ?_ ?_
      · simp only[RS.aY]
        and_intros <;> first|exact RS.aI _|exact RS.d_ (by first|(left;decide)|(right;decide)|(right;simp))|trivial
      · simp only[RS.aT,List.take,List.length];refine ⟨?_,?_,?_,?_,?_,?_,?_,?_,?_,?_,?_,?_,?_,?_,?_,?_,?_,?_,?_,?_,trivial⟩;all_goals (intro vs w2 hb2 hd;simp only[RS.aN,Act.put,List.nil_append,List.cons_append,List.setIfInBounds_toArray,List.set_cons_succ,List.set_cons_zero,Nat.reduceAdd])
        · clear hd;go_wp2;exact aO
        · have hK:=hb2.slice (Nat.le_refl _) 3 3 #[.int .i64 2,.int .i64 13,.int .i64 22] undef;clear hd hb2;go_wp2;first|exact hK|exact hK.2|exact⟨hK.1,hK.2⟩
        · have e0:vs 0=_:=hd 0 rfl;obtain⟨gs1,es1,hgs1,hBs1⟩:=hd 1 rfl;change vs 1=_ at es1;have hC:=bG (mW a [2,13,22] (some ⟨gs1,0,none⟩) 3 w2 (RS.FH hBs1) (Nat.le_refl _) (by decide) (by decide));clear hd;rw [e0,es1];go_wp2_with fail;refine hC.mono ?_;rintro _ w9 ⟨rfl,aX⟩;clear hC;have hK9:=hb2.call (Nat.le_refl _) aX;go_wp2;first|exact⟨hK9,rfl⟩|exact hK9|rfl
        · clear hd;go_wp2;exact aO
        · clear hd;go_wp2;exact aO
        · have e0:vs 4=_:=hd 4 rfl;have q0:=(BV.call hb2.bl).cell 1 (v:=.int .u32 bb) rfl;clear hd;rw [e0];go_wp2;exact aO
        · have e0:vs 3=_:=hd 3 rfl;have e1:vs 5=_:=hd 5 rfl;clear hd;rw [e0,e1];go_wp2;exact aO
        · clear hd;go_wp2;exact aO
        · clear hd;go_wp2;exact aO
        · have e0:vs 8=_:=hd 8 rfl;have q0:=(BV.call hb2.bl).cell 2 (v:=.int .u32 c) rfl;clear hd;rw [e0];go_wp2;exact aO
        · have e0:vs 7=_:=hd 7 rfl;have e1:vs 9=_:=hd 9 rfl;clear hd;rw [e0,e1];go_wp2;exact aO
        · have e0:vs 6=_:=hd 6 rfl;have e1:vs 10=_:=hd 10 rfl;clear hd;rw [e0,e1];go_wp2;exact aO
        · clear hd;go_wp2;exact aO
        · have e0:vs 12=_:=hd 12 rfl;have q0:=(BV.call hb2.bl).cell 1 (v:=.int .u32 bb) rfl;clear hd;rw [e0];go_wp2;exact aO
        · clear hd;go_wp2;exact aO
        · have e0:vs 14=_:=hd 14 rfl;have q0:=(BV.call hb2.bl).cell 2 (v:=.int .u32 c) rfl;clear hd;rw [e0];go_wp2;exact aO
        · have e0:vs 13=_:=hd 13 rfl;have e1:vs 15=_:=hd 15 rfl;clear hd;rw [e0,e1];go_wp2;exact aO
        · have e0:vs 11=_:=hd 11 rfl;have e1:vs 16=_:=hd 16 rfl;clear hd;rw [e0,e1];go_wp2;exact aO
        · have e0:vs 2=_:=hd 2 rfl;have e1:vs 17=_:=hd 17 rfl;clear hd;rw [e0,e1];go_wp2;first|exact⟨RS.KZ.rf _ _ _ _ _,congrArg (Value.int .u32) (by have h9:=hy2.out;omega)⟩|exact congrArg (Value.int .u32) (by have h9:=hy2.out;omega)|exact⟨RS.KZ.rf _ _ _ _ _,rfl⟩|rfl|exact⟨RS.KZ.rf _ _ _ _ _,by simp[RS.ak]⟩|exact RS.KZ.rf _ _ _ _ _|(refine ⟨RS.KZ.rf _ _ _ _ _,?_⟩;simp only[RS.ak,Value.int.injEq,true_and];omega)|(simp [RS.ak])
        · have e0:vs 18=_:=hd 18 rfl;clear hd;rw [e0];go_wp2;exact aO
      · intro vs wc hba hR2;simp only[RS.bV,RS.ak]at hR2;obtain ⟨e0,e1,e2,e3,e4,e5,e6,e7,e8,e9,e10,e11,e12,e13,e14,e15,e16,e17,e18,e19,-⟩:=hR2;obtain ⟨gL1,XO,aac,BL1⟩:=e1;simp only[List.drop,List.take,List.map,RS.aN,Act.put,List.setIfInBounds_toArray,List.set_cons_succ,List.set_cons_zero,Nat.reduceAdd];rw [e0,XO,e2,e3,e4,e5,e6,e7,e8,e9,e10,e11,e12,e13,e14,e15,e16,e17,e18,e19];clear e0 e2 e3 e4 e5 e6 e7 e8 e9 e10 e11 e12 e13 e14 e15 e16 e17 e18 e19 XO BL1 aac;replace hb:=hb.trans (hba.bl.mono hb.size);replace BV:=BV.call hba.bl;replace BW:=BW.call hba.bl;replace BH:=BH.call hba.bl;clear hba;go_wp2_with fail;refine bQ 2 (by kernel_rfl) (by kernel_rfl) ?_;simp only[List.take,List.drop]
        repeat (go_big_quiet_step (fail))
        refine wpQuiet_nil ?_;rintro _ ⟨q,rfl⟩;replace hb:=fM hb q.d q.os;replace BV:=BV.again q.d q.os;replace BW:=BW.again q.d q.os;replace BH:=BH.again q.d q.os;generalize Sort.grow (redrawn _ q.d) q.os=w7 at *;have hbc:=fun cs:Array Value=>hb.trans (nK (B:=w.heap.size) w7 cs (show w.heap.size<=W1.heap.size by omega))
        have hBc:=fun cs:Array Value=>sW BV cs
        have hWc:=fun cs:Array Value=>(jF (W:=w7) (g:=W1.heap.size) cs (show w1.heap.size≠W1.heap.size by omega)).trans BW
        have hHc:=fun cs:Array Value=>(jF (W:=w7) (g:=W1.heap.size) cs (show gh≠W1.heap.size by omega)).trans BH
        refine wpList_copy_own rfl (.tmp 69) (.tmp 70) 356 356 rfl 310 fJ I7 W1.heap.size 1 7 7 ⟨W1.heap.size,0,none⟩ 7 8 rfl rfl _ 324 BV [.int .u32 a,.int .u32 bb,.int .u32 c,.int .u32 d,.int .u32 e,.int .u32 f,.int .u32 g] rfl ?_ (Nat.le_refl 8) (by intro v hv;simp only[List.mem_cons,List.not_mem_nil,or_false]at hv;rcases hv with rfl|rfl|rfl|rfl|rfl|rfl|rfl <;> rfl) ?_
        · intro j v hj
          match j,hj with
          | 0,hj=>cases hj;exact BV.cell 0 rfl
          | 1,hj=>cases hj;exact BV.cell 1 rfl
          | 2,hj=>cases hj;exact BV.cell 2 rfl
          | 3,hj=>cases hj;exact BV.cell 3 rfl
          | 4,hj=>cases hj;exact BV.cell 4 rfl
          | 5,hj=>cases hj;exact BV.cell 5 rfl
          | 6,hj=>cases hj;exact BV.cell 6 rfl
          | n+7,hj=>cases hj
        change wpList _ _ _ _ _ (w7.setRow W1.heap.size #[.int .u32 a,.int .u32 a,.int .u32 bb,.int .u32 c,.int .u32 d,.int .u32 e,.int .u32 f,.int .u32 g]);replace hb:=hbc #[.int .u32 a,.int .u32 a,.int .u32 bb,.int .u32 c,.int .u32 d,.int .u32 e,.int .u32 f,.int .u32 g];replace BV:=hBc #[.int .u32 a,.int .u32 a,.int .u32 bb,.int .u32 c,.int .u32 d,.int .u32 e,.int .u32 f,.int .u32 g];replace BW:Bx _ _ _ _:=hWc #[.int .u32 a,.int .u32 a,.int .u32 bb,.int .u32 c,.int .u32 d,.int .u32 e,.int .u32 f,.int .u32 g];replace BH:Bx _ _ _ _:=hHc #[.int .u32 a,.int .u32 a,.int .u32 bb,.int .u32 c,.int .u32 d,.int .u32 e,.int .u32 f,.int .u32 g];clear hbc hBc hWc hHc;generalize w7.setRow W1.heap.size #[.int .u32 a,.int .u32 a,.int .u32 bb,.int .u32 c,.int .u32 d,.int .u32 e,.int .u32 f,.int .u32 g]=w8 at *;have c4:=BV.cell 4 (v:=.int .u32 d) rfl;have c0:=BV.cell 0 (v:=.int .u32 a) rfl;have f4:=BV.frozen 4;have f0:=BV.frozen 0;have BV9:=(BV.set 0 (.int .u32 ((x1+x2) % 4294967296))).set 4 (.int .u32 ((d+x1) % 4294967296));have aX:=aQ (aQ hb (p:=⟨W1.heap.size,0,none⟩) (show w.heap.size<=W1.heap.size by omega) (.int .u32 ((x1+x2) % 4294967296))) (p:=⟨W1.heap.size,4,none⟩) (show w.heap.size<=W1.heap.size by omega) (.int .u32 ((d+x1) % 4294967296));have BW9:=(BW.far (p:=⟨W1.heap.size,0,none⟩) (show w1.heap.size≠W1.heap.size by omega) (.int .u32 ((x1+x2) % 4294967296))).far (p:=⟨W1.heap.size,4,none⟩) (show w1.heap.size≠W1.heap.size by omega) (.int .u32 ((d+x1) % 4294967296));have BH9:=(BH.far (p:=⟨W1.heap.size,0,none⟩) (show gh≠W1.heap.size by omega) (.int .u32 ((x1+x2) % 4294967296))).far (p:=⟨W1.heap.size,4,none⟩) (show gh≠W1.heap.size by omega) (.int .u32 ((d+x1) % 4294967296));clear hb BV BW BH hwl hy1 hy2;go_wp2;refine ⟨⟨k+1,_,by omega,by go_num,hnx,?_,BW9,BH9,aX⟩,by simp[intOf];omega⟩;rw [hrn.out];exact BV9
  · obtain rfl:k=64:=by omega
    have hfin:Kp (s=Sh.rs (Sh.kc.zip sc) h):=⟨by rw[←hs.out,List.drop_eq_nil_of_le (by omega)];rfl⟩
    clear hs;have hE:Ex gh w wr:=Ex.of hb;have BH':Bx wr gh 324 (Sh.uC ((Sh.adds h s).l.take 0++h.l.drop 0)):=BH;have hWne:gh≠W1.heap.size:=by omega
    rw[←hfin.out];go_wp2_with fail
    go_loopw [82] (fun s82 wr=>∃i:Nat,i<=8/\s82=.int .i64 i/\Bx wr gh 324 (Sh.uC ((Sh.adds h s).l.take i++h.l.drop i))/\Bx wr W1.heap.size 324 (Sh.uC s.l)/\Ex gh w wr) (fun s82 _=>8-(intOf s82).toNat)
    case atStart=>exact⟨0,by omega,rfl,BH',BV,hE⟩
    case round =>
     clear BH BH' BV hE hb BW;obtain ⟨i,uX,rfl,BH,BV,hE⟩:=hrel;by_cases hlt:i<8
     · obtain⟨x,hx⟩:∃x,h.l[i]? = some x:=⟨_,List.getElem?_eq_getElem (show i<h.l.length from hlt)⟩
       obtain⟨y,hy⟩:∃y,s.l[i]? = some y:=⟨_,List.getElem?_eq_getElem (show i<s.l.length from hlt)⟩
       have hxy:=Sh.Bv hx hy;have q0:∀d os,(Sort.grow (redrawn wr d) os).cell? ⟨gh,i,none⟩=some (.int .u32 x):=fun d os=>(BH.again d os).cell i (Sh.jE (by rw[Sh.O_ (show i<=8 from uX),hx]))
       have q1:∀d os,(Sort.grow (redrawn wr d) os).cell? ⟨W1.heap.size,i,none⟩=some (.int .u32 y):=fun d os=>(BV.again d os).cell i (Sh.jE hy)
       go_wp2_with fail;refine bQ 11 (by kernel_rfl) (by kernel_rfl) ?_;simp only[List.take,List.drop]
       repeat (go_big_quiet_step (fail))
       refine wpQuiet_nil ?_;rintro _ ⟨q,rfl⟩;replace hE:=hE.call (below_regrown _ q.d q.os);replace q0:=q0 q.d q.os;have f0:=(BH.again q.d q.os).frozen i;have Oi:=(BH.again q.d q.os).set i (.int .u32 ((x+y) % 4294967296));have BV2:=(BV.again q.d q.os).far (p:=⟨gh,i,none⟩) (show W1.heap.size≠gh by omega) (.int .u32 ((x+y) % 4294967296));rw [Sh.CP,Sh.O9 (H:=h.l) hxy (show i<8 from hlt)]at Oi;replace hE:=hE.set i (.int .u32 ((x+y) % 4294967296));clear q1 hx hy hxy BH BV;generalize Sort.grow (redrawn wr q.d) q.os=w9 at *;go_wp2;exact ⟨⟨i+1,by omega,by go_num,Oi,BV2,hE⟩,by simp[intOf];omega⟩
     · obtain rfl:i=8:=by omega
       rw[List.take_of_length_le (show (Sh.adds h s).l.length<=8 from Nat.le_refl _),List.drop_eq_nil_of_le (show h.l.length<=8 from Nat.le_refl _),List.append_nil]at BH;go_wp2
       go_end0
       exact⟨⟨_,rfl⟩,by rw[←hfin.out];exact BH,hE⟩
end Go.Proofs.YtohgjenaclfegaaGreatDoor

import Derived.Test.YtelljijajgiabaaGreatDoorW02
set_option linter.unusedVariables false
set_option linter.unusedSimpArgs false
set_option maxRecDepth 100000
set_option maxHeartbeats 8000000
namespace Go.Proofs.YtelljijajgiabaaGreatDoor
open Go.RowKit Go.Shelf
theorem Vz {n m mx:Nat} {c e:Int} (h0:0<=c) (h1:c<=e) (h3:1<=e):0<=bst n m mx c e:=by
 unfold bst
 refine Rat.mul_nonneg (Tb.Fa (by omega) (by omega) (by omega)) ?_;rw [Aq];exact_mod_cast Int.natCast_nonneg mx
theorem Xc (s:Tf.Su) (hG:Tf.GoodS s) (hn0:0<=s.n) (hn2:s.n<=99999999):∃q:Rat,Un q/\∀A cap,OD 36 ⟨s,A,cap⟩ (some q):=by
 obtain⟨kd,n,c,e,tr,co,tm,wi,th,ma⟩:=s;have g1:=hG.e1;have g2:=hG.e2;have g3:=hG.c0;have g4:=hG.ce;have g5:=hG.t0;have g6:=hG.t8;have g7:=hG.n0;have g8:=hG.n1;have k1:=hG.k1;have k3:=hG.k3;dsimp only at g1 g2 g3 g4 g5 g6 g7 g8 k1 k3 hn0 hn2;have hn:Tp.within n 0 99999999=true:=Tp.within_iff.2 ⟨hn0,hn2⟩;obtain ⟨m,rfl⟩:=Int.eq_ofNat_of_zero_le g5;obtain ⟨j,rfl⟩:=Int.eq_ofNat_of_zero_le g7;have hk:kd=1∨kd=2∨kd=3:=by omega
 rcases hk with rfl|rfl|rfl
 · have w1:=hG.w rfl;have t1:=hG.len;have t2:=hG.tm;have t3:=hG.so;dsimp only at w1 t1 t2 t3;have ht:Tb.VI tm:=⟨by omega,t3,fun t ht=>by have:=t2 t ht;omega⟩
   obtain⟨b,a,hB⟩:=Tb.Bw.ex t3 w1.1
   have hb:0<=b:=by
    rcases Nat.eq_zero_or_pos tm.length with h0|h0
    · rw[(hB.z h0).1];exact Int.le_refl _
    · obtain⟨j,hj,-,-,h9⟩:=hB.wh h0;rw [←h9];exact Int.natCast_nonneg _
   obtain⟨b,rfl⟩:=Int.eq_ofNat_of_zero_le hb;have hu:Un (uo (bst m (min b (m+1)) (max tm.length 1) c e)):=Qw (Y2 (by omega) g3 g4 g2 g1 (by omega)).2 (Vz g3 g4 g1);refine ⟨_,hu,fun A cap=>⟨fun q hq=>(by cases hq;exact hu),fun W ra rb code hS hE ho=>?_⟩⟩
   cases ho with
   | good _ lq=>exact Ip n c e m j A tm.length cap wi th ma ra rb b W hn fun W' h=>VP W' (hS.at_.call h) hS.cap ht w1.1 (by omega) (by omega) g3 g4 g2 g1 hB lq (hE.below h)
 · have hu:Un (Tb.Pq m j c (e-c)):=⟨Xj (by omega) g3 g4 g2 g1,Tb.Fa (by omega) (by omega) (by omega),Tb.Xi (by omega) (by omega) (by omega)⟩
   refine⟨_,hu,fun A cap=>⟨fun q hq=>(by cases hq;exact hu),fun W ra rb code hS hE ho=>?_⟩⟩
   cases ho with
   | good _ lq=>exact ru n c e m j A tm.length cap wi th ma ra rb W hn fun W' h=>nV m j c e ra rb W' (by omega) (by omega) g3 g4 g2 g1 lq (hE.below h)
 · have t1:=hG.th rfl;have t2:=hG.mr rfl;dsimp only at t1 t2;obtain ⟨tt,rfl⟩:=Int.eq_ofNat_of_zero_le (show 0<=th by omega);obtain ⟨mm,rfl⟩:=Int.eq_ofNat_of_zero_le t2.1;have hz:=Tb.Hq_qz (t:=tt) (m:=mm) (d:=m) (k:=j) (by omega) (by omega) (by omega) (by omega);have hu:Un (Tb.Hq tt mm m j):=⟨⟨hz.num.fits (by omega),hz.den.fits (by omega)⟩,Tb.xG (by omega),Tb.Xl (by omega) (by omega) (by omega)⟩
   refine⟨_,hu,fun A cap=>⟨fun q hq=>(by cases hq;exact hu),fun W ra rb code hS hE ho=>?_⟩⟩
   cases ho with
   | good _ lq=>exact yt n c e m j A tm.length cap wi tt mm ra rb W hn fun W' h=>AA tt mm m j ra rb W' (by omega) (by omega) (by omega) (by omega) lq (hE.below h)
theorem Uj {r:Tf.Ru} {l:List Tf.Ho} {n a:Int} {p q:Tf.Pr} (h:wB r (l++[⟨n,a,p,0,0⟩])) (hq:rF r.c r.e q):wB r (l++[⟨n,a,q,0,0⟩]):=by
 obtain⟨h1,h2⟩:=h;obtain ⟨v1,v2,v3,v4⟩:=Tf.Va.snoc.1 h2;exact ⟨h1,Tf.Va.snoc.2 ⟨v1,v2,⟨v3.n0,v3.n2,v3.f0,v3.f2,hq,v3.v⟩,fun g hg=>v4 g hg⟩⟩
theorem I8 {r:Tf.Ru} {l:List Tf.Ho} {n a:Int} {d:Rat} (hd:Rq.Fq d) (h:wB r (l++[⟨n,a,iy d,0,0⟩])):d<=Rat.divInt r.c r.e :=
 ((Ht hd rfl).1 (Tf.Va.snoc.1 h.2).2.2.1).2.2.1.2
theorem Ee {r:Tf.Ru} {l:List Tf.Ho} {n a:Int} {qs:List Rat} {b:Rat} (hu:∀q∈qs,Un q) (ht:Tf.sO qs=some b) (h:wB r (l++[⟨n,a,iy b,0,0⟩])):r.c=r.e∨∃q∈qs,AY q (qs.length:Rat)/\q*(qs.length:Rat)<=Rat.divInt r.c r.e:=by
 by_cases hc:r.c=r.e
 · exact .inl hc
 · have hok:=h.1;have hlt:r.c<r.e:=by have:=hok.ce;omega
   exact .inr (Tf.I9 hu ht (I8 (wF hu b ht).1 h) (Tf.Qy hok.c0 hlt))
theorem Ej {r:Tf.Ru} {l:List Tf.Ho} {n a:Int} {qs:List Rat} {x y b:Rat} (hu:∀q∈qs,Un q) (hx:Un x) (hy:y∈qs) (hyx:y<=x) (ht:Tf.sO (qs++[x])=some b) (h:wB r (l++[⟨n,a,iy b,0,0⟩])) :
 ∃d,Tf.sO qs=some d/\wB r (l++[⟨n,a,iy d,0,0⟩]):=by
 have Z5:∀q∈qs++[x],Un q:=fun q hq=>by
  rcases List.mem_append.1 hq with hq|hq
  · exact hu q hq
  · rw[List.mem_singleton.1 hq];exact hx
 have hb:=I8 (wF Z5 b ht).1 h;obtain ⟨d,h1,h2⟩:=Tf.O1 hu hy hyx ht hb;have hd:=wF hu d h1;exact ⟨d,h1,Uj h ⟨d,hd.1,rfl,hd.2.1,h2⟩⟩
namespace Tf
def oQ (n:Int):Su:=⟨2,n,1,10,3,3,[],0,0,0⟩
theorem FV (n:Int):GoodS (oQ n):=by
 refine⟨?_,?_,?_,?_,?_,?_,?_,?_,?_,?_,List.Pairwise.nil,?_,?_,?_,?_,?_,?_,?_,?_⟩ <;> simp[oQ]
def u_ (n:Int) (times:List Int) (x:X6):Su:=K_ n x (Tb.cN x.b x.c) (Tb.cD x.b x.c) times
theorem zD (n:Int) (times:List Int) (x:X6):GoodS (u_ n times x)/\(u_ n times x).n=n:=by
 have e1:=Tb.Dz x.b x.c;have e2:=Tb.Ie x.b x.c;exact JD n x times e1.1 e1.2 e2.1 e2.2
def Bd (n:Int) (times:List Int) (z:List X6):List Su:=if z=[] then [oQ n] else (z.take 4).map (u_ n times)
theorem Dp {n:Int} {times:List Int} {z:List X6}:∀s∈Bd n times z,GoodS s/\s.n=n:=fun s hs=>by
 unfold Bd at hs
 split at hs
 · rw[List.mem_singleton.1 hs];exact⟨FV n,rfl⟩
 · obtain⟨x,-,rfl⟩:=List.mem_map.1 hs;exact zD n times x
theorem He {n:Int} {times:List Int} {z:List X6}:1<=(Bd n times z).length/\(Bd n times z).length<=4:=by
 unfold Bd
 split
 · simp
 · have:0<z.length:=List.length_pos_iff.2 ‹_›;rw [List.length_map,List.length_take];omega
end Tf
open Go.RowKit
def VR (v1 v2:Value):Prop:=∀g n c n' c',v1=.slice (some ⟨g,0,none⟩) n c->v2≠.slice (some ⟨g,0,none⟩) n' c'
theorem VR.symm {v1 v2:Value} (h:VR v1 v2):VR v2 v1:=fun g n c n' c' h1 h2=>h g n' c' n c h2 h1
theorem VR.nil (v:Value):VR (.slice none 0 0) v:=fun g n c n' c' h1 _=>by cases h1
section
variable {e:TypeId} {size B n:Nat} {fl:List Value} {v1 v1' v2:Value} {W W':World}
theorem bD.kept (hk:Fg v1 v1' W W') (h:bD e size B n fl v2 W) (hne:VR v1 v2):bD e size B n fl v2 W':=by
 rcases h with h|⟨cap,⟨g,cells,e1,hg,hn,hB,hs,hf⟩,hm⟩
 · exact .inl h
 · exact .inr ⟨cap,⟨g,cells,e1,hg,hn,hk.bx hB (fun n c hv=>hne g n c _ _ hv e1),hs,hf⟩,hm⟩
theorem bD.apart (hk:Fg v1 v1' W W') (h:bD e size B n fl v2 W) (hne:VR v1 v2):VR v1' v2:=fun g n c n' c' h1 h2=>by
 obtain⟨g0,n0,c0,e0,hor⟩:=hk.at_;rw [h1]at e0;simp only[Value.slice.injEq,Option.some.injEq,Addr.mk.injEq,and_true]at e0;obtain ⟨rfl,-,-⟩:=e0
 rcases hor with hor|⟨n9,c9,h9⟩
 · rcases h with ⟨h,-,-⟩|⟨cap,⟨g',cells,e1,hg,hn,hB,hs,hf⟩,hm⟩
   · rw[h]at h2;cases h2
   · rw[e1]at h2;simp only[Value.slice.injEq,Option.some.injEq,Addr.mk.injEq,and_true]at h2;obtain ⟨rfl,-,-⟩:=h2;have:=hB.lt;omega
 · exact hne g n9 c9 n' c' h9 h2
end
theorem bD.shp {e:TypeId} {size B n:Nat} {fl:List Value} {v:Value} {w:World} (h:bD e size B n fl v w):∃A c,v=.slice A n c:=by
 rcases h with ⟨h,rfl,-⟩|⟨cap,⟨g,cells,e1,_⟩,_⟩
 · exact⟨none,0,h⟩
 · exact⟨_,_,e1⟩
theorem MX (x:List Int) (A:Option Addr) (cap:Nat) (w:World) (hA:At 1 aO w w.heap.size A x) (hn:x.length<=cap) (hlen:x.length<=maxLen) (hx:∀y∈x,I64 y) :
 Calls Tryz.prog 72 #[.slice A x.length cap] w fun e w'=>(∃v,e=.returned v/\bD 3 1 w.heap.size (Tb.jw x).length ((Tb.jw x).flatMap aO) v w')/\Below w.heap.size w w':=by
 obtain⟨i,z,hi,hzz,hs1,hz1,hby⟩:=wV
 go_enter Tryz.func72,Tryz.ntmps72
 go_wp2
 go_loopw [3,4,5] (fun s3 s4 s5 wr=>∃k:Nat,k<=x.length/\k<=60/\s5=.int .i64 k/\s4=.int .i64 (Tb.tk x k)/\bD 3 1 w.heap.size k ((Tb.tks x k).flatMap aO) s3 wr/\Below w.heap.size w wr) (fun _ _ s5 _=>60-(intOf s5).toNat)
 case atStart=>exact⟨0,Nat.zero_le _,Nat.zero_le _,rfl,rfl,.inl ⟨rfl,rfl,rfl⟩,gq w⟩
 case round =>
  obtain⟨k,hk,hk6,rfl,rfl,hrow,hb⟩:=hrel;by_cases hlt:k<x.length
  · by_cases hl6:k<60
    · have t6:decide ((k:Int)<60)=true:=by simp;omega
      obtain⟨b9,off,rfl,aY,hcell⟩:=hA (by omega);have hck:=List.getElem?_eq_getElem hlt;have hy:=hx _ (List.getElem_mem hlt)
      have g0:wr.cell? ⟨b9,off+k,none⟩=some (.int .i64 x[k]):=by
       have h:=hcell k _ hck 0 _ rfl;rw [Nat.mul_one,Nat.add_zero]at h;exact (hb.cell (p:=⟨b9,off+k,none⟩) aY).trans h
      have htk:Tb.tk x (k+1)=Tb.tk x k+Tb.V9 x[k]:=by
       show Tb.tk x k+Tb.V9 (x[k]?.getD 0)=_
       rw[hck];rfl
      have hts:=Kp.mk (Tb.O7 x k);have htb:=Tb.yV x k;have hsb:=Tb.Jc x[k];have hsd:Kp (Tb.V9 x[k]=if Tp.pick x[k] 8=7 then Tp.pick (x[k].tdiv 8) 1000 else Tp.pick (x[k].tdiv 8) 12):=⟨rfl⟩
      clear hcell hck hA;generalize x[k]=y at *;have d1:=Cj hy;have p1:=fun w0=>jT y 8 (by decide) hy w0
      have p2:=fun w0=>jT (y.tdiv 8) 1000 (by decide) d1 w0
      have p3:=fun w0=>jT (y.tdiv 8) 12 (by decide) d1 w0
      generalize Tb.V9 y=s at *;generalize Tp.pick y 8=q1 at *;generalize Tp.pick (y.tdiv 8) 1000=q2 at *;generalize Tp.pick (y.tdiv 8) 12=q3 at *;have hnx:Kp (Tb.tks x (k+1)=Tb.tks x k++[Tb.tk x k+s]):=⟨by rw[hts.out,htk]⟩
      replace htk:=Kp.mk htk;clear hts;generalize Tb.tk x k=t at *;obtain ⟨y1,y2⟩:=hy;replace d1:=Kp.mk d1;obtain ⟨tt,htt⟩:∃tt,tt=t+s:=⟨_,rfl⟩
      have htr:0<=tt/\tt<=100000:=by omega
      rw[←htt]at hnx htk;have hsrc:=cO.src (P:=Tryz.prog) (B:=wr.heap.size) (cap:=1) (e:=3) (t:=25) (fun u hu=>by simp at hu;subst hu;rfl) Tryz.underlying25 (show cO 3 1 wr.heap.size 1 1 [.int .i64 tt] (.slice (some ⟨wr.heap.size,0,none⟩) 1 1) (wr.alloc (.cells #[.int .i64 tt] 3)) from ⟨wr.heap.size,_,rfl,Nat.le_refl _,Nat.le_refl _,Bx.mk _ _ _,rfl,rfl⟩);have hrow2:=dU _ _ _ _ _ _ _ _ hrow (au wr (.cells #[.int .i64 tt] 3));have hsz:w.heap.size<=(wr.alloc (.cells #[.int .i64 tt] 3)).heap.size:=by rw[ah];have:=hb.size;omega
      have hbn:=bNew hb (.cells #[.int .i64 tt] 3)
      have fin:∀v' w',Below w.heap.size (wr.alloc (.cells #[.int .i64 tt] 3)) w'->bD 3 1 w.heap.size (k+1) ((Tb.tks x k).flatMap aO++[.int .i64 tt]) v' w'->bD 3 1 w.heap.size (k+1) ((Tb.tks x (k+1)).flatMap aO) v' w'/\Below w.heap.size w w':=fun v' w' h1 h2=>by
       rw[hnx.out,List.flatMap_append];exact ⟨h2,hbn.trans h1⟩
      by_cases hq:q1=7
      · subst hq;have hss:s=q2:=by rw[hsd.out,if_pos rfl]
        subst hss;have htt':=htt.symm;clear hsd p3 htt hnx;go_wp2_with fail;refine (p1 _).mono ?_;rintro _ _ ⟨rfl,rfl⟩;go_wp2_with fail;refine (p2 _).mono ?_;rintro _ _ ⟨rfl,rfl⟩
        go_wp2_with (at_builtin;refine eF rfl (.tmp 38) (.tmp 40) 25 3 rfl i z 1 w.heap.size k 1 ((Tb.tks x k).flatMap aO) [.int .i64 tt] _ _ Tryz.underlying25 hi hzz hs1 hz1 rfl rfl hrow2 hsz hsrc (by omega) (by unfold maxLen;omega) (by rw[hby];omega) ?_;intro v' w' e1 e2;obtain⟨f1,f2⟩:=fin _ _ e1 e2)
        exact⟨⟨k+1,by omega,by omega,by go_num,by rw[htk.out],f1,f2⟩,by simp[intOf];omega⟩
      · have hq':(q1==7)=false:=by simp[hq]
        have hss:s=q3:=by rw[hsd.out,if_neg hq]
        subst hss;have htt':=htt.symm;clear hsd p2 htt hnx;go_wp2_with fail;refine (p1 _).mono ?_;rintro _ _ ⟨rfl,rfl⟩;go_wp2_with fail;refine (p3 _).mono ?_;rintro _ _ ⟨rfl,rfl⟩
        go_wp2_with (at_builtin;refine eF rfl (.tmp 38) (.tmp 40) 25 3 rfl i z 1 w.heap.size k 1 ((Tb.tks x k).flatMap aO) [.int .i64 tt] _ _ Tryz.underlying25 hi hzz hs1 hz1 rfl rfl hrow2 hsz hsrc (by omega) (by unfold maxLen;omega) (by rw[hby];omega) ?_;intro v' w' e1 e2;obtain⟨f1,f2⟩:=fin _ _ e1 e2)
        exact⟨⟨k+1,by omega,by omega,by go_num,by rw[htk.out],f1,f2⟩,by simp[intOf];omega⟩
    · have t6:decide ((k:Int)<60)=false:=by simp;omega
      have hM:Kp (Tb.jw x=Tb.tks x k):=⟨by unfold Tb.jw;congr 1;omega⟩
      have hkl:=Tb.yG x k;have hrow2:=hrow;have hkl':(Tb.jw x).length=k:=by rw[hM.out,hkl]
      rw[←hM.out,←hkl']at hrow2;clear hkl';clear hrow hM;go_wp2;go_ret;exact ⟨⟨_,rfl,hrow2⟩,hb⟩
  · obtain rfl:k=x.length:=by omega
    have hM:Kp (Tb.jw x=Tb.tks x x.length):=⟨by unfold Tb.jw;congr 1;omega⟩
    have hkl:=Tb.yG x x.length;have hrow2:=hrow;have hkl':(Tb.jw x).length=x.length:=by rw[hM.out,hkl]
    rw[←hM.out,←hkl']at hrow2;clear hkl';clear hrow hM;go_wp2;go_ret;exact ⟨⟨_,rfl,hrow2⟩,hb⟩
theorem bD.ty {e1 e2:TypeId} (he:e1≠e2) {s1 s2 B1 B2 n1 n2:Nat} {f1 f2:List Value} {v1 v2:Value} {W:World} (h1:bD e1 s1 B1 n1 f1 v1 W) (h2:bD e2 s2 B2 n2 f2 v2 W):VR v1 v2:=fun g n c n' c' e1' e2'=>by
 rcases h1 with ⟨h,-,-⟩|⟨cap,⟨g1,cs1,hv1,-,-,hB1,-⟩,-⟩
 · rw[h]at e1';cases e1'
 rcases h2 with ⟨h,-,-⟩|⟨cap2,⟨g2,cs2,hv2,-,-,hB2,-⟩,-⟩
 · rw[h]at e2';cases e2'
 rw[hv1]at e1';rw [hv2]at e2';simp only[Value.slice.injEq,Option.some.injEq,Addr.mk.injEq,and_true]at e1' e2';obtain ⟨rfl,-,-⟩:=e1';obtain ⟨rfl,-,-⟩:=e2';have hh:=hB1.symm.trans hB2;simp only[Option.some.injEq,Obj.cells.injEq]at hh;exact he hh.2.1
theorem Bx.PE {w:World} {g:Nat} {t:TypeId} {a0 a1 a2 a3 a4 a5 a6 a7 a8 a9:Value} (h:Bx w g t #[a0,a1,a2,a3,a4,a5,a6,a7,a8,a9]) (b0 b1 b2 b3 b4 b5 b6 b7 b8 b9:Value):Bx ((((((((((w.setCell ⟨g,0,none⟩ b0).setCell ⟨g,1,none⟩ b1).setCell ⟨g,2,none⟩ b2).setCell ⟨g,3,none⟩ b3).setCell ⟨g,4,none⟩ b4).setCell ⟨g,5,none⟩ b5).setCell ⟨g,6,none⟩ b6).setCell ⟨g,7,none⟩ b7).setCell ⟨g,8,none⟩ b8).setCell ⟨g,9,none⟩ b9) g t #[b0,b1,b2,b3,b4,b5,b6,b7,b8,b9]:=by
 have h0:Bx _ g t #[b0,a1,a2,a3,a4,a5,a6,a7,a8,a9]:=h.set 0 b0;have h1:Bx _ g t #[b0,b1,a2,a3,a4,a5,a6,a7,a8,a9]:=h0.set 1 b1;have h2:Bx _ g t #[b0,b1,b2,a3,a4,a5,a6,a7,a8,a9]:=h1.set 2 b2;have h3:Bx _ g t #[b0,b1,b2,b3,a4,a5,a6,a7,a8,a9]:=h2.set 3 b3;have h4:Bx _ g t #[b0,b1,b2,b3,b4,a5,a6,a7,a8,a9]:=h3.set 4 b4;have h5:Bx _ g t #[b0,b1,b2,b3,b4,b5,a6,a7,a8,a9]:=h4.set 5 b5;have h6:Bx _ g t #[b0,b1,b2,b3,b4,b5,b6,a7,a8,a9]:=h5.set 6 b6;have h7:Bx _ g t #[b0,b1,b2,b3,b4,b5,b6,b7,a8,a9]:=h6.set 7 b7;have h8:Bx _ g t #[b0,b1,b2,b3,b4,b5,b6,b7,b8,a9]:=h7.set 8 b8;have h9:Bx _ g t #[b0,b1,b2,b3,b4,b5,b6,b7,b8,b9]:=h8.set 9 b9;exact h9
theorem J8 {w0 w:World} {g:Nat} (h:Below w0.heap.size w0 w) (hg:w0.heap.size<=g) (b0 b1 b2 b3 b4 b5 b6 b7 b8 b9:Value):Below w0.heap.size w0 ((((((((((w.setCell ⟨g,0,none⟩ b0).setCell ⟨g,1,none⟩ b1).setCell ⟨g,2,none⟩ b2).setCell ⟨g,3,none⟩ b3).setCell ⟨g,4,none⟩ b4).setCell ⟨g,5,none⟩ b5).setCell ⟨g,6,none⟩ b6).setCell ⟨g,7,none⟩ b7).setCell ⟨g,8,none⟩ b8).setCell ⟨g,9,none⟩ b9):=(aJ (aJ (aJ (aJ (aJ (aJ (aJ (aJ (aJ (aJ h (p:=⟨g,0,none⟩) hg b0) (p:=⟨g,1,none⟩) hg b1) (p:=⟨g,2,none⟩) hg b2) (p:=⟨g,3,none⟩) hg b3) (p:=⟨g,4,none⟩) hg b4) (p:=⟨g,5,none⟩) hg b5) (p:=⟨g,6,none⟩) hg b6) (p:=⟨g,7,none⟩) hg b7) (p:=⟨g,8,none⟩) hg b8) (p:=⟨g,9,none⟩) hg b9)
theorem CV (n:Int) (x:Tf.X6) (times:List Int) (A:Option Addr) (cap:Nat) (w:World) (hxa:I64 x.a) (hxb:I64 x.b) (hxc:I64 x.c) (hxd:I64 x.d) (hxe:I64 x.e) (X3:I64 x.f) (hA:At 1 aO w w.heap.size A times) (hn:times.length<=cap) (hlen:times.length<=maxLen) (hti:∀y∈times,I64 y) (s:Tf.Su) (hs:Kp (Tf.u_ n times x=s)) :
 Calls Tryz.prog 38 #[.int .i64 n,.agg #[.int .i64 x.a,.int .i64 x.b,.int .i64 x.c,.int .i64 x.d,.int .i64 x.e,.int .i64 x.f],.slice A times.length cap] w fun e' w'=>(∃C cc,e'=.returned (Pm ⟨s,C,cc⟩)/\bD 3 1 w.heap.size s.times.length (s.times.flatMap aO) (.slice C s.times.length cc) w')/\Below w.heap.size w w':=by
 have hPk:=fun w0=>aB (gY x.a 3 (by decide) hxa w0)
 have hCh:=fun w0=>xP x.b x.c w0 hxb hxc
 have hPt:=fun w0=>aB (gY x.d 9 (by decide) hxd w0)
 have k01:=Tp.aZ x.a (show (0:Int)<3 by decide);have ZB:=Tp.aZ x.d (show (0:Int)<9 by decide);have w01:=Tp.aZ x.f (show (0:Int)<12 by decide);have h01:=Tp.aZ x.f (show (0:Int)<9 by decide);have c01:=Tp.aZ x.e (show 0<Tp.pick x.d 9+2 by omega);have m01:=Tp.aZ (x.f.tdiv 16) (show 0<Tp.pick x.d 9+Tp.pick x.f 9+1 by omega)
 have aao:I64 (x.f.tdiv 16):=by
  obtain⟨a1,a2⟩:=X3;have a3:(x.f.tdiv 16).natAbs=x.f.natAbs / 16:=Int.natAbs_tdiv x.f 16;exact ⟨by omega,by omega⟩
 have yN:=fun w0=>gY x.e (Tp.pick x.d 9+2) (by omega) hxe w0
 have hPw:=fun w0=>gY x.f 12 (by decide) X3 w0
 have hPh:=fun w0=>aB (gY x.f 9 (by decide) X3 w0)
 have LG:=fun w0=>gY (x.f.tdiv 16) (Tp.pick x.d 9+Tp.pick x.f 9+1) (by omega) aao w0
 have hs2:Kp (s=⟨1+Tp.pick x.a 3,n,Tb.cN x.b x.c,Tb.cD x.b x.c,Tp.pick x.d 9,Tp.pick x.e (Tp.pick x.d 9+2),if 1+Tp.pick x.a 3=1 then Tb.jw (times.take 12) else [],if 1+Tp.pick x.a 3=1 then 1+Tp.pick x.f 12 else 0,if 1+Tp.pick x.a 3=3 then Tp.pick x.d 9+Tp.pick x.f 9 else 0,if 1+Tp.pick x.a 3=3 then Tp.pick (x.f.tdiv 16) (Tp.pick x.d 9+Tp.pick x.f 9+1) else 0⟩):=⟨hs.out.symm.trans rfl⟩
 have NM:=fun (w0:World) (hA0:At 1 aO w0 w0.heap.size A (times.take 12))=>MX (times.take 12) A cap w0 hA0 (by rw[List.length_take];omega) (by rw[List.length_take];unfold maxLen at hlen ⊢;omega) (fun y hy=>hti y (List.mem_of_mem_take hy))
 rw[List.length_take]at NM;have hll:=Tf.C9 (times.take 12);rw [List.length_take]at hll;obtain ⟨K9,hK9⟩:∃K:Nat,min 12 times.length=K:=⟨_,rfl⟩
 rw[hK9]at NM;have aK9:min (times.length:Int) 12=(K9:Int):=by omega
 have hK9c:K9<=cap:=by omega
 have aL9:(Tb.jw (times.take 12)).length<=12:=by omega
 unfold maxLen at hlen
 have hxf':=X3;obtain ⟨xf1,xf2⟩:=X3;clear hs hxa hxb hxc hxd hxe aao hxf' hll hK9 hti;generalize Tb.jw (times.take 12)=T at *;generalize Tb.cN x.b x.c=cn at *;generalize Tb.cD x.b x.c=cd at *;generalize Tp.pick (x.f.tdiv 16) (Tp.pick x.d 9+Tp.pick x.f 9+1)=ma at *;generalize Tp.pick x.e (Tp.pick x.d 9+2)=co at *;generalize Tp.pick x.d 9=tr at *;generalize Tp.pick x.f 9=th at *;generalize Tp.pick x.f 12=wi at *;generalize Tp.pick x.a 3=k at *;generalize x.a=xa at *;generalize x.b=xb at *;generalize x.c=xc at *;generalize x.d=xd at *;generalize x.e=xe at *;generalize x.f=xf at *;obtain ⟨k0,k1⟩:=k01;obtain ⟨t0,t1⟩:=ZB;obtain ⟨w0,w1⟩:=w01;obtain ⟨h0,h1⟩:=h01;obtain ⟨c0,c1⟩:=c01;obtain ⟨m0,m1⟩:=m01;have hb:=bNew (au w (.cells #[.int .i64 xa,.int .i64 xb,.int .i64 xc,.int .i64 xd,.int .i64 xe,.int .i64 xf] 71)) (.cells #[.int .i64 0,.int .i64 0,.int .i64 0,.int .i64 0,.int .i64 0,.int .i64 0,.slice none 0 0,.int .i64 0,.int .i64 0,.int .i64 0] 39);have BX:=(Bx.mk w 71 #[.int .i64 xa,.int .i64 xb,.int .i64 xc,.int .i64 xd,.int .i64 xe,.int .i64 xf]).new (.cells #[.int .i64 0,.int .i64 0,.int .i64 0,.int .i64 0,.int .i64 0,.int .i64 0,.slice none 0 0,.int .i64 0,.int .i64 0,.int .i64 0] 39);have Q:=Bx.mk (w.alloc (.cells #[.int .i64 xa,.int .i64 xb,.int .i64 xc,.int .i64 xd,.int .i64 xe,.int .i64 xf] 71)) 39 #[.int .i64 0,.int .i64 0,.int .i64 0,.int .i64 0,.int .i64 0,.int .i64 0,.slice none 0 0,.int .i64 0,.int .i64 0,.int .i64 0];rw [ah]at Q
 go_enter Tryz.func38,Tryz.ntmps38
 go_upto_region 1 with fail;have Zb:=Q.lt;generalize (w.alloc (.cells #[.int .i64 xa,.int .i64 xb,.int .i64 xc,.int .i64 xd,.int .i64 xe,.int .i64 xf] 71)).alloc (.cells #[.int .i64 0,.int .i64 0,.int .i64 0,.int .i64 0,.int .i64 0,.int .i64 0,.slice none 0 0,.int .i64 0,.int .i64 0,.int .i64 0] 39)=W0 at *;refine RS.aA (RS.jD (W0.heap.size) 39 #[.int .i64 0,.int .i64 0,.int .i64 0,.int .i64 0,.int .i64 0,.int .i64 0,.slice none 0 0,.int .i64 0,.int .i64 0,.int .i64 0] #[.int .i64 (1+k),.int .i64 n,.int .i64 cn,.int .i64 cd,.int .i64 tr,.int .i64 0,.slice none 0 0,.int .i64 0,.int .i64 0,.int .i64 0]) [(16,15)] [RS.ak (.pointer (some ⟨w.heap.size,0,none⟩)),RS.ak (.int .i64 xa),RS.ak (.int .i64 k),RS.ak (.int .i64 (1+k)),RS.ak (.int .i64 n),RS.ak (.pointer (some ⟨w.heap.size,1,none⟩)),RS.ak (.int .i64 xb),RS.ak (.pointer (some ⟨w.heap.size,2,none⟩)),RS.ak (.int .i64 xc),RS.ak (.agg #[.int .i64 xb,.int .i64 xc]),RS.ak (.agg #[.int .i64 cn,.int .i64 cd]),RS.ak (.pointer (some ⟨w.heap.size,3,none⟩)),RS.ak (.int .i64 xd),RS.ak (.int .i64 tr),RS.ak (.agg #[.int .i64 (1+k),.int .i64 n,.int .i64 cn,.int .i64 cd,.int .i64 tr,.int .i64 0,.slice none 0 0,.int .i64 0,.int .i64 0,.int .i64 0]),RS.vW (W0.heap.size) 39 #[.int .i64 0,.int .i64 0,.int .i64 0,.int .i64 0,.int .i64 0,.int .i64 0,.slice none 0 0,.int .i64 0,.int .i64 0,.int .i64 0] #[.int .i64 (1+k),.int .i64 n,.int .i64 cn,.int .i64 cd,.int .i64 tr,.int .i64 0,.slice none 0 0,.int .i64 0,.int .i64 0,.int .i64 0],RS.vT (W0.heap.size) 39 #[.int .i64 (1+k),.int .i64 n,.int .i64 cn,.int .i64 cd,.int .i64 tr,.int .i64 0,.slice none 0 0,.int .i64 0,.int .i64 0,.int .i64 0]] 17 64 (by kernel_rfl) rfl rfl (by kernel_rfl) (by kernel_rfl) ?_ ?_ ?_
 · simp only[RS.bV]
   and_intros <;> first|exact RS.aF _|exact RS.iM|exact RS.iL|trivial
 · simp only[RS.bG,List.take,List.length];refine ⟨?_,?_,?_,?_,?_,?_,?_,?_,?_,?_,?_,?_,?_,?_,?_,?_,?_,trivial⟩;all_goals (intro vs w2 hb2 hd;simp only[RS.aQ,Act.put,List.nil_append,List.cons_append,List.setIfInBounds_toArray,List.set_cons_succ,List.set_cons_zero,Nat.reduceAdd];clear Q hA NM yN hPh LG hPw hb hs2)
   · clear hd;go_wp2;first|exact⟨.rf ..,rfl⟩|simp[RS.ak,RS.KZ.rf]
   · have e0:vs 0=_:=hd 0 rfl;have q0:=(BX.below hb2.bl BX.lt).cell 0 rfl;clear hd;rw [e0];go_wp2;first|exact⟨.rf ..,rfl⟩|simp[RS.ak,RS.KZ.rf]
   · have e0:vs 1=_:=hd 1 rfl;have hC:=hPk w2;clear hd;rw [e0];go_wp2_with fail;refine hC.mono ?_;rintro _ w9 ⟨rfl,aY⟩;clear hC;have hK9:=hb2.call (Nat.le_refl _) aY;go_wp2;first|exact⟨hK9,rfl⟩|exact hK9|rfl
   · have e0:vs 2=_:=hd 2 rfl;clear hd;rw [e0];go_wp2;first|exact⟨.rf ..,rfl⟩|simp[RS.ak,RS.KZ.rf]
   · clear hd;go_wp2;first|exact⟨.rf ..,rfl⟩|simp[RS.ak,RS.KZ.rf]
   · clear hd;go_wp2;first|exact⟨.rf ..,rfl⟩|simp[RS.ak,RS.KZ.rf]
   · have e0:vs 5=_:=hd 5 rfl;have q1:=(BX.below hb2.bl BX.lt).cell 1 rfl;clear hd;rw [e0];go_wp2;first|exact⟨.rf ..,rfl⟩|simp[RS.ak,RS.KZ.rf]
   · clear hd;go_wp2;first|exact⟨.rf ..,rfl⟩|simp[RS.ak,RS.KZ.rf]
   · have e0:vs 7=_:=hd 7 rfl;have q2:=(BX.below hb2.bl BX.lt).cell 2 rfl;clear hd;rw [e0];go_wp2;first|exact⟨.rf ..,rfl⟩|simp[RS.ak,RS.KZ.rf]
   · have e0:vs 6=_:=hd 6 rfl;have e1:vs 8=_:=hd 8 rfl;clear hd;rw [e0,e1];go_wp2;first|exact⟨.rf ..,rfl⟩|simp[RS.ak,RS.KZ.rf]
   · have e0:vs 9=_:=hd 9 rfl;have hC:=hCh w2;clear hd;rw [e0];go_wp2_with fail;refine hC.mono ?_;rintro _ w9 ⟨rfl,aY⟩;clear hC;have hK9:=hb2.call (Nat.le_refl _) aY;go_wp2;first|exact⟨hK9,rfl⟩|exact hK9|rfl
   · clear hd;go_wp2;first|exact⟨.rf ..,rfl⟩|simp[RS.ak,RS.KZ.rf]
   · have e0:vs 11=_:=hd 11 rfl;have q3:=(BX.below hb2.bl BX.lt).cell 3 rfl;clear hd;rw [e0];go_wp2;first|exact⟨.rf ..,rfl⟩|simp[RS.ak,RS.KZ.rf]
   · have e0:vs 12=_:=hd 12 rfl;have hC:=hPt w2;clear hd;rw [e0];go_wp2_with fail;refine hC.mono ?_;rintro _ w9 ⟨rfl,aY⟩;clear hC;have hK9:=hb2.call (Nat.le_refl _) aY;go_wp2;first|exact⟨hK9,rfl⟩|exact hK9|rfl
   · have e0:vs 3=_:=hd 3 rfl;have e1:vs 4=_:=hd 4 rfl;have e2:vs 10=_:=hd 10 rfl;have e3:vs 13=_:=hd 13 rfl;clear hd;rw [e0,e1,e2,e3];go_wp2;first|exact⟨.rf ..,rfl⟩|simp[RS.ak,RS.KZ.rf]
   · have hK:=RS.KZ.new hb2 (Nat.le_refl _) undef;clear hd hb2;go_wp2;first|exact hK|exact hK.2|exact⟨hK.1,hK.2⟩
   · have e0:vs 14=_:=hd 14 rfl;obtain⟨g,eg,hg,hBg⟩:=hd 15 rfl;change vs 15=_ at eg;clear hd hb2
     rcases hBg with hBg|hBg
     · have hK:=RS.KZ.stores (B:=W0.heap.size) (t:=39) (z:=#[.int .i64 0,.int .i64 0,.int .i64 0,.int .i64 0,.int .i64 0,.int .i64 0,.slice none 0 0,.int .i64 0,.int .i64 0,.int .i64 0]) (cs:=#[.int .i64 (1+k),.int .i64 n,.int .i64 cn,.int .i64 cd,.int .i64 tr,.int .i64 0,.slice none 0 0,.int .i64 0,.int .i64 0,.int .i64 0]) (w:=w2) (L:=[.int .i64 (1+k),.int .i64 n,.int .i64 cn,.int .i64 cd,.int .i64 tr,.int .i64 0,.slice none 0 0,.int .i64 0,.int .i64 0,.int .i64 0]) rfl rfl hg (.inl hBg) (vs 15) undef eg;obtain ⟨q0,q1,q2,q3,q4,q5,q6,q7,q8,q9⟩:=hBg.p10;have f0:=hBg.frozen 0;have f1:=hBg.frozen 1;have f2:=hBg.frozen 2;have f3:=hBg.frozen 3;have f4:=hBg.frozen 4;have f5:=hBg.frozen 5;have f6:=hBg.frozen 6;have f7:=hBg.frozen 7;have f8:=hBg.frozen 8;have f9:=hBg.frozen 9;rw [eg,e0];clear hBg;go_wp2;first|exact hK|exact hK.2|exact⟨hK.1,g,eg,hK.2.2⟩
     · have hK:=RS.KZ.stores (B:=W0.heap.size) (t:=39) (z:=#[.int .i64 0,.int .i64 0,.int .i64 0,.int .i64 0,.int .i64 0,.int .i64 0,.slice none 0 0,.int .i64 0,.int .i64 0,.int .i64 0]) (cs:=#[.int .i64 (1+k),.int .i64 n,.int .i64 cn,.int .i64 cd,.int .i64 tr,.int .i64 0,.slice none 0 0,.int .i64 0,.int .i64 0,.int .i64 0]) (w:=w2) (L:=[.int .i64 (1+k),.int .i64 n,.int .i64 cn,.int .i64 cd,.int .i64 tr,.int .i64 0,.slice none 0 0,.int .i64 0,.int .i64 0,.int .i64 0]) rfl rfl hg (.inr hBg) (vs 15) undef eg;obtain ⟨q0,q1,q2,q3,q4,q5,q6,q7,q8,q9⟩:=hBg.p10;have f0:=hBg.frozen 0;have f1:=hBg.frozen 1;have f2:=hBg.frozen 2;have f3:=hBg.frozen 3;have f4:=hBg.frozen 4;have f5:=hBg.frozen 5;have f6:=hBg.frozen 6;have f7:=hBg.frozen 7;have f8:=hBg.frozen 8;have f9:=hBg.frozen 9;rw [eg,e0];clear hBg;go_wp2;first|exact hK|exact hK.2|exact⟨hK.1,g,eg,hK.2.2⟩
 · intro vs wa hba hR2;simp only[RS.cZ,RS.ak]at hR2;obtain ⟨e0,e1,e2,e3,e4,e5,e6,e7,e8,e9,e10,e11,e12,e13,e14,e15,e16,-⟩:=hR2;obtain ⟨gm,YN,hgm,M⟩:=e16;change vs 15=_ at YN;clear e15;simp only[List.drop,List.take,List.map,RS.aQ,Act.put,List.setIfInBounds_toArray,List.set_cons_succ,List.set_cons_zero,Nat.reduceAdd];rw [e0,e1,e2,e3,e4,e5,e6,e7,e8,e9,e10,e11,e12,e13,e14,YN];clear e0 e1 e2 e3 e4 e5 e6 e7 e8 e9 e10 e11 e12 e13 e14 YN;have hb1:=hba.bl;replace Q:=Q.call hb1;replace BX:=BX.call hb1;replace hb:=aj hb hb1;have hgm2:w.heap.size+1<gm:=Nat.lt_of_lt_of_le Zb hgm;clear hba hb1 hCh hPk hPt;have x4:=BX.cell 4 rfl;have m4:=M.cell 4 rfl;have m5:=M.cell 5 rfl;have f5:=M.frozen 5;go_wp2_with fail;refine (yN _).mono ?_;rintro _ _ ⟨rfl,rfl⟩;clear yN;go_upto_region 3 with fail;clear x4 m4 m5 f5;replace hb:=aJ hb (p:=⟨gm,5,none⟩) (by show w.heap.size<=gm;omega) (.int .i64 co);replace Q:=Q.far (p:=⟨gm,5,none⟩) (by show w.heap.size+1≠gm;omega) (.int .i64 co);replace BX:=BX.far (p:=⟨gm,5,none⟩) (by show w.heap.size≠gm;omega) (.int .i64 co);replace M:=M.set 5 (.int .i64 co);generalize wa.setCell ⟨gm,5,none⟩ (.int .i64 co)=w1' at *;have hk:k=0∨k=1∨k=2:=by omega
   rcases hk with rfl|rfl|rfl
   case inl =>
    obtain rfl:s=⟨1,n,cn,cd,tr,co,T,1+wi,0,0⟩:=by rw[hs2.out];rfl
    replace M:Bx w1' gm 39 #[.int .i64 1,.int .i64 n,.int .i64 cn,.int .i64 cd,.int .i64 tr,.int .i64 co,.slice none 0 0,.int .i64 0,.int .i64 0,.int .i64 0]:=M;clear hs2 LG hPh;have m0:=M.cell 0 rfl;have m6:=M.cell 6 rfl;have f6:=M.frozen 6;have hAt:At 1 aO w1' w1'.heap.size A (times.take 12):=((hA.below hb).more hb.size).take 12;go_wp2_with fail;refine (NM _ hAt).mono ?_;rintro _ w2 ⟨⟨v,rfl,hrow⟩,hb1⟩;clear NM hAt hA m6 f6 m0;have T_:w.heap.size+1<w1'.heap.size:=Q.lt;have hMB:gm<w1'.heap.size:=M.lt;have hwB:w.heap.size<=w1'.heap.size:=hb.size;replace Q:=Q.call hb1;replace BX:=BX.call hb1;replace M:=M.call hb1;replace hb:=aj hb hb1;clear hb1;obtain ⟨C,cc,rfl⟩:=hrow.shp;have m6:=M.cell 6 rfl;have f6:=M.frozen 6;go_upto_region 6 with fail;clear m6 f6;replace hb:=aJ hb (p:=⟨gm,6,none⟩) (by show w.heap.size<=gm;omega) (.slice C T.length cc);replace Q:=Q.far (p:=⟨gm,6,none⟩) (by show w.heap.size+1≠gm;omega) (.slice C T.length cc);replace BX:=BX.far (p:=⟨gm,6,none⟩) (by show w.heap.size≠gm;omega) (.slice C T.length cc);replace M:=M.set 6 (.slice C T.length cc);replace hrow:=hrow.off (p:=⟨gm,6,none⟩) hMB (.slice C T.length cc);generalize w2.setCell ⟨gm,6,none⟩ (.slice C T.length cc)=w3 at *;have x5:=BX.cell 5 rfl;have m7:=M.cell 7 rfl;have f7:=M.frozen 7;go_wp2_with fail;refine (hPw _).mono ?_;rintro _ _ ⟨rfl,rfl⟩;clear hPw;go_upto_region 10 with fail;clear x5 m7 f7;replace hb:=aJ hb (p:=⟨gm,7,none⟩) (by show w.heap.size<=gm;omega) (.int .i64 (1+wi));replace Q:=Q.far (p:=⟨gm,7,none⟩) (by show w.heap.size+1≠gm;omega) (.int .i64 (1+wi));replace BX:=BX.far (p:=⟨gm,7,none⟩) (by show w.heap.size≠gm;omega) (.int .i64 (1+wi));replace M:=M.set 7 (.int .i64 (1+wi));replace hrow:=hrow.off (p:=⟨gm,7,none⟩) hMB (.int .i64 (1+wi));generalize w3.setCell ⟨gm,7,none⟩ (.int .i64 (1+wi))=w4 at *;replace M:Bx w4 gm 39 #[.int .i64 1,.int .i64 n,.int .i64 cn,.int .i64 cd,.int .i64 tr,.int .i64 co,.slice C T.length cc,.int .i64 (1+wi),.int .i64 0,.int .i64 0]:=M;clear BX;have m0':=M.cell 0 rfl;have m1':=M.cell 1 rfl;have m2':=M.cell 2 rfl;have m3':=M.cell 3 rfl;have m4':=M.cell 4 rfl;have m5':=M.cell 5 rfl;have m6':=M.cell 6 rfl;have m7':=M.cell 7 rfl;have m8':=M.cell 8 rfl;have m9':=M.cell 9 rfl;obtain ⟨q0,q1,q2,q3,q4,q5,q6,q7,q8,q9⟩:=Q.p10;have f0:=Q.frozen 0;have f1:=Q.frozen 1;have f2:=Q.frozen 2;have f3:=Q.frozen 3;have f4:=Q.frozen 4;have f5:=Q.frozen 5;have f6:=Q.frozen 6;have f7:=Q.frozen 7;have f8:=Q.frozen 8;have f9:=Q.frozen 9;go_wp2;exact bodyPost_ret (o7 rfl _ _ rfl (Q.PE (.int .i64 1) (.int .i64 n) (.int .i64 cn) (.int .i64 cd) (.int .i64 tr) (.int .i64 co) (.slice C T.length cc) (.int .i64 (1+wi)) (.int .i64 0) (.int .i64 0))) rfl ⟨⟨C,cc,rfl,(n_ ((((((((((hrow.off (p:=⟨w.heap.size+1,0,none⟩) T_ (.int .i64 1)).off (p:=⟨w.heap.size+1,1,none⟩) T_ (.int .i64 n)).off (p:=⟨w.heap.size+1,2,none⟩) T_ (.int .i64 cn)).off (p:=⟨w.heap.size+1,3,none⟩) T_ (.int .i64 cd)).off (p:=⟨w.heap.size+1,4,none⟩) T_ (.int .i64 tr)).off (p:=⟨w.heap.size+1,5,none⟩) T_ (.int .i64 co)).off (p:=⟨w.heap.size+1,6,none⟩) T_ (.slice C T.length cc)).off (p:=⟨w.heap.size+1,7,none⟩) T_ (.int .i64 (1+wi))).off (p:=⟨w.heap.size+1,8,none⟩) T_ (.int .i64 0)).off (p:=⟨w.heap.size+1,9,none⟩) T_ (.int .i64 0)) hwB)⟩,J8 hb (Nat.le_succ _) (.int .i64 1) (.int .i64 n) (.int .i64 cn) (.int .i64 cd) (.int .i64 tr) (.int .i64 co) (.slice C T.length cc) (.int .i64 (1+wi)) (.int .i64 0) (.int .i64 0)⟩
   case inr.inl =>
    obtain rfl:s=⟨2,n,cn,cd,tr,co,[],0,0,0⟩:=by rw[hs2.out];rfl
    replace M:Bx w1' gm 39 #[.int .i64 2,.int .i64 n,.int .i64 cn,.int .i64 cd,.int .i64 tr,.int .i64 co,.slice none 0 0,.int .i64 0,.int .i64 0,.int .i64 0]:=M;clear hs2 LG hPh hPw NM hA BX;have m0':=M.cell 0 rfl;have m1':=M.cell 1 rfl;have m2':=M.cell 2 rfl;have m3':=M.cell 3 rfl;have m4':=M.cell 4 rfl;have m5':=M.cell 5 rfl;have m6':=M.cell 6 rfl;have m7':=M.cell 7 rfl;have m8':=M.cell 8 rfl;have m9':=M.cell 9 rfl;obtain ⟨q0,q1,q2,q3,q4,q5,q6,q7,q8,q9⟩:=Q.p10;have f0:=Q.frozen 0;have f1:=Q.frozen 1;have f2:=Q.frozen 2;have f3:=Q.frozen 3;have f4:=Q.frozen 4;have f5:=Q.frozen 5;have f6:=Q.frozen 6;have f7:=Q.frozen 7;have f8:=Q.frozen 8;have f9:=Q.frozen 9;go_wp2;exact bodyPost_ret (o7 rfl _ _ rfl (Q.PE (.int .i64 2) (.int .i64 n) (.int .i64 cn) (.int .i64 cd) (.int .i64 tr) (.int .i64 co) (.slice none 0 0) (.int .i64 0) (.int .i64 0) (.int .i64 0))) rfl ⟨⟨none,0,rfl,(.inl ⟨rfl,rfl,rfl⟩)⟩,J8 hb (Nat.le_succ _) (.int .i64 2) (.int .i64 n) (.int .i64 cn) (.int .i64 cd) (.int .i64 tr) (.int .i64 co) (.slice none 0 0) (.int .i64 0) (.int .i64 0) (.int .i64 0)⟩
   case inr.inr =>
    obtain rfl:s=⟨3,n,cn,cd,tr,co,[],0,tr+th,ma⟩:=by rw[hs2.out];rfl
    replace M:Bx w1' gm 39 #[.int .i64 3,.int .i64 n,.int .i64 cn,.int .i64 cd,.int .i64 tr,.int .i64 co,.slice none 0 0,.int .i64 0,.int .i64 0,.int .i64 0]:=M;clear hs2 hPw NM hA;have m0:=M.cell 0 rfl;go_upto_region 8 with fail;clear m0;have BM:=M;clear M;refine RS.aA (RS.jD (gm) 39 #[.int .i64 3,.int .i64 n,.int .i64 cn,.int .i64 cd,.int .i64 tr,.int .i64 co,.slice none 0 0,.int .i64 0,.int .i64 0,.int .i64 0] #[.int .i64 3,.int .i64 n,.int .i64 cn,.int .i64 cd,.int .i64 tr,.int .i64 co,.slice none 0 0,.int .i64 0,.int .i64 (tr+th),.int .i64 0]) [] [RS.ak (.pointer (some ⟨gm,4,none⟩)),RS.ak (.int .i64 tr),RS.ak (.pointer (some ⟨w.heap.size,5,none⟩)),RS.ak (.int .i64 xf),RS.ak (.int .i64 th),RS.ak (.int .i64 (tr+th)),RS.ak (.pointer (some ⟨gm,8,none⟩)),RS.BoZ (gm) 39 #[.int .i64 3,.int .i64 n,.int .i64 cn,.int .i64 cd,.int .i64 tr,.int .i64 co,.slice none 0 0,.int .i64 0,.int .i64 (tr+th),.int .i64 0]] 8 64 (by kernel_rfl) rfl rfl (by kernel_rfl) (by kernel_rfl) ?_ ?_ ?_
    · simp only[RS.bV]
      and_intros <;> first|exact RS.aF _|exact RS.uM|trivial
    · simp only[RS.bG,List.take,List.length];refine ⟨?_,?_,?_,?_,?_,?_,?_,?_,trivial⟩;all_goals (intro vs w2 hb2 hd;simp only[RS.aQ,Act.put,List.nil_append,List.cons_append,List.setIfInBounds_toArray,List.set_cons_succ,List.set_cons_zero,Nat.reduceAdd])
      · clear hd LG Q hb;go_wp2;first|exact⟨.rf ..,rfl⟩|simp[RS.ak,RS.KZ.rf]
      · have e0:vs 0=_:=hd 0 rfl
        rcases hb2.own _ _ (Nat.le_refl _) BM with hBg|⟨-,hBg⟩
        · have q4:=hBg.cell 4 rfl;clear hBg hd LG Q hb;rw [e0];go_wp2;first|exact⟨RS.KZ.rf _ _ _ _ _,rfl⟩|exact⟨RS.KZ.rf _ _ _ _ _,by simp[RS.ak]⟩|exact RS.KZ.rf _ _ _ _ _|(simp [RS.ak])|exact⟨RS.KZ.rf _ _ _ _ _,.inl rfl⟩|exact⟨RS.KZ.rf _ _ _ _ _,.inr rfl⟩|exact .inl rfl|exact .inr rfl
        · have q4:=hBg.cell 4 rfl;clear hBg hd LG Q hb;rw [e0];go_wp2;first|exact⟨RS.KZ.rf _ _ _ _ _,rfl⟩|exact⟨RS.KZ.rf _ _ _ _ _,by simp[RS.ak]⟩|exact RS.KZ.rf _ _ _ _ _|(simp [RS.ak])|exact⟨RS.KZ.rf _ _ _ _ _,.inl rfl⟩|exact⟨RS.KZ.rf _ _ _ _ _,.inr rfl⟩|exact .inl rfl|exact .inr rfl
      · clear hd LG Q hb;go_wp2;first|exact⟨.rf ..,rfl⟩|simp[RS.ak,RS.KZ.rf]
      · have e0:vs 2=_:=hd 2 rfl;have q5:=(BX.below hb2.bl (by omega)).cell 5 rfl;clear hd LG Q hb;rw [e0];go_wp2;first|exact⟨.rf ..,rfl⟩|simp[RS.ak,RS.KZ.rf]
      · have e0:vs 3=_:=hd 3 rfl;have hC:=hPh w2;clear hd LG Q hb;rw [e0];go_wp2_with fail;refine hC.mono ?_;rintro _ w9 ⟨rfl,aY⟩;clear hC;have hK9:=hb2.call (Nat.le_of_lt BM.lt) aY;go_wp2;first|exact⟨hK9,rfl⟩|exact hK9|rfl
      · have e0:vs 1=_:=hd 1 rfl;have e1:vs 4=_:=hd 4 rfl;clear hd LG Q hb;rw [e0,e1];go_wp2;first|exact⟨.rf ..,rfl⟩|simp[RS.ak,RS.KZ.rf]
      · clear hd LG Q hb;go_wp2;first|exact⟨.rf ..,rfl⟩|simp[RS.ak,RS.KZ.rf]
      · have e0:vs 5=_:=hd 5 rfl;have e1:vs 6=_:=hd 6 rfl;clear hd LG Q hb
        rcases hb2.own _ _ (Nat.le_refl _) BM with hBg|⟨-,hBg⟩
        · have hN:Bx (w2.setCell ⟨gm,8,none⟩ (.int .i64 (tr+th))) (gm) 39 #[.int .i64 3,.int .i64 n,.int .i64 cn,.int .i64 cd,.int .i64 tr,.int .i64 co,.slice none 0 0,.int .i64 0,.int .i64 (tr+th),.int .i64 0]:=(hBg.set 8 (.int .i64 (tr+th)))
          have hK:RS.KZ (gm) 39 #[.int .i64 3,.int .i64 n,.int .i64 cn,.int .i64 cd,.int .i64 tr,.int .i64 co,.slice none 0 0,.int .i64 0,.int .i64 0,.int .i64 0] #[.int .i64 3,.int .i64 n,.int .i64 cn,.int .i64 cd,.int .i64 tr,.int .i64 co,.slice none 0 0,.int .i64 0,.int .i64 (tr+th),.int .i64 0] w2 (w2.setCell ⟨gm,8,none⟩ (.int .i64 (tr+th))):=RS.KZ.put (Nat.le_refl _) (.inl hBg) (Below.setCell (Below.refl (gm) w2) (p:=⟨gm,8,none⟩) (Nat.le_refl _) (.int .i64 (tr+th))).size (Below.setCell (Below.refl (gm) w2) (p:=⟨gm,8,none⟩) (Nat.le_refl _) (.int .i64 (tr+th))) (fun b e=>Below.heap_setCell _ ⟨gm,8,none⟩ _ b e) hN;have q0:=hBg.cell 8 rfl;have f0:=hBg.frozen 8;rw [e0,e1];clear hBg hb2;go_wp2;first|exact⟨hK,hN⟩|exact hN|exact hK
        · have hN:Bx (w2.setCell ⟨gm,8,none⟩ (.int .i64 (tr+th))) (gm) 39 #[.int .i64 3,.int .i64 n,.int .i64 cn,.int .i64 cd,.int .i64 tr,.int .i64 co,.slice none 0 0,.int .i64 0,.int .i64 (tr+th),.int .i64 0]:=(hBg.set 8 (.int .i64 (tr+th)))
          have hK:RS.KZ (gm) 39 #[.int .i64 3,.int .i64 n,.int .i64 cn,.int .i64 cd,.int .i64 tr,.int .i64 co,.slice none 0 0,.int .i64 0,.int .i64 0,.int .i64 0] #[.int .i64 3,.int .i64 n,.int .i64 cn,.int .i64 cd,.int .i64 tr,.int .i64 co,.slice none 0 0,.int .i64 0,.int .i64 (tr+th),.int .i64 0] w2 (w2.setCell ⟨gm,8,none⟩ (.int .i64 (tr+th))):=RS.KZ.put (Nat.le_refl _) (.inr hBg) (Below.setCell (Below.refl (gm) w2) (p:=⟨gm,8,none⟩) (Nat.le_refl _) (.int .i64 (tr+th))).size (Below.setCell (Below.refl (gm) w2) (p:=⟨gm,8,none⟩) (Nat.le_refl _) (.int .i64 (tr+th))) (fun b e=>Below.heap_setCell _ ⟨gm,8,none⟩ _ b e) hN;have q0:=hBg.cell 8 rfl;have f0:=hBg.frozen 8;rw [e0,e1];clear hBg hb2;go_wp2;first|exact⟨hK,hN⟩|exact hN|exact hK
    · intro vs w2' hba hR2;simp only[RS.cZ,RS.ak]at hR2;obtain ⟨e0,e1,e2,e3,e4,e5,e6,e7,-⟩:=hR2;simp only[List.drop,List.take,List.map,RS.aQ,Act.put,List.setIfInBounds_toArray,List.set_cons_succ,List.set_cons_zero,Nat.reduceAdd];rw [e0,e1,e2,e3,e4,e5,e6];clear e0 e1 e2 e3 e4 e5 e6;have BN:=e7;clear e7;change Bx _ _ _ _ at BN;obtain hb2:=hba.bl;clear BM;have M:=BN;clear BN;replace Q:=Q.below hb2 (by omega);replace BX:=BX.below hb2 (by omega);replace hb:=hb.trans (hb2.mono (by omega));clear hb2 hba hPh;have x5:=BX.cell 5 rfl;have m8:=M.cell 8 rfl;have m9:=M.cell 9 rfl;have f9:=M.frozen 9;go_wp2_with fail;refine (LG _).mono ?_;rintro _ _ ⟨rfl,rfl⟩;clear LG;go_upto_region 10 with fail;clear x5 m8 m9 f9;replace hb:=aJ hb (p:=⟨gm,9,none⟩) (by show w.heap.size<=gm;omega) (.int .i64 ma);replace Q:=Q.far (p:=⟨gm,9,none⟩) (by show w.heap.size+1≠gm;omega) (.int .i64 ma);replace BX:=BX.far (p:=⟨gm,9,none⟩) (by show w.heap.size≠gm;omega) (.int .i64 ma);replace M:=M.set 9 (.int .i64 ma);generalize w2'.setCell ⟨gm,9,none⟩ (.int .i64 ma)=w3 at *;replace M:Bx w3 gm 39 #[.int .i64 3,.int .i64 n,.int .i64 cn,.int .i64 cd,.int .i64 tr,.int .i64 co,.slice none 0 0,.int .i64 0,.int .i64 (tr+th),.int .i64 ma]:=M;clear BX;have m0':=M.cell 0 rfl;have m1':=M.cell 1 rfl;have m2':=M.cell 2 rfl;have m3':=M.cell 3 rfl;have m4':=M.cell 4 rfl;have m5':=M.cell 5 rfl;have m6':=M.cell 6 rfl;have m7':=M.cell 7 rfl;have m8':=M.cell 8 rfl;have m9':=M.cell 9 rfl;obtain ⟨q0,q1,q2,q3,q4,q5,q6,q7,q8,q9⟩:=Q.p10;have f0:=fun i=>Q.frozen i
      go_wp2;exact bodyPost_ret (o7 rfl _ _ rfl (Q.PE (.int .i64 3) (.int .i64 n) (.int .i64 cn) (.int .i64 cd) (.int .i64 tr) (.int .i64 co) (.slice none 0 0) (.int .i64 0) (.int .i64 (tr+th)) (.int .i64 ma))) rfl ⟨⟨none,0,rfl,(.inl ⟨rfl,rfl,rfl⟩)⟩,J8 hb (Nat.le_succ _) (.int .i64 3) (.int .i64 n) (.int .i64 cn) (.int .i64 cd) (.int .i64 tr) (.int .i64 co) (.slice none 0 0) (.int .i64 0) (.int .i64 (tr+th)) (.int .i64 ma)⟩
theorem V7:∃i z,Tryz.prog.info? 39=some i/\i.zero=some z/\i.size=10/\z.cells.size=10/\i.bytes=96:=by
 have h:(Tryz.prog.info? 39).map (fun i=>(i.size,i.bytes,i.zero.map (·.cells.size)))=some (10,96,some 10):=by kernel_rfl
 cases hi:Tryz.prog.info? 39 with
 | none=>rw[hi]at h;cases h
 | some i =>
  rw[hi]at h;simp only[Option.map_some,Option.some.injEq,Prod.mk.injEq]at h;obtain ⟨h1,h2,h3⟩:=h
  cases hz:i.zero with
  | none=>rw[hz]at h3;cases h3
  | some z=>rw[hz]at h3;exact⟨i,z,rfl,hz,h1,by simpa using h3,h2⟩
theorem yI (m:fM):∀u∈iY m,u.oneCell'=true:=fun u hu=>by
 simp only[iY,List.mem_cons,List.not_mem_nil,or_false]at hu
 rcases hu with rfl|rfl|rfl|rfl|rfl|rfl|rfl|rfl|rfl|rfl <;> rfl
def Me (B:Nat) (m:fM) (w:World):Prop:=bD 3 1 B m.s.times.length (m.s.times.flatMap aO) (.slice m.A m.s.times.length m.cap) w
theorem Me.below {B:Nat} {m:fM} {w w':World} (h:Me B m w) (hb:Below w.heap.size w w'):Me B m w':=dU _ _ _ _ _ _ _ _ h hb
theorem Me.at_ {B:Nat} {m:fM} {w:World} (h:Me B m w):nI w w.heap.size m:=by
 obtain⟨A,cap,h1,h2,h3,h4⟩:=bD.at (f:=aO) (fun _=>rfl) h;simp only[Value.slice.injEq,true_and]at h1;obtain ⟨e1,e2⟩:=h1;exact ⟨by rw[e1];exact h2,by rw[e2];exact h3,by unfold maxLen at h4;omega⟩
theorem Me.kept {B B' n:Nat} {fl:List Value} {m:fM} {v v':Value} {w w':World} (h:Me B m w) (hr:bD 39 10 B' n fl v w) (hk:Fg v v' w w'):Me B m w':=bD.kept hk h (bD.ty (by decide) hr h)
theorem FN {B B':Nat} {ms:List fM} {w:World} {v:Value} (h:bD 39 10 B ms.length (ms.flatMap iY) v w) (he:∀m∈ms,Me B' m w):∃A cap,v=.slice A ms.length cap/\AU w A cap ms:=by
 obtain⟨A,cap,h1,h2,h3,h4⟩:=bD.at (f:=iY) (fun _=>rfl) h;exact ⟨A,cap,h1,h2,fun m hm=>(he m hm).at_,h3,by unfold maxLen at h4;omega⟩
theorem zl (n:Int) (z:List Tf.X6) (ZA:Option Addr) (yw:Nat) (times:List Int) (A:Option Addr) (cap:Nat) (w:World) (hZ:At 6 VU w w.heap.size ZA z) (hzn:z.length<=yw) (hzl:z.length<=maxLen) (hz:∀x∈z,I64 x.a/\I64 x.b/\I64 x.c/\I64 x.d/\I64 x.e/\I64 x.f) (hA:At 1 aO w w.heap.size A times) (hn:times.length<=cap) (hlen:times.length<=maxLen) (hti:∀y∈times,I64 y) (S:List Tf.Su) (hS:Kp (Tf.Bd n times z=S)) :
 Calls Tryz.prog 14 #[.int .i64 n,.slice ZA z.length yw,.slice A times.length cap] w fun e' w'=>(∃MA lK ms,e'=.returned (.slice MA ms.length lK)/\ms.map (·.s)=S/\AU w' MA lK ms)/\Below w.heap.size w w':=by
 obtain⟨ti,tz,hi,hzz,hs1,hz1,hby⟩:=V7
 unfold maxLen at hzl
 go_enter Tryz.func14,Tryz.ntmps14
 go_wp2
 go_loopw [8,7] (fun s8 s7 wr=>∃ms:List fM,ms.length<=z.length/\ms.length<=4/\s8=.int .i64 ms.length/\Kp (ms.map (·.s)=(z.take ms.length).map (Tf.u_ n times))/\bD 39 10 w.heap.size ms.length (ms.flatMap iY) s7 wr/\Kp (ms.length=0->s7=.slice none 0 0)/\(∀m∈ms,Me w.heap.size m wr)/\Below w.heap.size w wr) (fun s8 _ _=>4-(intOf s8).toNat)
 case atStart=>exact⟨[],Nat.zero_le _,Nat.zero_le _,rfl,⟨rfl⟩,.inl ⟨rfl,rfl,rfl⟩,⟨fun _=>rfl⟩,fun m hm=>(by cases hm),gq w⟩
 case round =>
  obtain⟨ms,hk,hk4,rfl,hms,hrow,hnil,hsr,hb⟩:=hrel;by_cases hgo:ms.length<z.length/\ms.length<4
  case pos =>
   obtain⟨hlt,hl4⟩:=hgo;have t4:decide ((ms.length:Int)<4)=true:=decide_eq_true (by omega);obtain ⟨b,off,rfl,hbB,hcell⟩:=hZ (by omega);have hcx:∀w2,Below w.heap.size w w2->∀(j:Nat) (u:Value),(VU z[ms.length])[j]? = some u->w2.cell? ⟨b,off+ms.length*6+j,none⟩=some u:=fun w2 h2 j u hu=>(h2.cell (p:=⟨b,off+ms.length*6+j,none⟩) hbB).trans (hcell ms.length _ (List.getElem?_eq_getElem hlt) j u hu)
   obtain⟨h1,h2,h3,h4,h5,h6⟩:=hz _ (List.getElem_mem hlt);obtain ⟨s,hs⟩:=jH (Tf.u_ n times z[ms.length]);have hSu:=CV n z[ms.length] times A cap wr h1 h2 h3 h4 h5 h6 ((hA.below hb).more hb.size) hn hlen hti s hs
   have hmn:∀m:fM,m.s=s->Kp ((ms++[m]).map (·.s)=(z.take (ms++[m]).length).map (Tf.u_ n times)):=fun m hm=>⟨by
    rw[List.length_append,List.length_singleton,List.take_add_one,List.getElem?_eq_getElem hlt,Option.toList_some,List.map_append,List.map_append,hms.out]
    simp[hm,hs.out]⟩
   have q0:=hcx _ hb 0 _ rfl;have q1:=hcx _ hb 1 _ rfl;have q2:=hcx _ hb 2 _ rfl;have q3:=hcx _ hb 3 _ rfl;have q4:=hcx _ hb 4 _ rfl;have q5:=hcx _ hb 5 _ rfl;simp only[Nat.add_zero]at q0;clear hcx hcell hZ hz hS hms h1 h2 h3 h4 h5 h6 hs hA hti;generalize z[ms.length]=x at *;generalize x.a=xa at *;generalize x.b=xb at *;generalize x.c=xc at *;generalize x.d=xd at *;generalize x.e=xe at *;generalize x.f=xf at *;go_wp2_with fail;refine hSu.mono ?_;rintro _ w1 ⟨⟨C,cc,rfl,hT⟩,hb1⟩;clear hSu q0 q1 q2 q3 q4 q5;have hT2:Me w.heap.size ⟨s,C,cc⟩ w1:=n_ hT hb.size;replace hrow:=dU _ _ _ _ _ _ _ _ hrow hb1;have Z7:∀m∈ms,Me w.heap.size m w1:=fun m hm=>(hsr m hm).below hb1
   replace hb:=aj hb hb1;clear hb1 hT hsr hnil;have hsrc:=cO.src (P:=Tryz.prog) (B:=w1.heap.size) (cap:=1) (e:=39) (size:=10) (t:=35) (yI ⟨s,C,cc⟩) Tryz.underlying35 (show cO 39 10 w1.heap.size 1 1 (iY ⟨s,C,cc⟩) (.slice (some ⟨w1.heap.size,0,none⟩) 1 1) (w1.alloc (.cells #[.int .i64 s.kind,.int .i64 s.n,.int .i64 s.c,.int .i64 s.e,.int .i64 s.bT,.int .i64 s.count,.slice C s.times.length cc,.int .i64 s.width,.int .i64 s.things,.int .i64 s.marked] 39)) from ⟨w1.heap.size,_,rfl,Nat.le_refl _,Nat.le_refl _,Bx.mk _ _ _,rfl,rfl⟩);have hrow2:=dU _ _ _ _ _ _ _ _ hrow (au w1 (.cells #[.int .i64 s.kind,.int .i64 s.n,.int .i64 s.c,.int .i64 s.e,.int .i64 s.bT,.int .i64 s.count,.slice C s.times.length cc,.int .i64 s.width,.int .i64 s.things,.int .i64 s.marked] 39));have hbn:=bNew hb (.cells #[.int .i64 s.kind,.int .i64 s.n,.int .i64 s.c,.int .i64 s.e,.int .i64 s.bT,.int .i64 s.count,.slice C s.times.length cc,.int .i64 s.width,.int .i64 s.things,.int .i64 s.marked] 39);have hsz:w.heap.size<=(w1.alloc (.cells #[.int .i64 s.kind,.int .i64 s.n,.int .i64 s.c,.int .i64 s.e,.int .i64 s.bT,.int .i64 s.count,.slice C s.times.length cc,.int .i64 s.width,.int .i64 s.things,.int .i64 s.marked] 39)).heap.size:=hbn.size
   have fin:∀v v' w',Below w.heap.size (w1.alloc (.cells #[.int .i64 s.kind,.int .i64 s.n,.int .i64 s.c,.int .i64 s.e,.int .i64 s.bT,.int .i64 s.count,.slice C s.times.length cc,.int .i64 s.width,.int .i64 s.things,.int .i64 s.marked] 39)) w'->Fg v v' (w1.alloc (.cells #[.int .i64 s.kind,.int .i64 s.n,.int .i64 s.c,.int .i64 s.e,.int .i64 s.bT,.int .i64 s.count,.slice C s.times.length cc,.int .i64 s.width,.int .i64 s.things,.int .i64 s.marked] 39)) w'->bD 39 10 w.heap.size ms.length (ms.flatMap iY) v (w1.alloc (.cells #[.int .i64 s.kind,.int .i64 s.n,.int .i64 s.c,.int .i64 s.e,.int .i64 s.bT,.int .i64 s.count,.slice C s.times.length cc,.int .i64 s.width,.int .i64 s.things,.int .i64 s.marked] 39))->bD 39 10 w.heap.size (ms.length+1) (ms.flatMap iY++iY ⟨s,C,cc⟩) v' w'->bD 39 10 w.heap.size (ms++[(⟨s,C,cc⟩:fM)]).length ((ms++[(⟨s,C,cc⟩:fM)]).flatMap iY) v' w'/\(∀m∈ms++[(⟨s,C,cc⟩:fM)],Me w.heap.size m w')/\Below w.heap.size w w':=fun v v' w' g1 g2 g0 g3=>by
    refine⟨by rw[List.flatMap_append,List.flatMap_singleton,List.length_append,List.length_singleton];exact g3,fun m hm=>?_,hbn.trans g1⟩
    rcases List.mem_append.1 hm with hm|hm
    · exact ((Z7 m hm).below (au _ _)).kept g0 g2
    · rw[List.mem_singleton.1 hm];exact (hT2.below (au _ _)).kept g0 g2
   have hl1:(ms++[(⟨s,C,cc⟩:fM)]).length=ms.length+1:=by simp
   have hmn1:=hmn ⟨s,C,cc⟩ rfl;clear hmn hT2 Z7 hbn;simp only[Pm]
   go_wp2_with (at_builtin;refine jg rfl (.tmp 19) (.tmp 27) 35 39 rfl ti tz 10 w.heap.size ms.length 1 (ms.flatMap iY) (iY ⟨s,C,cc⟩) _ _ Tryz.underlying35 hi hzz hs1 hz1 rfl rfl hrow2 hsz hsrc (by omega) (by unfold maxLen;omega) (by rw[hby];omega) ?_;intro v' w' e1 e2 e3;obtain⟨f1,f2,f3⟩:=fin _ _ _ e1 e2 hrow2 e3)
   exact⟨⟨ms++[(⟨s,C,cc⟩:fM)],by omega,by omega,by rw[hl1];go_num,hmn1,f1,⟨fun h=>by omega⟩,f2,f3⟩,by simp[intOf];omega⟩
  case neg =>
   have Ve:ms.map (·.s)=(z.take 4).map (Tf.u_ n times):=by
    rw[hms.out];by_cases h4:ms.length=4
    · rw[h4]
    · have e1:ms.length=z.length:=by omega
      rw[e1,List.take_length,List.take_of_length_le (by omega)]
   have hstop:decide (ms.length<z.length)=false∨(ms.length<z.length/\decide ((ms.length:Int)<4)=false):=by
    by_cases h4:ms.length<z.length
    · exact .inr ⟨h4,decide_eq_false (by omega)⟩
    · exact .inl (decide_eq_false h4)
   clear hZ hA hms hz hti;by_cases h0:ms.length=0
   case pos =>
    obtain rfl:ms=[]:=List.eq_nil_of_length_eq_zero h0
    have hz0:z=[]:=by
     by_cases hz0:z=[]
     · exact hz0
     · have:=congrArg List.length Ve;have h5:=List.length_pos_iff.2 hz0;rw [List.length_map,List.length_map,List.length_take]at this;simp at this
       omega
    subst hz0;have hS2:S=[Tf.oQ n]:=by rw[←hS.out];unfold Tf.Bd;rw[if_pos rfl]
    obtain rfl:=hnil.out rfl;clear hnil hrow;have hsrc:=cO.src (P:=Tryz.prog) (B:=wr.heap.size) (cap:=1) (e:=39) (size:=10) (t:=35) (yI ⟨Tf.oQ n,none,0⟩) Tryz.underlying35 (show cO 39 10 wr.heap.size 1 1 (iY ⟨Tf.oQ n,none,0⟩) (.slice (some ⟨wr.heap.size,0,none⟩) 1 1) (wr.alloc (.cells #[.int .i64 2,.int .i64 n,.int .i64 1,.int .i64 10,.int .i64 3,.int .i64 3,.slice none 0 0,.int .i64 0,.int .i64 0,.int .i64 0] 39)) from ⟨wr.heap.size,_,rfl,Nat.le_refl _,Nat.le_refl _,Bx.mk _ _ _,rfl,rfl⟩);have hrow2:bD 39 10 w.heap.size 0 [] (.slice none 0 0) (wr.alloc (.cells #[.int .i64 2,.int .i64 n,.int .i64 1,.int .i64 10,.int .i64 3,.int .i64 3,.slice none 0 0,.int .i64 0,.int .i64 0,.int .i64 0] 39)):=.inl ⟨rfl,rfl,rfl⟩;have hbn:=bNew hb (.cells #[.int .i64 2,.int .i64 n,.int .i64 1,.int .i64 10,.int .i64 3,.int .i64 3,.slice none 0 0,.int .i64 0,.int .i64 0,.int .i64 0] 39);have hsz:w.heap.size<=(wr.alloc (.cells #[.int .i64 2,.int .i64 n,.int .i64 1,.int .i64 10,.int .i64 3,.int .i64 3,.slice none 0 0,.int .i64 0,.int .i64 0,.int .i64 0] 39)).heap.size:=hbn.size
    have fin:∀v' w',Below w.heap.size (wr.alloc (.cells #[.int .i64 2,.int .i64 n,.int .i64 1,.int .i64 10,.int .i64 3,.int .i64 3,.slice none 0 0,.int .i64 0,.int .i64 0,.int .i64 0] 39)) w'->bD 39 10 w.heap.size (0+1) ([]++iY ⟨Tf.oQ n,none,0⟩) v' w'->(∃MA lK ms,v'=.slice MA ms.length lK/\ms.map (·.s)=S/\AU w' MA lK ms)/\Below w.heap.size w w':=fun v' w' g1 g3=>by
     obtain⟨A9,c9,h1,h2⟩:=FN (ms:=[(⟨Tf.oQ n,none,0⟩:fM)]) (B':=0) g3 fun m hm=>by rw[List.mem_singleton.1 hm];exact .inl ⟨rfl,rfl,rfl⟩
     exact⟨⟨A9,c9,_,h1,by rw[hS2];rfl,h2⟩,hbn.trans g1⟩
    clear hS2 hS Ve hb hbn hsr
    go_wp2_with (at_builtin;refine eF rfl (.tmp 32) (.tmp 36) 35 39 rfl ti tz 10 w.heap.size 0 1 [] (iY ⟨Tf.oQ n,none,0⟩) _ _ Tryz.underlying35 hi hzz hs1 hz1 rfl rfl hrow2 hsz hsrc (by omega) (by unfold maxLen;omega) (by rw[hby];omega) ?_;intro v' w' e1 e3;obtain⟨⟨MA,lK,ms,rfl,f1,f2⟩,f3⟩:=fin _ _ e1 e3)
    go_ret;exact ⟨⟨MA,lK,ms,rfl,f1,f2⟩,f3⟩
   case neg =>
    have hzn:¬z=[]:=fun h=>by subst h;exact h0 (by simpa using hk)
    have hS2:ms.map (·.s)=S:=by rw[Ve,←hS.out];unfold Tf.Bd;rw[if_neg hzn]
    obtain⟨MA,lK,rfl,eU⟩:=FN hrow hsr;have t0:((ms.length:Int)==0)=false:=by simpa using h0
    have t0':(ms.length==0)=false:=by simpa using h0
    clear hS Ve hrow hsr h0 hnil
    rcases hstop with hst|⟨hlt,hst⟩
    · go_wp2;go_ret;exact ⟨⟨MA,lK,ms,rfl,hS2,eU⟩,hb⟩
    · go_wp2;go_ret;exact ⟨⟨MA,lK,ms,rfl,hS2,eU⟩,hb⟩
noncomputable def EW (s:Tf.Su):Rat:=@dite _ (Tf.GoodS s/\0<=s.n/\s.n<=99999999) (Classical.propDecidable _) (fun h=>Classical.choose (Xc s h.1 h.2.1 h.2.2)) fun _=>0
theorem Ak {s:Tf.Su} (h:Tf.GoodS s) (h0:0<=s.n) (h1:s.n<=99999999):Un (EW s)/\∀A cap,OD 36 ⟨s,A,cap⟩ (some (EW s)):=by
 unfold EW
 rw[dif_pos ⟨h,h0,h1⟩];exact Classical.choose_spec (Xc s h h0 h1)
theorem rC {s:Tf.Su} (h:Tf.GoodS s) (h0:0<=s.n) (h1:s.n<=99999999):Un (EW s):=(Ak h h0 h1).1
noncomputable def bdO (ms:List fM):List (Option Rat):=(ms.map fun m=>EW m.s).map some
theorem Jb {ms:List fM} (hm:1<=ms.length/\ms.length<=10) (h:∀m∈ms,Tf.GoodS m.s/\m.s.n=6):AQ ms (bdO ms) :=
 AQ.all _ (by rw[List.length_map]) hm fun i hi=>by
  obtain⟨h1,h2⟩:=h _ (List.getElem_mem hi);have:=(Ak h1 (by omega) (by omega)).2 ms[i].A ms[i].cap;simpa using this
theorem yF (ms:List fM):iW (bdO ms)=Tf.sO (ms.map fun m=>EW m.s):=iK _
theorem L9 {ms:List fM} (h:∀m∈ms,Tf.GoodS m.s/\m.s.n=6):L_ ms 6=true:=by
 unfold L_
 rw[Bool.not_eq_true',List.any_eq_false];intro m hm;rw [(h m hm).2];simp
theorem Ai {m:fM} {qa qb:List UInt8} (hg:Tf.GoodS m.s/\m.s.n=6) (lq:LQ (EW m.s) qa qb) (w:World) (hS:nI w w.heap.size m) (hE:Env w) :
 aW 36 #[.agg #[.int .i64 m.s.kind,.int .i64 m.s.n,.int .i64 m.s.c,.int .i64 m.s.e,.int .i64 m.s.bT,.int .i64 m.s.count,.slice m.A m.s.times.length m.cap,.int .i64 m.s.width,.int .i64 m.s.things,.int .i64 m.s.marked]] w (.tuple #[.agg #[.string ⟨qa.toArray⟩,.string ⟨qb.toArray⟩],.int .i64 0]):=by
 have h:=(Ak hg.1 (by omega) (by omega)).2 m.A m.cap;exact h.2 w qa qb 0 hS hE (.good (rC hg.1 (by omega) (by omega)) lq)
inductive IY (r:Tf.Ru) (l:List Tf.Ho) (n a:Int):Option Rat->Bool->Int->Tf.Ho->Prop
 | none:IY r l n a none false 360 ⟨0,0,([],[]),0,0⟩
 | yes {q:Rat} (h:wB r (l++[⟨n,a,iy q,0,0⟩])):IY r l n a (some q) true 0 ⟨n,a,iy q,0,0⟩
 | no {q:Rat} (h:¬wB r (l++[⟨n,a,iy q,0,0⟩])):IY r l n a (some q) false 0 ⟨0,0,([],[]),0,0⟩
theorem IY.ex (r:Tf.Ru) (l:List Tf.Ho) (n a:Int) (o:Option Rat):∃y code h,IY r l n a o y code h:=by
 cases o with
 | none=>exact⟨_,_,_,.none⟩
 | some q =>
  by_cases h:wB r (l++[⟨n,a,iy q,0,0⟩])
  · exact⟨_,_,_,.yes h⟩
  · exact⟨_,_,_,.no h⟩
theorem IY.ways {r:Tf.Ru} {l:List Tf.Ho} {n a:Int} {o:Option Rat} {y:Bool} {c:Int} {h:Tf.Ho} (hI:IY r l n a o y c h):c=360/\y=false∨c=0/\(y=true∨y=false):=by cases hI <;> simp
theorem IY.XG {r:Tf.Ru} {l:List Tf.Ho} {n a:Int} {o:Option Rat} {c:Int} {h:Tf.Ho} (hI:IY r l n a o true c h):∃q,o=some q/\wB r (l++[⟨n,a,iy q,0,0⟩]):=by
 cases hI with
 | @yes q h=>exact⟨q,rfl,h⟩
theorem IY.Xx {r:Tf.Ru} {l:List Tf.Ho} {n a:Int} {q:Rat} {y:Bool} {c:Int} {h:Tf.Ho} (hI:IY r l n a (some q) y c h) (hv:wB r (l++[⟨n,a,iy q,0,0⟩])):y=true:=by
 cases hI with
 | yes _=>rfl
 | no hn=>exact absurd hv hn
theorem JE {c e lo re pay:Int} {l:List Tf.Ho} {ms:List fM} {a:Int} {y:Bool} {code:Int} {h:Tf.Ho} (hv:wB ⟨c,e,lo,re,pay⟩ l) (hm:1<=ms.length/\ms.length<=10) (hg:∀m∈ms,Tf.GoodS m.s/\m.s.n=6) (ha:0<=a/\a<=10000000) (hI:IY ⟨c,e,lo,re,pay⟩ l 6 a (Tf.sO (ms.map fun m=>EW m.s)) y code h)
 (PA:Option Addr) (nG:Nat) (A:Option Addr) (cap:Nat) (w:World) (hA:AU w A cap ms) (hP:BK w PA nG l) (hE:Env w) :
 aW 25 #[.agg #[.int .i64 c,.int .i64 e,.int .i64 lo,.int .i64 re,.int .i64 pay],.slice PA l.length nG,.slice A ms.length cap,.int .i64 6,.int .i64 a] w (.tuple #[.agg #[.int .i64 h.n,.int .i64 h.f,.string ⟨h.b.1.toArray⟩,.string ⟨h.b.2.toArray⟩,.int .i64 h.v,.int .i64 h.d],.bool y,.int .i64 code]):=by
 have hL:=Jb hm hg;have ht:=yF ms;have hab:=L9 hg;have hva:=l7 hv;have hat:Tp.within a 0 10000000=true:=Tp.within_iff.2 ha;obtain ⟨o,ho⟩:∃o,o=Tf.sO (ms.map fun m=>EW m.s):=⟨_,rfl⟩
 rw[←ho]at hI ht
 have hu:UnO o:=by
  rw[ho];refine wF fun q hq=>?_
  obtain⟨m,hm,rfl⟩:=List.mem_map.1 hq;exact rC (hg m hm).1 (by have:=(hg m hm).2;omega) (by have:=(hg m hm).2;omega)
 clear ho
 cases hI with
 | none =>
  exact Nz c e lo re pay l PA nG ms _ A cap 6 a w hL hA hP hE [] [] 360 (by rw[ht];exact .bad) (by rw[ht];rfl)
 | @yes q h =>
  obtain⟨qa,qb,lq⟩:=LQ.ex q;have e1:iy q=(qa,qb):=by unfold iy;rw[lq.out.1,lq.out.2]
  rw[e1]at h;have:=tX c e lo re pay l PA nG ms _ A cap 6 a w hL hA hP hE qa qb 0 (by rw[ht];exact .good (hu q rfl) lq) (by rw[ht,hab];rfl) hva hat (l7 h);rw [e1];exact this
 | @no q h =>
  obtain⟨qa,qb,lq⟩:=LQ.ex q;have e1:iy q=(qa,qb):=by unfold iy;rw[lq.out.1,lq.out.2]
  rw[e1]at h;exact wW c e lo re pay l PA nG ms _ A cap 6 a w hL hA hP hE qa qb 0 (by rw[ht];exact .good (hu q rfl) lq) (by rw[ht,hab];rfl) hva hat (qF h)
theorem Xw {ms:List fM} {ra rb:List UInt8} {code:Int} (hm:1<=ms.length/\ms.length<=10) (hg:∀m∈ms,Tf.GoodS m.s/\m.s.n=6) (ho:OB (Tf.sO (ms.map fun m=>EW m.s)) ra rb code) (A:Option Addr) (cap:Nat) (w:World) (hA:AU w A cap ms) (hE:Env w) :
 aW 33 #[.slice A ms.length cap] w (.tuple #[.agg #[.string ⟨ra.toArray⟩,.string ⟨rb.toArray⟩],.int .i64 code]):=by
 exact (Jb hm hg).sO A cap w ra rb code hA.at_ hA.each hA.cap hA.len hE (by rw[yF];exact ho)
theorem AU.cells {w:World} {A:Option Addr} {cap:Nat} {ms:List fM} (h:AU w A cap ms) {i:Nat} (hi:i<ms.length):∃b off,A=some ⟨b,off,none⟩/\∀w2,Below w.heap.size w w2->∀(j:Nat) (u:Value),(iY ms[i])[j]? = some u->w2.cell? ⟨b,off+i*10+j,none⟩=some u:=by
 obtain⟨b,off,rfl,hb,hc⟩:=h.at_ (by omega);exact ⟨b,off,rfl,fun w2 h2 j u hu=>(h2.cell (p:=⟨b,off+i*10+j,none⟩) hb).trans (hc i _ (List.getElem?_eq_getElem hi) j u hu)⟩
end Go.Proofs.YtelljijajgiabaaGreatDoor

import Derived.Test.YtelljijajgiabaaGreatDoorQ23
set_option linter.unusedVariables false
set_option linter.unusedSimpArgs false
set_option maxRecDepth 100000
set_option maxHeartbeats 8000000
namespace Go.Proofs.YtelljijajgiabaaGreatDoor
open Go.RowKit Go.Shelf
def Pm (m:fM):Value:=.agg #[.int .i64 m.s.kind,.int .i64 m.s.n,.int .i64 m.s.c,.int .i64 m.s.e,.int .i64 m.s.bT,.int .i64 m.s.count,.slice m.A m.s.times.length m.cap,.int .i64 m.s.width,.int .i64 m.s.things,.int .i64 m.s.marked]
def OD (f:FuncId) (m:fM) (o:Option Rat):Prop:=UnO o/\∀(W:World) (ra rb:List UInt8) (code:Int),nI W W.heap.size m->Env W->OB o ra rb code->aW f #[Pm m] W (.tuple #[.agg #[.string ⟨ra.toArray⟩,.string ⟨rb.toArray⟩],.int .i64 code])
theorem Tz {W:World} {g:Nat} {a b:List UInt8} (hB:Bx W g 51 #[.string ⟨a.toArray⟩,.string ⟨b.toArray⟩]):At 2 nD W W.heap.size (some ⟨g,0,none⟩) [(a,b)]:=fun _ =>
 ⟨g,0,rfl,hB.lt,fun i c hi j u hj=>by
  match i,hi with
  | 0,hi =>
   cases hi
   match j,hj with
   | 0,hj=>cases hj;exact hB.cell 0 rfl
   | 1,hj=>cases hj;exact hB.cell 1 rfl⟩
theorem NZ {m r:Rat} {ra rb xa xb:List UInt8} {n:Nat} (A:Option Addr) (w:World) (lm:LQ m ra rb) (hA:At 2 nD w w.heap.size A (List.replicate n (ra,rb))) (hl:n<=20) (hm:Un m) (hc:comb (List.replicate n m)=some r) (lr:LQ (uo r) xa xb) (hE:Env w) :
 aW 60 #[.slice A n n] w (.tuple #[.agg #[.string ⟨xa.toArray⟩,.string ⟨xb.toArray⟩],.int .i64 0]):=by
 have htx:iy m=(ra,rb):=by unfold iy;rw[lm.out.1,lm.out.2]
 have h:=Fp (List.replicate n m) A n r xa xb w (by rw[List.map_replicate,htx];exact hA) (by simp) (by simpa using hl) (fun q hq=>by rw[(List.mem_replicate.1 hq).2];exact hm) ⟨hc⟩ lr hE
 rwa [List.length_replicate]at h
theorem EO {m:Rat} {ra rb:List UInt8} {n:Nat} (A:Option Addr) (w:World) (lm:LQ m ra rb) (hA:At 2 nD w w.heap.size A (List.replicate n (ra,rb))) (hl:n<=20) (hm:Un m) (hc:comb (List.replicate n m)=none) (hE:Env w) :
 aW 60 #[.slice A n n] w (.tuple #[.agg #[.string ⟨#[]⟩,.string ⟨#[]⟩],.int .i64 350]):=by
 have htx:iy m=(ra,rb):=by unfold iy;rw[lm.out.1,lm.out.2]
 have h:=Fj (List.replicate n m) A n w (by rw[List.map_replicate,htx];exact hA) (by simp) (by simpa using hl) (fun q hq=>by rw[(List.mem_replicate.1 hq).2];exact hm) ⟨hc⟩ hE
 rwa [List.length_replicate]at h
theorem DV (ms:List fM) (os:List (Option Rat)) (A:Option Addr) (cap:Nat) (w:World) (hlen:os.length=ms.length) (hB:∀(i:Nat) (h:i<ms.length),OD 36 ms[i] (os[i]'(by omega))) (hA:At 10 iY w w.heap.size A ms) (hS:∀m∈ms,nI w w.heap.size m) (hn:ms.length<=cap) (hl:ms.length<=9223372036854775807) (hE:Env w) (h:Tp.within (ms.length:Int) 1 10=false) :
 aW 33 #[.slice A ms.length cap] w (.tuple #[.agg #[.string ⟨#[]⟩,.string ⟨#[]⟩],.int .i64 360]):=by
 have hb:=au w (.cells #[.string ⟨#[]⟩,.string ⟨#[]⟩] 51);have Q:=Bx.mk w 51 #[.string ⟨#[]⟩,.string ⟨#[]⟩];have hW:=fun w0=>aB (bZ (ms.length:Int) 1 10 w0)
 rw[h]at hW;clear hA hS hB h hE
 go_enter Tryz.func33,Tryz.ntmps33
 go_wp2_with fail;refine (hW _).mono ?_;rintro _ w1 ⟨rfl,hb1⟩;replace Q:=Q.call hb1;replace hb:=aj hb hb1;have q0:=Q.cell 0 rfl;have q1:=Q.cell 1 rfl;have f0:=Q.frozen 0;have f1:=Q.frozen 1;go_wp2;exact bodyPost_ret (aU rfl _ _ rfl rfl ((Q.set 0 (.string ⟨#[]⟩)).set 1 (.string ⟨#[]⟩))) rfl ⟨rfl,aJ (aJ hb (p:=⟨w.heap.size,0,none⟩) (Nat.le_refl _) _) (p:=⟨w.heap.size,1,none⟩) (Nat.le_refl _) _⟩
theorem DW (ms:List fM) (os:List (Option Rat)) (A:Option Addr) (cap:Nat) (w:World) (hlen:os.length=ms.length) (hB:∀(i:Nat) (h:i<ms.length),OD 36 ms[i] (os[i]'(by omega))) (hA:At 10 iY w w.heap.size A ms) (hS:∀m∈ms,nI w w.heap.size m) (hn:ms.length<=cap) (hl:ms.length<=9223372036854775807) (hE:Env w) (h:Tp.within (ms.length:Int) 1 10=true) (qs:List Rat) (os':List (Option Rat)) (hos:os=qs.map some++none :: os') :
 aW 33 #[.slice A ms.length cap] w (.tuple #[.agg #[.string ⟨#[]⟩,.string ⟨#[]⟩],.int .i64 360]):=by
 have hk0:qs.length<ms.length:=by rw[←hlen,hos,List.length_append,List.length_map,List.length_cons];omega
 have aag:ms.length<=10:=by have:=(Tp.within_iff.1 h).2;omega
 have hb:=au w (.cells #[.string ⟨#[]⟩,.string ⟨#[]⟩] 51);have Q:=Bx.mk w 51 #[.string ⟨#[]⟩,.string ⟨#[]⟩];have hW:=fun w0=>aB (bZ (ms.length:Int) 1 10 w0)
 rw[h]at hW;obtain ⟨ti,tz,hi,hzz,hs1,hz1,hby⟩:=PX
 go_enter Tryz.func33,Tryz.ntmps33
 go_wp2_with fail;refine (hW _).mono ?_;rintro _ w1 ⟨rfl,hb1⟩;replace Q:=Q.call hb1;replace hb:=aj hb hb1;clear hb1 hW;go_wp2_with fail
 go_loopw [4,18] (fun s4 XB wr=>∃k:Nat,k<=qs.length/\XB=.int .i64 k/\bD 51 2 (w.heap.size+1) k ((qs.take k).flatMap qp) s4 wr/\Bx wr w.heap.size 51 #[.string ⟨#[]⟩,.string ⟨#[]⟩]/\Below w.heap.size w wr) (fun _ XB _=>ms.length-(intOf XB).toNat)
 case atStart=>exact⟨0,Nat.zero_le _,rfl,.inl ⟨rfl,rfl,rfl⟩,Q,hb⟩
 case round =>
  clear Q hb;obtain ⟨k,hk,rfl,hrow,Q,hb⟩:=hrel;have hlt:k<ms.length:=by omega
  obtain⟨b,off,rfl,hbB,hcell⟩:=hA (by omega);have hck:ms[k]? = some ms[k]:=List.getElem?_eq_getElem hlt;have hcl:=fun (j:Nat) u (hj:(iY ms[k])[j]? = some u)=>(hb.cell (p:=⟨b,off+k*10+j,none⟩) hbB).trans (hcell k _ hck j u hj)
  have hcl0:=hcl 0 _ rfl;have Rh:=hcl 1 _ rfl;have Rf:=hcl 2 _ rfl;have Q_:=hcl 3 _ rfl;have Q9:=hcl 4 _ rfl;have Q8:=hcl 5 _ rfl;have Q7:=hcl 6 _ rfl;have Q5:=hcl 7 _ rfl;have QY:=hcl 8 _ rfl;have QX:=hcl 9 _ rfl;simp only[Nat.add_zero]at hcl0;have hsu:=hS _ (List.getElem_mem hlt);clear hcl hck hcell;by_cases hkq:k<qs.length
  · have hos:os[k]'(by omega)=some qs[k]:=by simp only[hos];rw[List.getElem_append_left (by rw[List.length_map];exact hkq),List.getElem_map]
    obtain⟨hun,hbd⟩:=hB k hlt;rw [hos]at hun hbd;have hq:=hun _ rfl;obtain ⟨qa,qb,lq⟩:=LQ.ex qs[k];have hC:=fun W=>hbd W qa qb 0
    have hv:Pm ms[k]=.agg #[.int .i64 ms[k].s.kind,.int .i64 ms[k].s.n,.int .i64 ms[k].s.c,.int .i64 ms[k].s.e,.int .i64 ms[k].s.bT,.int .i64 ms[k].s.count,.slice ms[k].A ms[k].s.times.length ms[k].cap,.int .i64 ms[k].s.width,.int .i64 ms[k].s.things,.int .i64 ms[k].s.marked]:=rfl;rw [hv]at hC
    have hnx:Kp ((qs.take k).flatMap qp++[.string ⟨qa.toArray⟩,.string ⟨qb.toArray⟩]=(qs.take (k+1)).flatMap qp):=⟨by
     rw[List.take_add_one,List.getElem?_eq_getElem hkq,Option.toList_some,List.flatMap_append,List.flatMap_singleton,KQ lq]⟩
    have hob:OB (some qs[k]) qa qb 0:=.good hq lq;have hbs:=bNew hb (.cells #[.int .i64 ms[k].s.kind,.int .i64 ms[k].s.n,.int .i64 ms[k].s.c,.int .i64 ms[k].s.e,.int .i64 ms[k].s.bT,.int .i64 ms[k].s.count,.slice ms[k].A ms[k].s.times.length ms[k].cap,.int .i64 ms[k].s.width,.int .i64 ms[k].s.things,.int .i64 ms[k].s.marked] 39);have qj:=hC _ ((hsu.below hbs).more hbs.size) (hE.below hbs) hob;have hrow1:=dU _ _ _ _ _ _ _ _ hrow (au wr (.cells #[.int .i64 ms[k].s.kind,.int .i64 ms[k].s.n,.int .i64 ms[k].s.c,.int .i64 ms[k].s.e,.int .i64 ms[k].s.bT,.int .i64 ms[k].s.count,.slice ms[k].A ms[k].s.times.length ms[k].cap,.int .i64 ms[k].s.width,.int .i64 ms[k].s.things,.int .i64 ms[k].s.marked] 39));have S0:=Bx.mk wr 39 #[.int .i64 ms[k].s.kind,.int .i64 ms[k].s.n,.int .i64 ms[k].s.c,.int .i64 ms[k].s.e,.int .i64 ms[k].s.bT,.int .i64 ms[k].s.count,.slice ms[k].A ms[k].s.times.length ms[k].cap,.int .i64 ms[k].s.width,.int .i64 ms[k].s.things,.int .i64 ms[k].s.marked];obtain ⟨s0,s1,s2,s3,s4,s5,s6,s7,s8,s9⟩:=S0.p10;replace Q:=Q.new (.cells #[.int .i64 ms[k].s.kind,.int .i64 ms[k].s.n,.int .i64 ms[k].s.c,.int .i64 ms[k].s.e,.int .i64 ms[k].s.bT,.int .i64 ms[k].s.count,.slice ms[k].A ms[k].s.times.length ms[k].cap,.int .i64 ms[k].s.width,.int .i64 ms[k].s.things,.int .i64 ms[k].s.marked] 39);clear hC hbd hun hq hob lq hos hv hsu hB hA hS;generalize ms[k]=m at *;go_wp2_with fail;refine qj.mono ?_;rintro _ w1 ⟨rfl,hb1⟩;clear qj hcl0 Rh Rf Q_ Q9 Q8 Q7 Q5 QY QX s0 s1 s2 s3 s4 s5 s6 s7 s8 s9 S0;go_upto_region 10 with fail;have B1:=Bx.mk w1 51 #[.string ⟨qa.toArray⟩,.string ⟨qb.toArray⟩];have hbn:=bNew (aj hbs hb1) (.cells #[.string ⟨qa.toArray⟩,.string ⟨qb.toArray⟩] 51);have hrow2:=dU _ _ _ _ _ _ _ _ (dU _ _ _ _ _ _ _ _ hrow1 hb1) (au w1 (.cells #[.string ⟨qa.toArray⟩,.string ⟨qb.toArray⟩] 51));replace Q:=(Q.call hb1).new (.cells #[.string ⟨qa.toArray⟩,.string ⟨qb.toArray⟩] 51);have hQl:=Q.lt;generalize w1.alloc (.cells #[.string ⟨qa.toArray⟩,.string ⟨qb.toArray⟩] 51)=w2 at *;generalize w1.heap.size=g1 at *;have c0:=B1.cell 0 rfl;have c1:=B1.cell 1 rfl;have hsrc:=cO.src (P:=Tryz.prog) (B:=w2.heap.size) (cap:=1) (e:=51) (size:=2) (t:=93) (fun u hu=>by simp at hu;rcases hu with rfl|rfl <;> rfl) Tryz.underlying93 (show cO 51 2 w2.heap.size 1 1 [.string ⟨qa.toArray⟩,.string ⟨qb.toArray⟩] (.slice (some ⟨w2.heap.size,0,none⟩) 1 1) (w2.alloc (.cells #[.string ⟨qa.toArray⟩,.string ⟨qb.toArray⟩] 51)) from ⟨_,_,rfl,Nat.le_refl _,Nat.le_refl _,Bx.mk _ _ _,rfl,rfl⟩);have hrow3:=dU _ _ _ _ _ _ _ _ hrow2 (au w2 (.cells #[.string ⟨qa.toArray⟩,.string ⟨qb.toArray⟩] 51));have hbm:=bNew hbn (.cells #[.string ⟨qa.toArray⟩,.string ⟨qb.toArray⟩] 51);replace Q:=Q.new (.cells #[.string ⟨qa.toArray⟩,.string ⟨qb.toArray⟩] 51);have hsz:w.heap.size+1<=(w2.alloc (.cells #[.string ⟨qa.toArray⟩,.string ⟨qb.toArray⟩] 51)).heap.size:=Q.lt
    have fin:∀v' w',Below (w.heap.size+1) (w2.alloc (.cells #[.string ⟨qa.toArray⟩,.string ⟨qb.toArray⟩] 51)) w'->bD 51 2 (w.heap.size+1) (k+1) ((qs.take k).flatMap qp++[.string ⟨qa.toArray⟩,.string ⟨qb.toArray⟩]) v' w'->bD 51 2 (w.heap.size+1) (k+1) ((qs.take (k+1)).flatMap qp) v' w'/\Bx w' w.heap.size 51 #[.string ⟨#[]⟩,.string ⟨#[]⟩]/\Below w.heap.size w w':=fun v' w' h1 h2=>by
     rw[hnx.out]at h2;exact ⟨h2,Q.below h1 (by omega),hbm.trans (h1.mono (by omega))⟩
    go_wp2_with (at_builtin;refine eF rfl (.tmp 31) (.tmp 33) 93 51 rfl ti tz 2 (w.heap.size+1) k 1 ((qs.take k).flatMap qp) [.string ⟨qa.toArray⟩,.string ⟨qb.toArray⟩] _ _ Tryz.underlying93 hi hzz hs1 hz1 rfl rfl hrow3 hsz hsrc (by omega) (by unfold maxLen;omega) (by rw[hby];omega) ?_;intro v' w' e1 e2;obtain⟨f1,f2,f3⟩:=fin _ _ e1 e2)
    exact⟨⟨k+1,by omega,by go_num,f1,f2,f3⟩,by simp[intOf];omega⟩
  · obtain rfl:k=qs.length:=by omega
    have hon:os[qs.length]'(by omega)=none:=by simp only[hos];rw[List.getElem_append_right (by rw[List.length_map];exact Nat.le_refl _)];simp
    obtain⟨hun,hbd⟩:=hB qs.length hlt;rw [hon]at hun hbd;have hC:=fun W=>hbd W [] [] 360
    have hv:Pm ms[qs.length]=.agg #[.int .i64 ms[qs.length].s.kind,.int .i64 ms[qs.length].s.n,.int .i64 ms[qs.length].s.c,.int .i64 ms[qs.length].s.e,.int .i64 ms[qs.length].s.bT,.int .i64 ms[qs.length].s.count,.slice ms[qs.length].A ms[qs.length].s.times.length ms[qs.length].cap,.int .i64 ms[qs.length].s.width,.int .i64 ms[qs.length].s.things,.int .i64 ms[qs.length].s.marked]:=rfl;rw [hv]at hC;have hbs:=bNew hb (.cells #[.int .i64 ms[qs.length].s.kind,.int .i64 ms[qs.length].s.n,.int .i64 ms[qs.length].s.c,.int .i64 ms[qs.length].s.e,.int .i64 ms[qs.length].s.bT,.int .i64 ms[qs.length].s.count,.slice ms[qs.length].A ms[qs.length].s.times.length ms[qs.length].cap,.int .i64 ms[qs.length].s.width,.int .i64 ms[qs.length].s.things,.int .i64 ms[qs.length].s.marked] 39);have qj:=hC _ ((hsu.below hbs).more hbs.size) (hE.below hbs) .bad;have S0:=Bx.mk wr 39 #[.int .i64 ms[qs.length].s.kind,.int .i64 ms[qs.length].s.n,.int .i64 ms[qs.length].s.c,.int .i64 ms[qs.length].s.e,.int .i64 ms[qs.length].s.bT,.int .i64 ms[qs.length].s.count,.slice ms[qs.length].A ms[qs.length].s.times.length ms[qs.length].cap,.int .i64 ms[qs.length].s.width,.int .i64 ms[qs.length].s.things,.int .i64 ms[qs.length].s.marked];obtain ⟨s0,s1,s2,s3,s4,s5,s6,s7,s8,s9⟩:=S0.p10;replace Q:=Q.new (.cells #[.int .i64 ms[qs.length].s.kind,.int .i64 ms[qs.length].s.n,.int .i64 ms[qs.length].s.c,.int .i64 ms[qs.length].s.e,.int .i64 ms[qs.length].s.bT,.int .i64 ms[qs.length].s.count,.slice ms[qs.length].A ms[qs.length].s.times.length ms[qs.length].cap,.int .i64 ms[qs.length].s.width,.int .i64 ms[qs.length].s.things,.int .i64 ms[qs.length].s.marked] 39);clear hC hbd hun hon hv hsu hB hA hS hrow hos;generalize ms[qs.length]=m at *;go_wp2_with fail;refine qj.mono ?_;rintro _ w1 ⟨rfl,hb1⟩;clear qj hcl0 Rh Rf Q_ Q9 Q8 Q7 Q5 QY QX s0 s1 s2 s3 s4 s5 s6 s7 s8 s9 S0;replace Q:=(Q.call hb1).new (.cells #[.string ⟨#[]⟩,.string ⟨#[]⟩] 51);replace hb:=bNew (aj hbs hb1) (.cells #[.string ⟨#[]⟩,.string ⟨#[]⟩] 51);have q0:=Q.cell 0 rfl;have q1:=Q.cell 1 rfl;have f0:=Q.frozen 0;have f1:=Q.frozen 1;go_wp2;exact bodyPost_ret (aU rfl _ _ rfl rfl ((Q.set 0 (.string ⟨#[]⟩)).set 1 (.string ⟨#[]⟩))) rfl ⟨rfl,aJ (aJ hb (p:=⟨w.heap.size,0,none⟩) (Nat.le_refl _) _) (p:=⟨w.heap.size,1,none⟩) (Nat.le_refl _) _⟩
theorem uI (ms:List fM) (os:List (Option Rat)) (A:Option Addr) (cap:Nat) (w:World) (hlen:os.length=ms.length) (hB:∀(i:Nat) (h:i<ms.length),OD 36 ms[i] (os[i]'(by omega))) (hA:At 10 iY w w.heap.size A ms) (hS:∀m∈ms,nI w w.heap.size m) (hn:ms.length<=cap) (hl:ms.length<=9223372036854775807) (hE:Env w) (h:Tp.within (ms.length:Int) 1 10=true) (qs:List Rat) (hos:os=qs.map some) (xa xb:List UInt8) (tc fc:Int) (hw2:Kp ((∃r,comb (List.replicate ms.length (Tf.iT qs))=some r/\LQ (uo r) xa xb/\tc=0/\fc=0)∨(comb (List.replicate ms.length (Tf.iT qs))=none/\xa=[]/\xb=[]/\tc=350/\fc=360))) :
 aW 33 #[.slice A ms.length cap] w (.tuple #[.agg #[.string ⟨xa.toArray⟩,.string ⟨xb.toArray⟩],.int .i64 fc]):=by
 have AO:qs.length=ms.length:=by rw[←hlen,hos,List.length_map]
 have hl1:1<=ms.length:=by have:=(Tp.within_iff.1 h).1;omega
 have aag:ms.length<=10:=by have:=(Tp.within_iff.1 h).2;omega
 have hun:∀q∈qs,Un q:=fun q hq=>by
  obtain⟨i,hi,rfl⟩:=List.getElem_of_mem hq;refine (hB i (by omega)).1 _ ?_;simp only[hos,List.getElem_map]
 obtain⟨la,lb,lm⟩:=LQ.ex (Tf.iT qs);have hmu:Un (Tf.iT qs):=hun _ (Tf.rY (fun e=>by rw[e]at AO;simp at AO;omega)).1;have hb:=au w (.cells #[.string ⟨#[]⟩,.string ⟨#[]⟩] 51);have Q:=Bx.mk w 51 #[.string ⟨#[]⟩,.string ⟨#[]⟩];have hW:=fun w0=>aB (bZ (ms.length:Int) 1 10 w0)
 rw[h]at hW;obtain ⟨ti,tz,hi,hzz,hs1,hz1,hby⟩:=PX
 go_enter Tryz.func33,Tryz.ntmps33
 go_wp2_with fail;refine (hW _).mono ?_;rintro _ w1 ⟨rfl,hb1⟩;replace Q:=Q.call hb1;replace hb:=aj hb hb1;clear hb1 hW;go_wp2_with fail
 go_loopw [4,18] (fun s4 XB wr=>∃k:Nat,k<=ms.length/\XB=.int .i64 k/\bD 51 2 (w.heap.size+1) k ((qs.take k).flatMap qp) s4 wr/\Bx wr w.heap.size 51 #[.string ⟨#[]⟩,.string ⟨#[]⟩]/\Below w.heap.size w wr) (fun _ XB _=>ms.length-(intOf XB).toNat)
 case atStart=>exact⟨0,Nat.zero_le _,rfl,.inl ⟨rfl,rfl,rfl⟩,Q,hb⟩
 case round =>
  clear Q hb;obtain ⟨k,hk,rfl,hrow,Q,hb⟩:=hrel;by_cases hlt:k<ms.length
  · have hkq:k<qs.length:=by omega
    obtain⟨b,off,rfl,hbB,hcell⟩:=hA (by omega);have hck:ms[k]? = some ms[k]:=List.getElem?_eq_getElem hlt;have hcl:=fun (j:Nat) u (hj:(iY ms[k])[j]? = some u)=>(hb.cell (p:=⟨b,off+k*10+j,none⟩) hbB).trans (hcell k _ hck j u hj)
    have hcl0:=hcl 0 _ rfl;have Rh:=hcl 1 _ rfl;have Rf:=hcl 2 _ rfl;have Q_:=hcl 3 _ rfl;have Q9:=hcl 4 _ rfl;have Q8:=hcl 5 _ rfl;have Q7:=hcl 6 _ rfl;have Q5:=hcl 7 _ rfl;have QY:=hcl 8 _ rfl;have QX:=hcl 9 _ rfl;simp only[Nat.add_zero]at hcl0;have hsu:=hS _ (List.getElem_mem hlt);clear hcl hck hcell;have hos:os[k]'(by omega)=some qs[k]:=by simp only[hos,List.getElem_map]
    obtain⟨hun,hbd⟩:=hB k hlt;rw [hos]at hun hbd;have hq:=hun _ rfl;obtain ⟨qa,qb,lq⟩:=LQ.ex qs[k];have hC:=fun W=>hbd W qa qb 0
    have hv:Pm ms[k]=.agg #[.int .i64 ms[k].s.kind,.int .i64 ms[k].s.n,.int .i64 ms[k].s.c,.int .i64 ms[k].s.e,.int .i64 ms[k].s.bT,.int .i64 ms[k].s.count,.slice ms[k].A ms[k].s.times.length ms[k].cap,.int .i64 ms[k].s.width,.int .i64 ms[k].s.things,.int .i64 ms[k].s.marked]:=rfl;rw [hv]at hC
    have hnx:Kp ((qs.take k).flatMap qp++[.string ⟨qa.toArray⟩,.string ⟨qb.toArray⟩]=(qs.take (k+1)).flatMap qp):=⟨by
     rw[List.take_add_one,List.getElem?_eq_getElem hkq,Option.toList_some,List.flatMap_append,List.flatMap_singleton,KQ lq]⟩
    have hob:OB (some qs[k]) qa qb 0:=.good hq lq;have hbs:=bNew hb (.cells #[.int .i64 ms[k].s.kind,.int .i64 ms[k].s.n,.int .i64 ms[k].s.c,.int .i64 ms[k].s.e,.int .i64 ms[k].s.bT,.int .i64 ms[k].s.count,.slice ms[k].A ms[k].s.times.length ms[k].cap,.int .i64 ms[k].s.width,.int .i64 ms[k].s.things,.int .i64 ms[k].s.marked] 39);have qj:=hC _ ((hsu.below hbs).more hbs.size) (hE.below hbs) hob;have hrow1:=dU _ _ _ _ _ _ _ _ hrow (au wr (.cells #[.int .i64 ms[k].s.kind,.int .i64 ms[k].s.n,.int .i64 ms[k].s.c,.int .i64 ms[k].s.e,.int .i64 ms[k].s.bT,.int .i64 ms[k].s.count,.slice ms[k].A ms[k].s.times.length ms[k].cap,.int .i64 ms[k].s.width,.int .i64 ms[k].s.things,.int .i64 ms[k].s.marked] 39));have S0:=Bx.mk wr 39 #[.int .i64 ms[k].s.kind,.int .i64 ms[k].s.n,.int .i64 ms[k].s.c,.int .i64 ms[k].s.e,.int .i64 ms[k].s.bT,.int .i64 ms[k].s.count,.slice ms[k].A ms[k].s.times.length ms[k].cap,.int .i64 ms[k].s.width,.int .i64 ms[k].s.things,.int .i64 ms[k].s.marked];obtain ⟨s0,s1,s2,s3,s4,s5,s6,s7,s8,s9⟩:=S0.p10;replace Q:=Q.new (.cells #[.int .i64 ms[k].s.kind,.int .i64 ms[k].s.n,.int .i64 ms[k].s.c,.int .i64 ms[k].s.e,.int .i64 ms[k].s.bT,.int .i64 ms[k].s.count,.slice ms[k].A ms[k].s.times.length ms[k].cap,.int .i64 ms[k].s.width,.int .i64 ms[k].s.things,.int .i64 ms[k].s.marked] 39);clear hC hbd hun hq hob lq hos hv hsu hB hA hS;generalize ms[k]=m at *;go_wp2_with fail;refine qj.mono ?_;rintro _ w1 ⟨rfl,hb1⟩;clear qj hcl0 Rh Rf Q_ Q9 Q8 Q7 Q5 QY QX s0 s1 s2 s3 s4 s5 s6 s7 s8 s9 S0;go_upto_region 10 with fail;have B1:=Bx.mk w1 51 #[.string ⟨qa.toArray⟩,.string ⟨qb.toArray⟩];have hbn:=bNew (aj hbs hb1) (.cells #[.string ⟨qa.toArray⟩,.string ⟨qb.toArray⟩] 51);have hrow2:=dU _ _ _ _ _ _ _ _ (dU _ _ _ _ _ _ _ _ hrow1 hb1) (au w1 (.cells #[.string ⟨qa.toArray⟩,.string ⟨qb.toArray⟩] 51));replace Q:=(Q.call hb1).new (.cells #[.string ⟨qa.toArray⟩,.string ⟨qb.toArray⟩] 51);have hQl:=Q.lt;generalize w1.alloc (.cells #[.string ⟨qa.toArray⟩,.string ⟨qb.toArray⟩] 51)=w2 at *;generalize w1.heap.size=g1 at *;have c0:=B1.cell 0 rfl;have c1:=B1.cell 1 rfl;have hsrc:=cO.src (P:=Tryz.prog) (B:=w2.heap.size) (cap:=1) (e:=51) (size:=2) (t:=93) (fun u hu=>by simp at hu;rcases hu with rfl|rfl <;> rfl) Tryz.underlying93 (show cO 51 2 w2.heap.size 1 1 [.string ⟨qa.toArray⟩,.string ⟨qb.toArray⟩] (.slice (some ⟨w2.heap.size,0,none⟩) 1 1) (w2.alloc (.cells #[.string ⟨qa.toArray⟩,.string ⟨qb.toArray⟩] 51)) from ⟨_,_,rfl,Nat.le_refl _,Nat.le_refl _,Bx.mk _ _ _,rfl,rfl⟩);have hrow3:=dU _ _ _ _ _ _ _ _ hrow2 (au w2 (.cells #[.string ⟨qa.toArray⟩,.string ⟨qb.toArray⟩] 51));have hbm:=bNew hbn (.cells #[.string ⟨qa.toArray⟩,.string ⟨qb.toArray⟩] 51);replace Q:=Q.new (.cells #[.string ⟨qa.toArray⟩,.string ⟨qb.toArray⟩] 51);have hsz:w.heap.size+1<=(w2.alloc (.cells #[.string ⟨qa.toArray⟩,.string ⟨qb.toArray⟩] 51)).heap.size:=Q.lt
    have fin:∀v' w',Below (w.heap.size+1) (w2.alloc (.cells #[.string ⟨qa.toArray⟩,.string ⟨qb.toArray⟩] 51)) w'->bD 51 2 (w.heap.size+1) (k+1) ((qs.take k).flatMap qp++[.string ⟨qa.toArray⟩,.string ⟨qb.toArray⟩]) v' w'->bD 51 2 (w.heap.size+1) (k+1) ((qs.take (k+1)).flatMap qp) v' w'/\Bx w' w.heap.size 51 #[.string ⟨#[]⟩,.string ⟨#[]⟩]/\Below w.heap.size w w':=fun v' w' h1 h2=>by
     rw[hnx.out]at h2;exact ⟨h2,Q.below h1 (by omega),hbm.trans (h1.mono (by omega))⟩
    go_wp2_with (at_builtin;refine eF rfl (.tmp 31) (.tmp 33) 93 51 rfl ti tz 2 (w.heap.size+1) k 1 ((qs.take k).flatMap qp) [.string ⟨qa.toArray⟩,.string ⟨qb.toArray⟩] _ _ Tryz.underlying93 hi hzz hs1 hz1 rfl rfl hrow3 hsz hsrc (by omega) (by unfold maxLen;omega) (by rw[hby];omega) ?_;intro v' w' e1 e2;obtain⟨f1,f2,f3⟩:=fin _ _ e1 e2)
    exact⟨⟨k+1,by omega,by go_num,f1,f2,f3⟩,by simp[intOf];omega⟩
  · obtain rfl:k=ms.length:=by omega
    rw[←AO,List.take_length]at hrow;obtain ⟨C,cc,rfl,hC,hcc,hcm⟩:=bD.at (f:=qp) (p:=qs) PW hrow;have hE1:=hE.below hb;have hL:=JU qs C cc la lb wr (VD hC) hcc (by omega) (by omega) (fun q hq=>(hun q hq).1) lm hE1;rw [AO]at hL;clear hB hA hS hrow hos hC hE1;go_wp2_with fail;refine hL.mono ?_;rintro _ w1 ⟨rfl,hb1⟩;replace Q:=(Q.call hb1).new (.cells #[.string ⟨la.toArray⟩,.string ⟨lb.toArray⟩] 51);have M:=Bx.mk w1 51 #[.string ⟨la.toArray⟩,.string ⟨lb.toArray⟩];replace hb:=bNew (aj hb hb1) (.cells #[.string ⟨la.toArray⟩,.string ⟨lb.toArray⟩] 51);have hR:=Jj la lb ms.length 1 _ _ hl1 aag (Nat.le_refl _) (Tz M);clear hL hb1;go_wp2_with fail;refine hR.mono ?_;rintro _ w2 ⟨⟨A',rfl,hA'⟩,hb2⟩;replace Q:=Q.call hb2;replace hb:=aj hb hb2
    have hK:aW 60 #[.slice A' ms.length ms.length] w2 (.tuple #[.agg #[.string ⟨xa.toArray⟩,.string ⟨xb.toArray⟩],.int .i64 tc]):=by
     rcases hw2.out with ⟨r,hc,lr,rfl,rfl⟩|⟨hc,rfl,rfl,rfl,rfl⟩
     · exact NZ A' w2 lm hA' (by omega) hmu hc lr (hE.below hb)
     · exact EO A' w2 lm hA' (by omega) hmu hc (hE.below hb)
    clear hR hb2 M hmu hun;go_wp2_with fail;refine hK.mono ?_;rintro _ w3 ⟨rfl,hb3⟩;replace Q:=(Q.call hb3).new (.cells #[.string ⟨xa.toArray⟩,.string ⟨xb.toArray⟩] 51);have Z:=Bx.mk w3 51 #[.string ⟨xa.toArray⟩,.string ⟨xb.toArray⟩];replace hb:=bNew (aj hb hb3) (.cells #[.string ⟨xa.toArray⟩,.string ⟨xb.toArray⟩] 51);have z0:=Z.cell 0 rfl;have z1:=Z.cell 1 rfl;have q0:=Q.cell 0 rfl;have q1:=Q.cell 1 rfl;have f0:=Q.frozen 0;have f1:=Q.frozen 1;clear hK hb3
    rcases hw2.out with ⟨r,-,-,rfl,rfl⟩|⟨-,rfl,rfl,rfl,rfl⟩
    · clear hw2;go_wp2;exact bodyPost_ret (aU rfl _ _ rfl rfl ((Q.set 0 (.string ⟨xa.toArray⟩)).set 1 (.string ⟨xb.toArray⟩))) rfl ⟨rfl,aJ (aJ hb (p:=⟨w.heap.size,0,none⟩) (Nat.le_refl _) _) (p:=⟨w.heap.size,1,none⟩) (Nat.le_refl _) _⟩
    · clear hw2;go_wp2;exact bodyPost_ret (aU rfl _ _ rfl rfl ((Q.set 0 (.string ⟨#[]⟩)).set 1 (.string ⟨#[]⟩))) rfl ⟨rfl,aJ (aJ hb (p:=⟨w.heap.size,0,none⟩) (Nat.le_refl _) _) (p:=⟨w.heap.size,1,none⟩) (Nat.le_refl _) _⟩
theorem sN (ms:List fM) (os:List (Option Rat)) (A:Option Addr) (cap:Nat) (w:World) (hlen:os.length=ms.length) (hB:∀(i:Nat) (h:i<ms.length),OD 36 ms[i] (os[i]'(by omega))) (hA:At 10 iY w w.heap.size A ms) (hS:∀m∈ms,nI w w.heap.size m) (hn:ms.length<=cap) (hl:ms.length<=9223372036854775807) (hE:Env w) (h:Tp.within (ms.length:Int) 1 10=true) (qs:List Rat) (hos:os=qs.map some) (r:Rat) (xa xb:List UInt8) (hc:comb (List.replicate ms.length (Tf.iT qs))=some r) (lr:LQ (uo r) xa xb) :
 aW 33 #[.slice A ms.length cap] w (.tuple #[.agg #[.string ⟨xa.toArray⟩,.string ⟨xb.toArray⟩],.int .i64 0]):=uI ms os A cap w hlen hB hA hS hn hl hE h qs hos xa xb 0 0 ⟨.inl ⟨r,hc,lr,rfl,rfl⟩⟩
theorem sK (ms:List fM) (os:List (Option Rat)) (A:Option Addr) (cap:Nat) (w:World) (hlen:os.length=ms.length) (hB:∀(i:Nat) (h:i<ms.length),OD 36 ms[i] (os[i]'(by omega))) (hA:At 10 iY w w.heap.size A ms) (hS:∀m∈ms,nI w w.heap.size m) (hn:ms.length<=cap) (hl:ms.length<=9223372036854775807) (hE:Env w) (h:Tp.within (ms.length:Int) 1 10=true) (qs:List Rat) (hos:os=qs.map some) (hc:comb (List.replicate ms.length (Tf.iT qs))=none) :
 aW 33 #[.slice A ms.length cap] w (.tuple #[.agg #[.string ⟨#[]⟩,.string ⟨#[]⟩],.int .i64 360]):=uI ms os A cap w hlen hB hA hS hn hl hE h qs hos [] [] 350 360 ⟨.inr ⟨hc,rfl,rfl,rfl,rfl⟩⟩
theorem DX (ms:List fM) (os:List (Option Rat)) (A:Option Addr) (cap:Nat) (w:World) (hlen:os.length=ms.length) (hB:∀(i:Nat) (h:i<ms.length),OD 36 ms[i] (os[i]'(by omega))) (hA:At 10 iY w w.heap.size A ms) (hS:∀m∈ms,nI w w.heap.size m) (hn':ms.length<=cap) (hl:ms.length<=9223372036854775807) (hE:Env w) (ra rb:List UInt8) (code:Int) (ho:OB (iW os) ra rb code) :
 aW 33 #[.slice A ms.length cap] w (.tuple #[.agg #[.string ⟨ra.toArray⟩,.string ⟨rb.toArray⟩],.int .i64 code]):=by
 cases h:Tp.within (ms.length:Int) 1 10 with
 | false =>
  have hn:iW os=none:=by
   by_cases hm:none∈os
   · exact Ce hm
   · obtain⟨qs,rfl⟩:=KW hm;rw [iK]
     unfold Tf.sO
     rw[if_neg];intro hc;rw [List.length_map]at hlen;have:Tp.within (ms.length:Int) 1 10=true:=Tp.within_iff.2 ⟨by omega,by omega⟩;rw [h]at this;cases this
  rw[hn]at ho;cases ho
  exact DV ms os A cap w hlen hB hA hS hn' hl hE h
 | true =>
  obtain⟨h1,h2⟩:=Tp.within_iff.1 h
  rcases Qb os with ⟨qs,rfl⟩|⟨qs,os',rfl⟩
  · have AO:qs.length=ms.length:=by rw[←hlen,List.length_map]
    rw[iK]at ho
    unfold Tf.sO at ho
    rw[if_pos ⟨by omega,by omega⟩,AO]at ho
    cases hc:comb (List.replicate ms.length (Tf.iT qs)) with
    | none =>
     rw[hc]at ho;cases ho
     exact sK ms _ A cap w hlen hB hA hS hn' hl hE h qs rfl hc
    | some r =>
     rw[hc]at ho
     cases ho with
     | good hu lq=>exact sN ms _ A cap w hlen hB hA hS hn' hl hE h qs rfl r _ _ hc lq
  · rw[Ce (by simp)]at ho;cases ho
    exact DW ms _ A cap w hlen hB hA hS hn' hl hE h qs os' rfl
theorem Nh (m:fM) (g:Nat) (number:Int) (w:World) (hB:Bx w g 3 #[.int .i64 number]) :
 aW 81 #[Pm m,.pointer (some ⟨g,0,none⟩)] w (.bool (!(m.s.n==number))):=by
 unfold Pm
 have hb:=au w (.cells #[.int .i64 m.s.kind,.int .i64 m.s.n,.int .i64 m.s.c,.int .i64 m.s.e,.int .i64 m.s.bT,.int .i64 m.s.count,.slice m.A m.s.times.length m.cap,.int .i64 m.s.width,.int .i64 m.s.things,.int .i64 m.s.marked] 39);have B:=Bx.mk w 39 #[.int .i64 m.s.kind,.int .i64 m.s.n,.int .i64 m.s.c,.int .i64 m.s.e,.int .i64 m.s.bT,.int .i64 m.s.count,.slice m.A m.s.times.length m.cap,.int .i64 m.s.width,.int .i64 m.s.things,.int .i64 m.s.marked];have c1:=B.cell 1 rfl;have g0:=(hB.call hb).cell 0 rfl;clear B hB
 go_enter Tryz.func81,Tryz.ntmps81
 go_wp2;go_ret;exact ⟨by first|rfl|simp,hb⟩
theorem PD (ms:List fM) (A:Option Addr) (cap g:Nat) (number:Int) (w:World) (hA:At 10 iY w w.heap.size A ms) (hn:ms.length<=cap) (hl:ms.length<=9223372036854775807) (hB:Bx w g 3 #[.int .i64 number]) :
 aW 121 #[.slice A ms.length cap,.func (.func 81) #[] #[.pointer (some ⟨g,0,none⟩)]] w (.int .i64 (qw (fun m=> !(m.s.n==number)) ms)):=by
 obtain⟨f,hf⟩:∃f:fM->Bool,f=fun m=> !(m.s.n==number):=⟨_,rfl⟩
 have hp:=fun (m:fM) W (h:Below w.heap.size w W)=>Nh m g number W (hB.below h hB.lt)
 have hp':∀(m:fM) W,Below w.heap.size w W->aW 81 #[Pm m,.pointer (some ⟨g,0,none⟩)] W (.bool (f m)):=by rw[hf];exact hp
 rw[←hf];clear hp hf
 go_enter Tryz.func121,Tryz.ntmps121
 go_wp2
 go_loopw [8] (fun s8 wr=>∃k:Nat,k<=ms.length/\s8=.int .i64 k/\Kp (∀(j:Nat) (hj:j<ms.length),j<k->f ms[j]=false)/\Below w.heap.size w wr) (fun s8 _=>ms.length-(intOf s8).toNat)
 case atStart=>exact⟨0,Nat.zero_le _,rfl,⟨fun j hj h=>by omega⟩,gq _⟩
 case round =>
  obtain⟨k,hk,rfl,hno,hb⟩:=hrel;by_cases hlt:k<ms.length
  · obtain⟨b,off,rfl,hbB,hcell⟩:=hA (by omega);have hck:ms[k]? = some ms[k]:=List.getElem?_eq_getElem hlt;have hcl:=fun (j:Nat) u (hj:(iY ms[k])[j]? = some u)=>(hb.cell (p:=⟨b,off+k*10+j,none⟩) hbB).trans (hcell k _ hck j u hj)
    have hcl0:=hcl 0 _ rfl;have Rh:=hcl 1 _ rfl;have Rf:=hcl 2 _ rfl;have Q_:=hcl 3 _ rfl;have Q9:=hcl 4 _ rfl;have Q8:=hcl 5 _ rfl;have Q7:=hcl 6 _ rfl;have Q5:=hcl 7 _ rfl;have QY:=hcl 8 _ rfl;have QX:=hcl 9 _ rfl;simp only[Nat.add_zero]at hcl0;have hP:=hp' ms[k] wr hb
    unfold Pm at hP
    have hh:=fun (h:f ms[k]=true)=>Eu hlt h (fun j hj=>hno.out j (by omega) hj)
    have hnx:Kp (f ms[k]=false->∀(j:Nat) (hj:j<ms.length),j<k+1->f ms[j]=false):=⟨fun h j hj hjk=>by
     rcases Nat.lt_or_ge j k with h1|h1
     · exact hno.out j hj h1
     · obtain rfl:j=k:=by omega
       exact h⟩
    have hfin:Kp (f ms[k]=true->qw f ms=k):=⟨hh⟩
    clear hcell hA hck hno hh hp' hcl;generalize f ms[k]=t at *;generalize ms[k]=x at *;cases t
    · go_wp2_with (refine hP.mono ?_;rintro _ w1 ⟨rfl,hb1⟩;clear hP)
      exact⟨⟨k+1,by omega,by go_num,⟨by first|exact hnx.out rfl|exact hnx.out trivial⟩,aj hb hb1⟩,by simp[intOf];omega⟩
    · go_wp2_with (refine hP.mono ?_;rintro _ w1 ⟨rfl,hb1⟩;clear hP)
      go_ret;exact ⟨cu (by first|exact (hfin.out rfl).symm|exact (hfin.out trivial).symm),aj hb hb1⟩
  · have hfin:Kp (qw f ms= -1):=⟨zH fun j hj=>hno.out j hj (by omega)⟩
    clear hno hp';go_wp2;go_ret;exact ⟨cu hfin.out.symm,hb⟩
theorem PG (ms:List fM) (A:Option Addr) (cap g:Nat) (number:Int) (w:World) (hA:At 10 iY w w.heap.size A ms) (hn:ms.length<=cap) (hl:ms.length<=9223372036854775807) (hB:Bx w g 3 #[.int .i64 number]) :
 aW 82 #[.slice A ms.length cap,.func (.func 81) #[] #[.pointer (some ⟨g,0,none⟩)]] w (.bool (ms.any fun m=> !(m.s.n==number))):=by
 have hI:=PD ms A cap g number w hA hn hl hB;have hd:=Ew (fun m:fM=> !(m.s.n==number)) ms;generalize qw (fun m:fM=> !(m.s.n==number)) ms=i at *;generalize (ms.any fun m=> !(m.s.n==number))=r at *;clear hA hB;by_cases h:0<=i
 all_goals
  have t0:decide (0<=i)=r:=hd;first|rw[decide_eq_true h]at t0|rw[decide_eq_false h]at t0
  subst t0;clear hd
  go_enter Tryz.func82,Tryz.ntmps82
  go_wp2_with (go_at_call 121;refine hI.mono ?_;rintro _ w1 ⟨rfl,hb1⟩;clear hI)
  go_ret;exact ⟨aH (by simp <;> omega),hb1⟩
def L_ (ms:List fM) (number:Int):Bool:= !(ms.any fun m=> !(m.s.n==number))
structure AQ (ms:List fM) (os:List (Option Rat)):Prop where
 sO:∀(A:Option Addr) (cap:Nat) (w:World) (ra rb:List UInt8) (code:Int),At 10 iY w w.heap.size A ms->(∀m∈ms,nI w w.heap.size m)->ms.length<=cap->ms.length<=9223372036854775807->Env w->OB (iW os) ra rb code ->
  aW 33 #[.slice A ms.length cap] w (.tuple #[.agg #[.string ⟨ra.toArray⟩,.string ⟨rb.toArray⟩],.int .i64 code])
theorem AQ.gen {ms:List fM} {os:List (Option Rat)} (hlen:os.length=ms.length) (hB:∀(i:Nat) (h:i<ms.length),OD 36 ms[i] (os[i]'(by omega))):AQ ms os :=
 ⟨fun A cap w ra rb code h1 h2 h3 h4 h5 ho=>DX ms os A cap w hlen hB h1 h2 h3 h4 h5 ra rb code ho⟩
theorem AQ.all {ms:List fM} (qs:List Rat) (hlen:qs.length=ms.length) (hm:1<=ms.length/\ms.length<=10) (hB:∀(i:Nat) (h:i<ms.length),OD 36 ms[i] ((qs.map some)[i]'(by rw[List.length_map];omega))):AQ ms (qs.map some) :=
 ⟨fun A cap w ra rb code h1 h2 h3 h4 h5 ho=>by
  have hlen':(qs.map some).length=ms.length:=by rw[List.length_map];exact hlen
  have hw:Tp.within (ms.length:Int) 1 10=true:=Tp.within_iff.2 ⟨by omega,by omega⟩;rw [iK]at ho
  unfold Tf.sO at ho
  rw[if_pos ⟨by omega,by omega⟩,hlen]at ho
  cases hc:comb (List.replicate ms.length (Tf.iT qs)) with
  | none =>
   rw[hc]at ho;cases ho
   exact sK ms _ A cap w hlen' hB h1 h2 h3 h4 h5 hw qs rfl hc
  | some r =>
   rw[hc]at ho
   cases ho with
   | good hu lq=>exact sN ms _ A cap w hlen' hB h1 h2 h3 h4 h5 hw qs rfl r _ _ hc lq⟩
structure AU (w:World) (A:Option Addr) (cap:Nat) (ms:List fM):Prop where
 at_:At 10 iY w w.heap.size A ms
 each:∀m∈ms,nI w w.heap.size m
 cap:ms.length<=cap
 len:ms.length<=9223372036854775807
theorem AU.call {w w':World} {A:Option Addr} {cap:Nat} {ms:List fM} (h:AU w A cap ms) (hb:Below w.heap.size w w'):AU w' A cap ms:=⟨h.at_.call hb,fun m hm=>(h.each m hm).call hb,h.cap,h.len⟩
def BoQ (g:Nat) (a b:List UInt8):RS.Rl:=fun _ _ w=>Bx w g 51 #[.string ⟨a.toArray⟩,.string ⟨b.toArray⟩]
theorem FQ (B g:Nat) (a b:List UInt8) (h:B<=g):RS.eP (RS.KF B 51 #[.string ⟨a.toArray⟩,.string ⟨b.toArray⟩]) (BoQ g a b):=fun x v w w' hB hK=>by
 rcases hK.2.2 g _ h hB rfl with h|h <;> exact h
theorem pI (ms:List fM) (os:List (Option Rat)) (A:Option Addr) (cap:Nat) (number:Int) (w:World) (hL:AQ ms os) (hA:AU w A cap ms) (hE:Env w) (ra rb:List UInt8) (code:Int) (ho:OB (iW os) ra rb code) :
 aW 54 #[.slice A ms.length cap,.int .i64 number] w (.tuple #[.agg #[.string ⟨ra.toArray⟩,.string ⟨rb.toArray⟩],.bool ((iW os).isSome&&L_ ms number)]):=by
 have hb:=bNew (au w (.cells #[.int .i64 number] 3)) (.cells #[.string ⟨#[]⟩,.string ⟨#[]⟩] 51);have N:=(Bx.mk w 3 #[.int .i64 number]).new (.cells #[.string ⟨#[]⟩,.string ⟨#[]⟩] 51);have Q:=Bx.mk (w.alloc (.cells #[.int .i64 number] 3)) 51 #[.string ⟨#[]⟩,.string ⟨#[]⟩];rw [ah]at Q;have hA1:=hA.call hb;have hT:=hL.sO A cap _ ra rb code hA1.at_ hA1.each hA.cap hA.len (hE.below hb) ho
 have jA:(code=0/\Kp (((iW os).isSome&&L_ ms number)=L_ ms number))∨((code==0)=false/\Kp (((iW os).isSome&&L_ ms number)=false)):=by
  generalize iW os=o at *
  cases ho with
  | good hu lq=>exact .inl ⟨rfl,⟨by simp⟩⟩
  | bad=>exact .inr ⟨rfl,⟨by simp⟩⟩
 generalize ((iW os).isSome&&L_ ms number)=res at *
 rcases jA with ⟨rfl,hd⟩|⟨h0,hd⟩
 · go_enter Tryz.func54,Tryz.ntmps54
   go_wp2_with fail;refine hT.mono ?_;rintro _ w1 ⟨rfl,hb1⟩;clear hT;replace N:=(N.call hb1).new (.cells #[.string ⟨ra.toArray⟩,.string ⟨rb.toArray⟩] 51);replace Q:=(Q.call hb1).new (.cells #[.string ⟨ra.toArray⟩,.string ⟨rb.toArray⟩] 51);have Z:=Bx.mk w1 51 #[.string ⟨ra.toArray⟩,.string ⟨rb.toArray⟩];replace hb:=bNew (aj hb hb1) (.cells #[.string ⟨ra.toArray⟩,.string ⟨rb.toArray⟩] 51)
   have hgz:w.heap.size+1<=w1.heap.size:=by
    have h1:=hb1.size;simp only[ah,World.size_alloc]at h1;omega
   clear hA1 hb1;go_upto_region 3 with fail;generalize w1.alloc (.cells #[.string ⟨ra.toArray⟩,.string ⟨rb.toArray⟩] 51)=W0 at *;generalize w1.heap.size=gz at *;have hgq:=Q.lt;have kC:=fun W (h:Below (w.heap.size+1) W0 W)=>PG ms A cap w.heap.size number W ((hA.at_.below (hb.trans (h.mono (by omega)))).more (Nat.le_trans hb.size (by have:=h.size;exact this))) hA.cap hA.len (N.below h (by omega))
   have hab:Kp (L_ ms number= !(ms.any fun m=> !(m.s.n==number))):=⟨rfl⟩
   generalize (ms.any fun m=> !(m.s.n==number))=t at *;refine RS.aA (RS.xC (w.heap.size+1) 51 #[.string ⟨ra.toArray⟩,.string ⟨rb.toArray⟩]) [] [RS.ak (.agg #[.string ⟨ra.toArray⟩,.string ⟨rb.toArray⟩]),RS.ak (.int .i64 0),RS.ak (.bool true),RS.ak (.bool true),RS.ak (.slice A ms.length cap),RS.ak (.func (.func 81) #[] #[.pointer (some ⟨w.heap.size,0,none⟩)]),RS.ak (.bool t),RS.ak (.bool (!t)),RS.ak (.bool (!t)),BoQ (w.heap.size+1) ra rb,RS.ak (.bool (!t))] 11 24 (by kernel_rfl) rfl rfl (by kernel_rfl) (by kernel_rfl) ?_ ?_ ?_
   · simp only[RS.bV]
     and_intros <;> first|exact RS.aF _|exact FQ _ _ _ _ (Nat.le_refl _)|trivial
   · simp only[RS.bG,List.take,List.length];refine ⟨?_,?_,?_,?_,?_,?_,?_,?_,?_,?_,?_,trivial⟩;all_goals (intro vs w2 hb2 hd;simp only[RS.aQ,Act.put,List.nil_append,List.cons_append,List.setIfInBounds_toArray,List.set_cons_succ,List.set_cons_zero,Nat.reduceAdd];clear hA hL)
     · have Z2:Bx w2 gz 51 #[.string ⟨ra.toArray⟩,.string ⟨rb.toArray⟩]:=by rcases hb2.2.2 gz _ hgz Z rfl with h|h <;> exact h
       have z0:=Z2.cell 0 rfl;have z1:=Z2.cell 1 rfl;clear hd;go_wp2;first|exact⟨RS.KF.rf _ _ _ _,rfl⟩|exact⟨RS.KF.rf _ _ _ _,by simp[RS.ak]⟩|(simp [RS.ak])
     · clear hd;go_wp2;first|exact⟨RS.KF.rf _ _ _ _,rfl⟩|exact⟨RS.KF.rf _ _ _ _,by simp[RS.ak]⟩|(simp [RS.ak])
     · have e0:vs 1=_:=hd 1 rfl;clear hd;rw[e0];go_wp2;first|exact⟨RS.KF.rf _ _ _ _,rfl⟩|exact⟨RS.KF.rf _ _ _ _,by simp[RS.ak]⟩|(simp [RS.ak])
     · have e0:vs 2=_:=hd 2 rfl;clear hd;rw[e0];go_wp2;first|exact⟨RS.KF.rf _ _ _ _,rfl⟩|exact⟨RS.KF.rf _ _ _ _,by simp[RS.ak]⟩|(simp [RS.ak])
     · have e0:vs 3=_:=hd 3 rfl;clear hd;rw[e0];go_wp2;first|exact⟨RS.KF.rf _ _ _ _,rfl⟩|exact⟨RS.KF.rf _ _ _ _,by simp[RS.ak]⟩|(simp [RS.ak])
     · have e0:vs 3=_:=hd 3 rfl;clear hd;rw[e0];go_wp2;first|exact⟨RS.KF.rf _ _ _ _,rfl⟩|exact⟨RS.KF.rf _ _ _ _,by simp[RS.ak]⟩|(simp [RS.ak])
     · have e0:vs 3=_:=hd 3 rfl;have e1:vs 4=_:=hd 4 rfl;have e2:vs 5=_:=hd 5 rfl;have hC:=kC w2 hb2.1;clear hd;rw[e0,e1,e2];go_wp2_with fail;refine hC.mono ?_;rintro _ w9 ⟨rfl,aY⟩;clear hC;go_wp2;first|exact⟨hb2.call (by omega) aY,rfl⟩|exact hb2.call (by omega) aY
     · have e0:vs 3=_:=hd 3 rfl;have e1:vs 6=_:=hd 6 rfl;clear hd;rw[e0,e1];go_wp2;first|exact⟨RS.KF.rf _ _ _ _,rfl⟩|exact⟨RS.KF.rf _ _ _ _,by simp[RS.ak]⟩|(simp [RS.ak])
     · have e0:vs 3=_:=hd 3 rfl;have e1:vs 7=_:=hd 7 rfl;clear hd;rw[e0,e1];go_wp2;first|exact⟨RS.KF.rf _ _ _ _,rfl⟩|exact⟨RS.KF.rf _ _ _ _,by simp[RS.ak]⟩|(simp [RS.ak])
     · have e0:vs 0=_:=hd 0 rfl;obtain⟨Q2,hQ2⟩:∃c:Array Value,Bx w2 (w.heap.size+1) 51 c/\c.size=2:=by
        rcases hb2.2.2 _ _ (Nat.le_refl _) Q rfl with h|h
        · exact⟨_,h,rfl⟩
        · exact⟨_,h,rfl⟩
       obtain⟨hQ2,hs2⟩:=hQ2;obtain ⟨a',b',rfl⟩:=RS.Cb hs2;have q0:=hQ2.cell 0 rfl;have q1:=hQ2.cell 1 rfl;have q2:=hQ2.frozen 0;have q3:=hQ2.frozen 1;obtain ⟨hK,-⟩:=RS.KF.store2 (x:=.string ⟨ra.toArray⟩) (y:=.string ⟨rb.toArray⟩) (Nat.le_refl _) hQ2 (.pointer (some ⟨w.heap.size+1,0,none⟩)) rfl undef;have hBQ:BoQ (w.heap.size+1) ra rb undef undef _:=(hQ2.set 0 (.string ⟨ra.toArray⟩)).set 1 (.string ⟨rb.toArray⟩);clear hd;rw[e0];go_wp2;first|exact⟨hK,hBQ⟩|exact hBQ
     · have e0:vs 8=_:=hd 8 rfl;clear hd;rw[e0];go_wp2;first|exact⟨RS.KF.rf _ _ _ _,rfl⟩|exact⟨RS.KF.rf _ _ _ _,by simp[RS.ak]⟩|(simp [RS.ak])
   · intro vs wa hba hR2;simp only[RS.cZ,RS.ak]at hR2;obtain ⟨e0,e1,e2,e3,e4,e5,e6,e7,e8,e9,e10,-⟩:=hR2;simp only[List.drop,List.take,List.map,RS.aQ,Act.put,List.setIfInBounds_toArray,List.set_cons_succ,List.set_cons_zero,Nat.reduceAdd];rw [e0,e1,e2,e3,e4,e5,e6,e7,e8,e10];have B9:Bx wa (w.heap.size+1) 51 #[.string ⟨ra.toArray⟩,.string ⟨rb.toArray⟩]:=e9;have aY:=hb.trans (hba.1.mono (Nat.le_succ _));clear e0 e1 e2 e3 e4 e5 e6 e7 e8 e9 e10;go_wp2;obtain rfl:=hd.out.trans hab.out;exact bodyPost_ret (aU rfl _ _ rfl rfl B9) rfl ⟨rfl,aY⟩
 · go_enter Tryz.func54,Tryz.ntmps54
   go_wp2_with fail;refine hT.mono ?_;rintro _ w1 ⟨rfl,hb1⟩;clear hT;replace N:=(N.call hb1).new (.cells #[.string ⟨ra.toArray⟩,.string ⟨rb.toArray⟩] 51);replace Q:=(Q.call hb1).new (.cells #[.string ⟨ra.toArray⟩,.string ⟨rb.toArray⟩] 51);have Z:=Bx.mk w1 51 #[.string ⟨ra.toArray⟩,.string ⟨rb.toArray⟩];replace hb:=bNew (aj hb hb1) (.cells #[.string ⟨ra.toArray⟩,.string ⟨rb.toArray⟩] 51)
   have hgz:w.heap.size+1<=w1.heap.size:=by
    have h1:=hb1.size;simp only[ah,World.size_alloc]at h1;omega
   clear hA1 hb1;go_upto_region 3 with fail;generalize w1.alloc (.cells #[.string ⟨ra.toArray⟩,.string ⟨rb.toArray⟩] 51)=W0 at *;generalize w1.heap.size=gz at *;have hgq:=Q.lt;refine RS.aA (RS.xC (w.heap.size+1) 51 #[.string ⟨ra.toArray⟩,.string ⟨rb.toArray⟩]) [] [RS.ak (.agg #[.string ⟨ra.toArray⟩,.string ⟨rb.toArray⟩]),RS.ak (.int .i64 code),RS.ak (.bool false),RS.ak (.bool false),RS.ak undef,RS.ak undef,RS.ak undef,RS.ak undef,RS.ak (.bool false),BoQ (w.heap.size+1) ra rb,RS.ak (.bool false)] 11 24 (by kernel_rfl) rfl rfl (by kernel_rfl) (by kernel_rfl) ?_ ?_ ?_
   · simp only[RS.bV]
     and_intros <;> first|exact RS.aF _|exact FQ _ _ _ _ (Nat.le_refl _)|trivial
   · simp only[RS.bG,List.take,List.length];refine ⟨?_,?_,?_,?_,?_,?_,?_,?_,?_,?_,?_,trivial⟩;all_goals (intro vs w2 hb2 hd;simp only[RS.aQ,Act.put,List.nil_append,List.cons_append,List.setIfInBounds_toArray,List.set_cons_succ,List.set_cons_zero,Nat.reduceAdd];clear hA hL)
     · have Z2:Bx w2 gz 51 #[.string ⟨ra.toArray⟩,.string ⟨rb.toArray⟩]:=by rcases hb2.2.2 gz _ hgz Z rfl with h|h <;> exact h
       have z0:=Z2.cell 0 rfl;have z1:=Z2.cell 1 rfl;clear hd;go_wp2;first|exact⟨RS.KF.rf _ _ _ _,rfl⟩|exact⟨RS.KF.rf _ _ _ _,by simp[RS.ak]⟩|(simp [RS.ak])
     · clear hd;go_wp2;first|exact⟨RS.KF.rf _ _ _ _,rfl⟩|exact⟨RS.KF.rf _ _ _ _,by simp[RS.ak]⟩|(simp [RS.ak])
     · have e0:vs 1=_:=hd 1 rfl;clear hd;rw[e0];go_wp2;first|exact⟨RS.KF.rf _ _ _ _,rfl⟩|exact⟨RS.KF.rf _ _ _ _,by simp[RS.ak]⟩|(simp [RS.ak])
     · have e0:vs 2=_:=hd 2 rfl;clear hd;rw[e0];go_wp2;first|exact⟨RS.KF.rf _ _ _ _,rfl⟩|exact⟨RS.KF.rf _ _ _ _,by simp[RS.ak]⟩|(simp [RS.ak])
     · have e0:vs 3=_:=hd 3 rfl;clear hd;rw[e0];go_wp2;first|exact⟨RS.KF.rf _ _ _ _,rfl⟩|exact⟨RS.KF.rf _ _ _ _,by simp[RS.ak]⟩|(simp [RS.ak])
     · have e0:vs 3=_:=hd 3 rfl;clear hd;rw[e0];go_wp2;first|exact⟨RS.KF.rf _ _ _ _,rfl⟩|exact⟨RS.KF.rf _ _ _ _,by simp[RS.ak]⟩|(simp [RS.ak])
     · have e0:vs 3=_:=hd 3 rfl;clear hd;rw[e0];go_wp2;first|exact⟨RS.KF.rf _ _ _ _,rfl⟩|exact⟨RS.KF.rf _ _ _ _,by simp[RS.ak]⟩|(simp [RS.ak])
     · have e0:vs 3=_:=hd 3 rfl;clear hd;rw[e0];go_wp2;first|exact⟨RS.KF.rf _ _ _ _,rfl⟩|exact⟨RS.KF.rf _ _ _ _,by simp[RS.ak]⟩|(simp [RS.ak])
     · have e0:vs 3=_:=hd 3 rfl;clear hd;rw[e0];go_wp2;first|exact⟨RS.KF.rf _ _ _ _,rfl⟩|exact⟨RS.KF.rf _ _ _ _,by simp[RS.ak]⟩|(simp [RS.ak])
     · have e0:vs 0=_:=hd 0 rfl;obtain⟨Q2,hQ2⟩:∃c:Array Value,Bx w2 (w.heap.size+1) 51 c/\c.size=2:=by
        rcases hb2.2.2 _ _ (Nat.le_refl _) Q rfl with h|h
        · exact⟨_,h,rfl⟩
        · exact⟨_,h,rfl⟩
       obtain⟨hQ2,hs2⟩:=hQ2;obtain ⟨a',b',rfl⟩:=RS.Cb hs2;have q0:=hQ2.cell 0 rfl;have q1:=hQ2.cell 1 rfl;have q2:=hQ2.frozen 0;have q3:=hQ2.frozen 1;obtain ⟨hK,-⟩:=RS.KF.store2 (x:=.string ⟨ra.toArray⟩) (y:=.string ⟨rb.toArray⟩) (Nat.le_refl _) hQ2 (.pointer (some ⟨w.heap.size+1,0,none⟩)) rfl undef;have hBQ:BoQ (w.heap.size+1) ra rb undef undef _:=(hQ2.set 0 (.string ⟨ra.toArray⟩)).set 1 (.string ⟨rb.toArray⟩);clear hd;rw[e0];go_wp2;first|exact⟨hK,hBQ⟩|exact hBQ
     · have e0:vs 8=_:=hd 8 rfl;clear hd;rw[e0];go_wp2;first|exact⟨RS.KF.rf _ _ _ _,rfl⟩|exact⟨RS.KF.rf _ _ _ _,by simp[RS.ak]⟩|(simp [RS.ak])
   · intro vs wa hba hR2;simp only[RS.cZ,RS.ak]at hR2;obtain ⟨e0,e1,e2,e3,e4,e5,e6,e7,e8,e9,e10,-⟩:=hR2;simp only[List.drop,List.take,List.map,RS.aQ,Act.put,List.setIfInBounds_toArray,List.set_cons_succ,List.set_cons_zero,Nat.reduceAdd];rw [e0,e1,e2,e3,e4,e5,e6,e7,e8,e10];have B9:Bx wa (w.heap.size+1) 51 #[.string ⟨ra.toArray⟩,.string ⟨rb.toArray⟩]:=e9;have aY:=hb.trans (hba.1.mono (Nat.le_succ _));clear e0 e1 e2 e3 e4 e5 e6 e7 e8 e9 e10;go_wp2;obtain rfl:=hd.out;exact bodyPost_ret (aU rfl _ _ rfl rfl B9) rfl ⟨rfl,aY⟩
open Go.RowKit
structure yu (e:TypeId) (W W':World):Prop where
 size:W.heap.size<=W'.heap.size
 same:∀(b:Nat) (o:Obj),W.heap[b]? = some o->(∀cs f,o≠.cells cs e f)->W'.heap[b]? = some o
theorem yu.refl (e:TypeId) (W:World):yu e W W:=⟨Nat.le_refl _,fun _ _ h _=>h⟩
theorem yu.trans {e:TypeId} {A B C:World} (h:yu e A B) (k:yu e B C):yu e A C:=⟨Nat.le_trans h.size k.size,fun b o h1 h2=>k.same b o (h.same b o h1 h2) h2⟩
theorem yu.bx {e t:TypeId} {W W':World} {g:Nat} {cs:Array Value} (h:yu e W W') (ht:t≠e) (hB:Bx W g t cs):Bx W' g t cs:=h.same g _ hB (fun cs' f hh=>by cases hh;exact ht rfl)
theorem yu.call {e:TypeId} {W W':World} (h:Below W.heap.size W W'):yu e W W':=⟨h.size,fun b o h1 _=>(h.block b (Array.getElem?_eq_some_iff.1 h1).1).trans h1⟩
theorem yu.set {e:TypeId} {W:World} {g:Nat} {cs:Array Value} (hB:Bx W g e cs) (i:Nat) (u:Value):yu e W (W.setCell ⟨g,i,none⟩ u) :=
 ⟨((Below.refl 0 W).setCell (p:=⟨g,i,none⟩) (Nat.zero_le _) u).size,fun b o h1 h2=>by
  by_cases hb:b=g
  · subst hb;exact absurd (Option.some.inj (h1.symm.trans hB)) (h2 _ _)
  · exact (Below.heap_setCell W ⟨g,i,none⟩ u b hb).trans h1⟩
theorem yu.sets {e:TypeId} {g:Nat}:∀(vs:List Value) (o:Nat) (W:World) (cs:Array Value),Bx W g e cs->yu e W (W.setCells g o vs)
 | [],o,W,cs,h=>yu.refl _ _
 | v :: l,o,W,cs,h=>(yu.set h o v).trans (yu.sets l (o+1) _ _ (h.set o v))
structure Fg (v v':Value) (W W':World):Prop where
 size:W.heap.size<=W'.heap.size
 same:∀(b:Nat) (o:Obj),W.heap[b]? = some o->(∀n c,v≠.slice (some ⟨b,0,none⟩) n c)->W'.heap[b]? = some o
 at_:∃g n c,v'=.slice (some ⟨g,0,none⟩) n c/\(W.heap.size<=g∨∃n c,v=.slice (some ⟨g,0,none⟩) n c)
theorem Fg.bx {v v':Value} {t:TypeId} {W W':World} {g:Nat} {cs:Array Value} (h:Fg v v' W W') (hB:Bx W g t cs) (hne:∀n c,v≠.slice (some ⟨g,0,none⟩) n c):Bx W' g t cs:=h.same g _ hB hne
theorem Fg.grow {v v':Value} {W W':World} (hv:∃g n c,v'=.slice (some ⟨g,0,none⟩) n c/\W.heap.size<=g) (h:Below W.heap.size W W'):Fg v v' W W':=by
 obtain⟨g,n,c,e,hg⟩:=hv;exact ⟨h.size,fun b o h1 _=>(h.block b (Array.getElem?_eq_some_iff.1 h1).1).trans h1,g,n,c,e,.inl hg⟩
theorem kJ {g b:Nat} (hb:b≠g):∀(vs:List Value) (o:Nat) (W:World),(W.setCells g o vs).heap[b]? = W.heap[b]?
 | [],o,W=>rfl
 | v :: l,o,W=>(kJ hb l (o+1) _).trans (Below.heap_setCell W ⟨g,o,none⟩ v b hb)
theorem size_setCells {g:Nat}:∀(vs:List Value) (o:Nat) (W:World),W.heap.size<=(W.setCells g o vs).heap.size
 | [],o,W=>Nat.le_refl _
 | v :: l,o,W=>Nat.le_trans ((Below.refl 0 W).setCell (p:=⟨g,o,none⟩) (Nat.zero_le _) v).size (size_setCells l (o+1) _)
theorem Fg.sets {g n c n' c':Nat} (vs:List Value) (o:Nat) (W:World):Fg (.slice (some ⟨g,0,none⟩) n c) (.slice (some ⟨g,0,none⟩) n' c') W (W.setCells g o vs) :=
 ⟨size_setCells vs o W,fun b ob h1 h2=>(kJ (fun e=>h2 n c (by rw[e])) vs o W).trans h1,g,n',c',rfl,.inr ⟨n,c,rfl⟩⟩
theorem rD {P:Program} (w:World) (t ty e:TypeId) (i:TypeInfo) (z:Value) (size B n m:Nat) (flat news:List Value) (v x:Value) (ht:P.underlying t=some (.slice e)) (hi:P.info? e=some i) (hz:i.zero=some z)
 (hsize:i.size=size) (hzs:z.cells.size=size) (hv:bD e size B n flat v w) (hB:B<=w.heap.size) (hs:Src P size t x m news w) (hm:0<m) (h63:n+m<=maxLen) (hb:(n+m)*i.bytes<=140737488355328) :
 ∃v' w',(Builtin.append_ #[t,t] ty #[v,x]).run P w=.ok v' w'/\Below B w w'/\Fg v v' w w'/\bD e size B (n+m) (flat++news) v' w':=by
 rcases hv with ⟨rfl,rfl,rfl⟩|⟨cap,hv,hcm⟩
 · subst hsize;have hnl:=hs.newsLen;have hold:(Builtin.firstCells i.size 0 (.slice none 0 0)).run P w.drew=.ok ([]:List Value).toArray w.drew:=by simp[Builtin.firstCells,loadCells,loadCellsFrom]
   have hrun:=run_append_grow_src (P:=P) w t t ty e i z ht hi hz none 0 0 [] hold x m news hs (by omega) (by simp only[maxLen]at h63;omega) (growslice_fits (by omega) hb);have hge:=grownCap_ge w (0+m) 0 e;refine ⟨_,_,hrun,((Below.refl B w).drew).alloc hB _,Fg.grow ⟨_,_,_,rfl,Nat.le_refl _⟩ (((Below.refl w.heap.size w).drew).alloc (Nat.le_refl _) _),.inr ⟨_,⟨w.heap.size,_,rfl,hB,hge,Bx.mk w.drew e _,?_,?_⟩,grownCap_le_maxLen w (0+m) 0 e h63⟩⟩
   · rw[Array.size_append,List.size_toArray,List.length_append,List.length_nil,hnl,size_zeroCells,hzs,Nat.zero_add,←Nat.add_mul]
     congr 1;omega
   · rw[Array.toList_append,List.take_append_of_le_length (by simp[hnl,Nat.add_mul])];rw [List.take_of_length_le (by simp[hnl,Nat.add_mul])]
 · obtain⟨g,cells,rfl,hg,hnc,hbx,hcs,hfl⟩:=hv;subst hsize;have hnl:=hs.newsLen;by_cases hroom:n+m<=cap
   · have hle:n*i.size+news.length<=cells.size:=by rw[hnl,hcs,←Nat.add_mul];exact Nat.mul_le_mul_right _ hroom
     have hrun:=run_append_room_src (P:=P) w t t ty e i ht hi g 0 n cap x m news hs hroom (fun j hj=>by
      rw[hbx.cell (0+n*i.size+j) (v:=cells[0+n*i.size+j]'(by omega)) (by simp)];rfl) (fun j _=>hbx.frozen _)
     obtain⟨cs',h1,h2,h3⟩:=hbx.setCells news (0+n*i.size) w cells (by omega);refine ⟨_,_,hrun,?_,Fg.sets _ _ _,.inr ⟨cap,⟨g,cs',rfl,hg,hroom,h1,by rw[h2,hcs],?_⟩,hcm⟩⟩
     · clear hrun h1 h2 h3 hs;generalize 0+n*i.size=o
       have:∀(vs:List Value) (o:Nat) (w':World),Below B w w'->Below B w (w'.setCells g o vs):=by
        intro vs
        induction vs with
        | nil=>intro o w' h;exact h
        | cons a l ih=>intro o w' h;exact ih _ _ (h.setCell hg _)
       exact this news o w (Below.refl _ _)
     · rw[show (n+m)*i.size=0+n*i.size+news.length by rw[Nat.add_mul,hnl];omega,h3,Nat.zero_add,hfl]
   · have vF:flat.length=n*i.size:=by
      rw[←hfl,List.length_take,Array.length_toList,hcs];exact Nat.min_eq_left (Nat.mul_le_mul_right _ hnc)
     have hold:(Builtin.firstCells i.size n (.slice (some ⟨g,0,none⟩) n cap)).run P w.drew=.ok flat.toArray w.drew :=
      run_firstCells_some w.drew i.size n ⟨g,0,none⟩ n cap flat vF fun j u hu=>by
       have hj:cells[j]? = some u:=by
        rw[←hfl,List.getElem?_take]at hu
        split at hu
        · simpa using hu
        · cases hu
       rw[Addr.add_lit,Nat.zero_add];exact (show Bx w.drew g e cells from hbx).cell j hj
     have hrun:=run_append_grow_src (P:=P) w t t ty e i z ht hi hz (some ⟨g,0,none⟩) n cap flat hold x m news hs (by omega) (by simp only[maxLen]at h63;omega) (growslice_fits (by omega) hb);have hge:=grownCap_ge w (n+m) cap e;refine ⟨_,_,hrun,((Below.refl B w).drew).alloc hB _,Fg.grow ⟨_,_,_,rfl,Nat.le_refl _⟩ (((Below.refl w.heap.size w).drew).alloc (Nat.le_refl _) _),.inr ⟨_,⟨w.heap.size,_,rfl,hB,hge,Bx.mk w.drew e _,?_,?_⟩,grownCap_le_maxLen w (n+m) cap e h63⟩⟩
     · rw[Array.size_append,List.size_toArray,List.length_append,vF,hnl,size_zeroCells,hzs,←Nat.add_mul,←Nat.add_mul]
       congr 1;omega
     · rw[Array.toList_append,List.take_append_of_le_length (by simp[vF,hnl,Nat.add_mul])];rw [List.take_of_length_le (by simp[vF,hnl,Nat.add_mul])]
theorem jg {P:Program} {w:World} {ops:Array Oper} {rest:List Oper} {o:Oper} {a:Act} {Q:Exit->Act->World->Prop} (hgd:o.guard=none) (s y:Operand) (t e:TypeId) (ho:o.op=.call { callee:=.builtin .append,args:=#[s,y],argTypes:=#[t,t] })
 (i:TypeInfo) (z:Value) (size B n m:Nat) (flat news:List Value) (v x:Value) (ht:P.underlying t=some (.slice e)) (hi:P.info? e=some i) (hz:i.zero=some z)
 (hsize:i.size=size) (hzs:z.cells.size=size) (hes:a.eval s=v) (EC:a.eval y=x) (hv:bD e size B n flat v w) (hB:B<=w.heap.size) (hs:Src P size t x m news w) (hm:0<m) (h63:n+m<=maxLen) (hb:(n+m)*i.bytes<=140737488355328)
 (h:∀v' w',Below B w w'->Fg v v' w w'->bD e size B (n+m) (flat++news) v' w'->wpList P ops Q rest (a.put o.dst v') w'):wpList P ops Q (o :: rest) a w:=by
 obtain⟨v',w',hr,h1,h2,h3⟩:=rD (P:=P) w t o.type e i z size B n m flat news v x ht hi hz hsize hzs hv hB hs hm h63 hb;refine wpList_plain hgd fun _ hK=>?_
 unfold Oper.wp execOp
 simp only[ho,resolve,invoke,builtin,Sem.run_bind,Sem.run_pure,Result.andThen_ok,List.map_toArray,List.map_cons,List.map_nil,hes,EC,hr];exact hK _ _ (h v' w' h1 h2 h3)
def KH (B:Nat) (e:TypeId) (pos:Nat) (news:List Value) (w w':World):Prop:=Below B w w'/\w.heap.size<=w'.heap.size/\∀g c,B<=g->Bx w g e c->∃c',Bx w' g e c'/\c'.size=c.size/\∀(i:Nat) (v:Value),i<pos+news.length->c[i]? = some v->c'[i]? = some v∨(pos<=i/\∃u,news[i-pos]? = some u/\c'[i]? = some u)
theorem KH.rf (B:Nat) (e:TypeId) (pos:Nat) (news:List Value) (w:World):KH B e pos news w w:=⟨Below.refl _ _,Nat.le_refl _,fun g c _ h=>⟨c,h,rfl,fun i v _ hv=>.inl hv⟩⟩
theorem Ag (B:Nat) (e:TypeId) (pos:Nat) (news:List Value):RS.Cls (KH B e pos news) :=
 ⟨KH.rf B e pos news,fun h1 h2=>⟨h1.1.trans h2.1,Nat.le_trans h1.2.1 h2.2.1,fun g c hg h=>by
  obtain⟨c1,a1,a2,a3⟩:=h1.2.2 g c hg h;obtain ⟨c2,b1,b2,b3⟩:=h2.2.2 g c1 hg a1;refine ⟨c2,b1,b2.trans a2,fun i v hi hv=>?_⟩
  rcases a3 i v hi hv with h3|⟨h3,u,h4,h5⟩
  · exact b3 i v hi h3
  · rcases b3 i u hi h5 with h6|h6
    · exact .inr ⟨h3,u,h4,h6⟩
    · exact .inr h6⟩,
  fun w n=>⟨⟨rfl,rfl,rfl,Nat.le_refl _,fun _ _=>rfl⟩,Nat.le_refl _,fun g c _ h=>⟨c,h,rfl,fun i v _ hv=>.inl hv⟩⟩⟩
theorem KH.of {B:Nat} {e:TypeId} {pos:Nat} {news:List Value} {w w':World} (hB:B<=w.heap.size) (h:Below w.heap.size w w'):KH B e pos news w w':=⟨h.mono hB,h.size,fun g c _ hb=>⟨c,hb.call h,rfl,fun i v _ hv=>.inl hv⟩⟩
theorem KH.call {B:Nat} {e:TypeId} {pos:Nat} {news:List Value} {W w w':World} (h:KH B e pos news W w) (hB:B<=W.heap.size) (hb:Below w.heap.size w w'):KH B e pos news w w':=KH.of (Nat.le_trans hB h.2.1) hb
def uq (e:TypeId) (size B n:Nat) (flat:List Value):RS.Rl:=fun _ v w=>bD e size B n flat v w
theorem pG {cs:Array Value} {flat:List Value} {k:Nat} (hk:flat.length=k) (h:cs.toList.take k=flat) {i:Nat} (hi:i<k):cs[i]? = flat[i]? := by
 rw[←h,List.getElem?_take,if_pos hi];simp
theorem LK {cs:Array Value} {flat:List Value} {k:Nat} (hk:flat.length=k) (hs:k<=cs.size) (h:∀i,i<k->cs[i]? = flat[i]?):cs.toList.take k=flat:=by
 apply List.ext_getElem?
 intro i;rw [List.getElem?_take];by_cases hi:i<k
 · rw[if_pos hi,←h i hi];simp
 · rw[if_neg hi,List.getElem?_eq_none (by omega)]
theorem mg {e:TypeId} {size B n:Nat} {flat news:List Value} (hf:flat.length=n*size):RS.eP (KH B e (n*size) news) (uq e size B n flat):=fun x v w w' hr hK=>by
 rcases hr with h|⟨cap,⟨g,cells,rfl,hg,hnc,hbx,hcs,hfl⟩,hm⟩
 · exact .inl h
 · obtain⟨c',h1,h2,h3⟩:=hK.2.2 g cells hg hbx;refine .inr ⟨cap,⟨g,c',rfl,hg,hnc,h1,by rw[h2,hcs],?_⟩,hm⟩;have hle:n*size<=cells.size:=by rw[hcs];exact Nat.mul_le_mul_right _ hnc
   refine LK hf (by rw[h2];exact hle) fun i hi=>?_
   have hci:cells[i]? = some (cells[i]'(by omega)):=Array.getElem?_eq_getElem (by omega);rw [←pG hf hfl hi,hci]
   rcases h3 i _ (by omega) hci with h4|⟨h4,-⟩
   · exact h4
   · omega
theorem jS {e:TypeId} {size B n m:Nat} {flat news:List Value} (hf:flat.length=n*size) (hn:news.length=m*size):RS.eP (KH B e (n*size) news) (uq e size B (n+m) (flat++news)):=fun x v w w' hr hK=>by
 rcases hr with h|⟨cap,⟨g,cells,rfl,hg,hnc,hbx,hcs,hfl⟩,hm⟩
 · exact .inl h
 · obtain⟨c',h1,h2,h3⟩:=hK.2.2 g cells hg hbx;refine .inr ⟨cap,⟨g,c',rfl,hg,hnc,h1,by rw[h2,hcs],?_⟩,hm⟩;have hl:(flat++news).length=(n+m)*size:=by rw[List.length_append,hf,hn,Nat.add_mul]
   have hle:(n+m)*size<=cells.size:=by rw[hcs];exact Nat.mul_le_mul_right _ hnc
   refine LK hl (by rw[h2];exact hle) fun i hi=>?_
   have hci:cells[i]? = some (cells[i]'(by omega)):=Array.getElem?_eq_getElem (by omega);have hfi:=pG hl hfl hi;rw [Nat.add_mul,←hn]at hi
   rcases h3 i _ hi hci with h4|⟨h4,u,h5,h6⟩
   · rw[←hfi,hci,h4]
   · rw[List.getElem?_append_right (by omega),hf,h5,h6]
def Kq (B:Nat) (e:TypeId) (m:Nat) (news:List Value):RS.Rl:=fun _ v w=>∃g,v=.slice (some ⟨g,0,none⟩) m m/\B<=g/\Bx w g e news.toArray
theorem kP {B:Nat} {e:TypeId} {pos m:Nat} {news:List Value} (h:pos=0∨news.length<=pos):RS.eP (KH B e pos news) (Kq B e m news):=fun x v w w' ⟨g,e1,hg,hB⟩ hK=>by
 obtain⟨c',h1,h2,h3⟩:=hK.2.2 g _ hg hB;refine ⟨g,e1,hg,?_⟩
 have:c'=news.toArray:=by
  apply Array.ext_getElem?
  intro i;by_cases hi:i<news.length
  · have hci:news.toArray[i]? = some news[i]:=by simp[hi]
    rw[hci]
    rcases h3 i _ (by omega) hci with h4|⟨h4,u,h5,h6⟩
    · exact h4
    · obtain rfl:pos=0:=by omega
      rw[Nat.sub_zero,List.getElem?_eq_getElem hi]at h5;rw [h6,←h5]
  · rw[Array.getElem?_eq_none (by rw[h2];simpa using hi),Array.getElem?_eq_none (by simpa using hi)]
 rw[←this];exact h1
theorem xE {P:Program} (w:World) (t ty e:TypeId) (i:TypeInfo) (z:Value) (size B n m:Nat) (flat news:List Value) (v x:Value) (ht:P.underlying t=some (.slice e)) (hi:P.info? e=some i) (hz:i.zero=some z)
 (hsize:i.size=size) (hzs:z.cells.size=size) (hv:bD e size B n flat v w) (hB:B<=w.heap.size) (hs:Src P size t x m news w) (hm:0<m) (h63:n+m<=maxLen) (hb:(n+m)*i.bytes<=140737488355328) :
 ∃v' w',(Builtin.append_ #[t,t] ty #[v,x]).run P w=.ok v' w'/\KH B e (n*size) news w w'/\bD e size B (n+m) (flat++news) v' w':=by
 rcases hv with ⟨rfl,rfl,rfl⟩|⟨cap,hv,hcm⟩
 · subst hsize;have hnl:=hs.newsLen;have hold:(Builtin.firstCells i.size 0 (.slice none 0 0)).run P w.drew=.ok ([]:List Value).toArray w.drew:=by simp[Builtin.firstCells,loadCells,loadCellsFrom]
   have hrun:=run_append_grow_src (P:=P) w t t ty e i z ht hi hz none 0 0 [] hold x m news hs (by omega) (by simp only[maxLen]at h63;omega) (growslice_fits (by omega) hb);have hge:=grownCap_ge w (0+m) 0 e;refine ⟨_,_,hrun,KH.of hB (((Below.refl w.heap.size w).drew).alloc (Nat.le_refl _) _),.inr ⟨_,⟨w.heap.size,_,rfl,hB,hge,Bx.mk w.drew e _,?_,?_⟩,grownCap_le_maxLen w (0+m) 0 e h63⟩⟩
   · rw[Array.size_append,List.size_toArray,List.length_append,List.length_nil,hnl,size_zeroCells,hzs,Nat.zero_add,←Nat.add_mul]
     congr 1;omega
   · rw[Array.toList_append,List.take_append_of_le_length (by simp[hnl,Nat.add_mul])];rw [List.take_of_length_le (by simp[hnl,Nat.add_mul])]
 · obtain⟨g,cells,rfl,hg,hnc,hbx,hcs,hfl⟩:=hv;subst hsize;have hnl:=hs.newsLen;by_cases hroom:n+m<=cap
   · have hle:n*i.size+news.length<=cells.size:=by rw[hnl,hcs,←Nat.add_mul];exact Nat.mul_le_mul_right _ hroom
     have hrun:=run_append_room_src (P:=P) w t t ty e i ht hi g 0 n cap x m news hs hroom (fun j hj=>by
      rw[hbx.cell (0+n*i.size+j) (v:=cells[0+n*i.size+j]'(by omega)) (by simp)];rfl) (fun j _=>hbx.frozen _)
     obtain⟨cs',h1,h2,h3⟩:=hbx.setCells news (0+n*i.size) w cells (by omega);have h3':cs'.toList.take (n*i.size+news.length)=flat++news:=by rw[Nat.zero_add]at h3;rw[h3,hfl]
     have hbl:Below B w (w.setCells g (0+n*i.size) news):=by
      clear hrun h1 h2 h3 hs;generalize 0+n*i.size=o
      have:∀(vs:List Value) (o:Nat) (w':World),Below B w w'->Below B w (w'.setCells g o vs):=by
       intro vs
       induction vs with
       | nil=>intro o w' h;exact h
       | cons a l ih=>intro o w' h;exact ih _ _ (h.setCell hg _)
      exact this news o w (Below.refl _ _)
     refine⟨_,_,hrun,⟨hbl,size_setCells _ _ _,fun b c hb' hc=>?_⟩,.inr ⟨cap,⟨g,cs',rfl,hg,hroom,h1,by rw[h2,hcs],?_⟩,hcm⟩⟩
     · by_cases hbg:b=g
       · subst hbg
         have hcc:c=cells:=by
          have:=(show w.heap[b]? = _ from hc).symm.trans hbx;simpa using this
         subst hcc;refine ⟨cs',h1,h2,fun j u hj hu=>?_⟩;have QT:flat.length=n*i.size:=by rw[←hfl,List.length_take,Array.length_toList];omega
         have hc':cs'[j]? = (flat++news)[j]? := pG (by rw[List.length_append,QT]) h3' hj;by_cases hjp:j<n*i.size
         · left
           rw[hc',List.getElem?_append_left (by omega),←pG QT hfl hjp,hu]
         · right
           refine⟨by omega,?_⟩;rw [hc',List.getElem?_append_right (by omega),QT];exact ⟨_,List.getElem?_eq_getElem (by omega),List.getElem?_eq_getElem (by omega)⟩
       · exact⟨c,(kJ hbg _ _ _).trans hc,rfl,fun j u _ hu=>.inl hu⟩
     · rw[Nat.add_mul,←hnl];exact h3'
   · have vF:flat.length=n*i.size:=by
      rw[←hfl,List.length_take,Array.length_toList,hcs];exact Nat.min_eq_left (Nat.mul_le_mul_right _ hnc)
     have hold:(Builtin.firstCells i.size n (.slice (some ⟨g,0,none⟩) n cap)).run P w.drew=.ok flat.toArray w.drew :=
      run_firstCells_some w.drew i.size n ⟨g,0,none⟩ n cap flat vF fun j u hu=>by
       have hj:cells[j]? = some u:=by
        rw[←hfl,List.getElem?_take]at hu
        split at hu
        · simpa using hu
        · cases hu
       rw[Addr.add_lit,Nat.zero_add];exact (show Bx w.drew g e cells from hbx).cell j hj
     have hrun:=run_append_grow_src (P:=P) w t t ty e i z ht hi hz (some ⟨g,0,none⟩) n cap flat hold x m news hs (by omega) (by simp only[maxLen]at h63;omega) (growslice_fits (by omega) hb);have hge:=grownCap_ge w (n+m) cap e;refine ⟨_,_,hrun,KH.of hB (((Below.refl w.heap.size w).drew).alloc (Nat.le_refl _) _),.inr ⟨_,⟨w.heap.size,_,rfl,hB,hge,Bx.mk w.drew e _,?_,?_⟩,grownCap_le_maxLen w (n+m) cap e h63⟩⟩
     · rw[Array.size_append,List.size_toArray,List.length_append,vF,hnl,size_zeroCells,hzs,←Nat.add_mul,←Nat.add_mul]
       congr 1;omega
     · rw[Array.toList_append,List.take_append_of_le_length (by simp[vF,hnl,Nat.add_mul])];rw [List.take_of_length_le (by simp[vF,hnl,Nat.add_mul])]
theorem jO {P:Program} {w:World} {ops:Array Oper} {rest:List Oper} {o:Oper} {a:Act} {Q:Exit->Act->World->Prop} (hgd:o.guard=none) (s y:Operand) (t e:TypeId) (ho:o.op=.call { callee:=.builtin .append,args:=#[s,y],argTypes:=#[t,t] })
 (i:TypeInfo) (z:Value) (size B n m:Nat) (flat news:List Value) (v x:Value) (ht:P.underlying t=some (.slice e)) (hi:P.info? e=some i) (hz:i.zero=some z)
 (hsize:i.size=size) (hzs:z.cells.size=size) (hes:a.eval s=v) (EC:a.eval y=x) (hv:bD e size B n flat v w) (hB:B<=w.heap.size) (hs:Src P size t x m news w) (hm:0<m) (h63:n+m<=maxLen) (hb:(n+m)*i.bytes<=140737488355328)
 (h:∀v' w',KH B e (n*size) news w w'->bD e size B (n+m) (flat++news) v' w'->wpList P ops Q rest (a.put o.dst v') w'):wpList P ops Q (o :: rest) a w:=by
 obtain⟨v',w',hr,h1,h2⟩:=xE (P:=P) w t o.type e i z size B n m flat news v x ht hi hz hsize hzs hv hB hs hm h63 hb;refine wpList_plain hgd fun _ hK=>?_
 unfold Oper.wp execOp
 simp only[ho,resolve,invoke,builtin,Sem.run_bind,Sem.run_pure,Result.andThen_ok,List.map_toArray,List.map_cons,List.map_nil,hes,EC,hr];exact hK _ _ (h v' w' h1 h2)
end Go.Proofs.YtelljijajgiabaaGreatDoor

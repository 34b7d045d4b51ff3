import Derived.Test.YtohgjenaclfegaaGreatDoorQT03
set_option linter.unusedVariables false
set_option linter.unusedSimpArgs false
set_option maxRecDepth 100000
set_option maxHeartbeats 8000000
namespace Go.Proofs.YtohgjenaclfegaaGreatDoor
open Go.RowKit Go.Shelf
section
variable (a b:Rat) (w:World)
end
end Go.Proofs.YtohgjenaclfegaaGreatDoor
namespace Tb
end Tb
namespace Go.Proofs.YtohgjenaclfegaaGreatDoor
open Go.RowKit Go.Shelf
theorem OO {g k m:Nat} {cells:Array Value} {W:World} {l:List (List UInt8)} {s:List UInt8} (hB:Bx W g 9 cells) (hf:cells.toList.take (m*1)=l.flatMap rD) (hk:l[k]? = some s) (hkm:k<m):W.cell? ⟨g,k,none⟩=some (.string ⟨s.toArray⟩):=by
 refine hB.cell k ?_
 have h2:(cells.toList.take (m*1))[k]? = some (.string ⟨s.toArray⟩):=by
  rw[hf];have:=flat_get (f:=rD) (size:=1) xg l k 0 _ hk (by decide);rw [Nat.mul_one,Nat.add_zero]at this;rw [this];rfl
 rw[List.getElem?_take,if_pos (by omega)]at h2;simpa using h2
def RwS (g:Nat) (l:List (List UInt8)) (W:World):Prop:=g<W.heap.size/\∀(i:Nat) (s:List UInt8),l[i]? = some s->W.cell? ⟨g,i,none⟩=some (.string ⟨s.toArray⟩)
theorem RwS.call {g:Nat} {l:List (List UInt8)} {W W':World} (h:RwS g l W) (hb:Below W.heap.size W W'):RwS g l W':=⟨Nat.lt_of_lt_of_le h.1 hb.size,fun i s hs=>(hb.cell (p:=⟨g,i,none⟩) h.1).trans (h.2 i s hs)⟩
theorem RwS.of {B n:Nat} {l:List (List UInt8)} {v:Value} {W:World} (hl:l.length=n) (h:TN 9 1 B n (l.flatMap rD) v W):∃g cap,v=.slice (some ⟨g,0,none⟩) n cap/\Kp (RwS g l W):=by
 obtain⟨cap,⟨g,cells,rfl,-,-,hB,-,hf⟩,-⟩:=h;exact ⟨g,cap,rfl,hB.lt,fun i s hs=>OO hB hf hs (by rw[←hl];exact (List.getElem?_eq_some_iff.1 hs).1)⟩
theorem Gv {s:List UInt8} (h:¬s.length<=1000000):Ig.dK s=false:=by
 cases hv:Ig.dK s with
 | false=>rfl
 | true =>
  obtain⟨x,rfl,hx⟩:=Ig.nT hv;exact absurd (bJ hx) h
theorem Qn (s:List UInt8) (hs:s.length<=9223372036854775807) (w:World) :
 aT 149 #[.string ⟨s.toArray⟩] w (.bool (Ig.dK s)):=by
 by_cases hl:s.length<=1000000
 · exact kN s hl w
 · have hT:=fun w0=>jY s w0
   have hul:999999<=(Ig.gY s).length/\(Ig.gY s).length<=9223372036854775807:=by
    unfold Ig.gY
    split
    · rw[List.length_drop];omega
    · omega
   rw[Gv hl];generalize Ig.gY s=d at *;have h0:¬d=[]:=fun h=>by subst h;exact absurd hul.1 (by decide)
   have t1:decide ((d.length:Int) > 200)=true:=decide_eq_true (by omega)
   go_enter Tryz.func149,Tryz.ntmps149
   go_wp2_with (go_at_call 212;refine (hT _).mono ?_;rintro _ _ ⟨rfl,rfl⟩)
   go_ret;exact ⟨rfl,Below.refl _ _⟩
theorem Ja (s:List UInt8) (hs:s.length<=9223372036854775807) (w:World) :
 aT 97 #[.string ⟨s.toArray⟩] w (.bool (Ig.dK s)):=by
 have hV:=Qn s hs w
 go_enter Tryz.func97,Tryz.ntmps97
 go_wp2_with fail;refine hV.mono ?_;rintro _ w9 ⟨rfl,aX⟩;clear hV;go_wp2;go_ret;exact ⟨rfl,aX⟩
theorem DC (n d:List UInt8) (w:World) (hn:n.length<=9223372036854775807) (h:Ig.dK n=false) :
 aT 157 #[.agg #[.string ⟨n.toArray⟩,.string ⟨d.toArray⟩]] w (.bool false):=by
 have hV:=fun w0=>Ja n hn w0
 rw[h]at hV;have hb:=aA w (.cells #[.string ⟨n.toArray⟩,.string ⟨d.toArray⟩] 77)
 go_enter Tryz.func157,Tryz.ntmps157
 go_wp2_with fail;refine (hV _).mono ?_;rintro _ w1 ⟨rfl,hb1⟩;have hb2:=ah hb hb1;clear hV;go_wp2;go_ret;exact ⟨rfl,hb2⟩
theorem Dz (n d:List UInt8) (w:World) (hn:n.length<=9223372036854775807) (hd:d.length<=9223372036854775807) (h:Ig.dK n=true) (h':Ig.dK d=false) :
 aT 157 #[.agg #[.string ⟨n.toArray⟩,.string ⟨d.toArray⟩]] w (.bool false):=by
 have hV:=fun w0=>Ja n hn w0
 have hV':=fun w0=>Ja d hd w0
 rw[h]at hV;rw [h']at hV';have hb:=aA w (.cells #[.string ⟨n.toArray⟩,.string ⟨d.toArray⟩] 77);have hB:=Bx.mk w 77 #[.string ⟨n.toArray⟩,.string ⟨d.toArray⟩];have c1:=hB.cell 1 rfl
 go_enter Tryz.func157,Tryz.ntmps157
 go_wp2_with fail;refine (hV _).mono ?_;rintro _ w1 ⟨rfl,hb1⟩;replace hb:=ah hb hb1;replace hB:=hB.call hb1;have c1:=hB.cell 1 rfl;go_wp2_with fail;refine (hV' _).mono ?_;rintro _ w2 ⟨rfl,hb1⟩;replace hb:=ah hb hb1;clear hV hV';go_wp2;go_ret;exact ⟨rfl,hb⟩
theorem F6 (n d:List UInt8) (w:World) (hn:n.length<=9223372036854775807) (hd:d.length<=9223372036854775807) (hE:Env w) :
 aT 157 #[.agg #[.string ⟨n.toArray⟩,.string ⟨d.toArray⟩]] w (.bool (Rq.okB n d)):=by
 by_cases h1:Ig.dK n=true
 · by_cases h2:Ig.dK d=true
   · obtain⟨x,rfl,hx⟩:=Ig.nT h1;obtain ⟨y,rfl,hy⟩:=Ig.nT h2;have h:=zh x y w hx hy hE;by_cases hq:0<y/\Nat.gcd x.natAbs y.natAbs=1
     · obtain⟨q,e1,e2⟩:=Rq.DY hq.1 hq.2;rw [Rq.xO ⟨q,⟨by rw[e1];exact hx,by rw[e2];exact hy⟩,by rw[e1],by rw[e2]⟩];rw [decide_eq_true hq.1,decide_eq_true hq.2]at h;exact h
     · have h3:¬Rq.Ut (Lib.itoa x) (Lib.itoa y):=by
        rintro ⟨q,-,e1,e2⟩;have e1:=Ig.dX e1;have e2:=Ig.dX e2;subst e1;subst e2;exact hq ⟨Rq.sV q,Rq.W_ q⟩
       rw[Rq.iD h3]
       have h4:(decide (0<y)&&decide (Nat.gcd x.natAbs y.natAbs=1))=false:=by
        by_cases h5:0<y
        · rw[decide_eq_false (fun h6=>hq ⟨h5,h6⟩),Bool.and_false]
        · rw[decide_eq_false h5,Bool.false_and]
       rw[h4]at h;exact h
   · have h3:¬Rq.Ut n d:=by
      rintro ⟨q,hf,-,rfl⟩;exact h2 (Ig.eX hf.den)
     rw[Rq.iD h3];exact Dz n d w hn hd h1 (by simpa using h2)
 · have h3:¬Rq.Ut n d:=by
    rintro ⟨q,hf,rfl,-⟩;exact h1 (Ig.eX hf.num)
   rw[Rq.iD h3];exact DC n d w hn (by simpa using h1)
end Go.Proofs.YtohgjenaclfegaaGreatDoor
namespace Tb
theorem Le.ex {n:Nat} {c d:Int} {q:Rat} (h0:0<=q):∃k,Le n c d q k:=by
 have h:∀m,(∃k,Le n c d q k)∨∀j,j<m->q<Pq n j c d:=fun m=>by
  induction m with
  | zero=>exact .inr fun j hj=>absurd hj (Nat.not_lt_zero _)
  | succ m ih =>
   rcases ih with ih|ih
   · exact .inl ih
   · by_cases h1:Pq n m c d<=q
     · exact .inl ⟨m,h1,ih⟩
     · refine .inr fun j hj=>?_
       rcases Nat.lt_or_ge j m with h2|h2
       · exact ih j h2
       · obtain rfl:j=m:=by omega
         exact Rat.not_le.1 h1
 rcases h (n+2) with h|h
 · exact h
 · have:=h (n+1) (by omega);rw [WH (Nat.lt_succ_self n)]at this;exact absurd h0 (Rat.not_le.2 this)
end Tb
namespace Go.Proofs.YtohgjenaclfegaaGreatDoor
open Go.RowKit Go.Shelf
end Go.Proofs.YtohgjenaclfegaaGreatDoor
namespace Tb
end Tb
namespace Go.Proofs.YtohgjenaclfegaaGreatDoor
open Go.RowKit Go.Shelf
theorem LQ.ne {p q:Rat} {a b c d:List UInt8} (hp:LQ p a b) (hq:LQ q c d) (h:p≠q):¬(a=c/\b=d):=fun ⟨h1,h2⟩=>by
 subst h1 h2;have e1:=Ig.dX (hp.out.1.trans hq.out.1.symm);have e2:=Ig.dX (hp.out.2.trans hq.out.2.symm);exact h (Rat.ext e1 (by exact_mod_cast e2))
theorem aI.off {e:TypeId} {size B n:Nat} {fl:List Value} {v:Value} {W:World} (h:aI e size B n fl v W) {p:Addr} (hp:p.block<B) (u:Value):aI e size B n fl v (W.setCell p u):=by
 rcases h with h|⟨cap,⟨g,cells,e1,hg,hn,hB,hs,hf⟩,hm⟩
 · exact .inl h
 · exact .inr ⟨cap,⟨g,cells,e1,hg,hn,hB.far (by omega) u,hs,hf⟩,hm⟩
structure CbI (w wN:World) (gZ gR gS:Nat) (cz cr cs:Array Value) (C:Option Addr) (L:List Rat) (W:World):Prop where
 st:SE w W
 bz:Bx W gZ 27 cz
 br:Bx W gR 77 cr
 bs:Bx W gS 77 cs
 at_:At 2 vU W gS C L
 sz:wN.heap.size<=W.heap.size
section
variable {w wN W W':World} {gZ gR gS:Nat} {cz cr cs:Array Value} {C:Option Addr} {L:List Rat}
theorem CbI.up (h:CbI w wN gZ gR gS cz cr cs C L W) (o:gZ<gS/\gR<gS/\gS<wN.heap.size/\w.heap.size<=gS) (hE:Env w) (hb:Below wN.heap.size W W'):CbI w wN gZ gR gS cz cr cs C L W':=by
 obtain⟨o1,o2,o3,o4⟩:=o;have hbl:=h.st.bl.trans (hb.mono (by omega));exact ⟨⟨hbl,hE.below hbl⟩,h.bz.below hb (by omega),h.br.below hb (by omega),h.bs.below hb o3,h.at_.below (hb.mono (by omega)),Nat.le_trans h.sz hb.size⟩
theorem CbI.call (h:CbI w wN gZ gR gS cz cr cs C L W) (o:gZ<gS/\gR<gS/\gS<wN.heap.size/\w.heap.size<=gS) (hE:Env w) (hb:Below W.heap.size W W'):CbI w wN gZ gR gS cz cr cs C L W':=h.up o hE (hb.mono h.sz)
end
theorem YD {p:Pr} (h:Rq.okB p.1 p.2=true):∃q,Rq.Fq q/\p=kJ q:=by
 obtain⟨p1,p2⟩:=p;by_cases hq:Rq.Ut p1 p2
 · obtain⟨q,hf,e1,e2⟩:=hq;exact ⟨q,hf,by unfold kJ;rw[e1,e2]⟩
 · rw[Rq.iD hq]at h;cases h
theorem DK (qs:List Rat) (A:Option Addr) (cap:Nat) (w:World) (hA:At 2 kD w w.heap.size A (qs.map kJ)) (hn:qs.length<=cap) (hl:qs.length<=20) (hq:∀q∈qs,Un q) (hc:Kp (comb qs=none)) (hE:Env w) :
 aT 100 #[.slice A qs.length cap] w (.tuple #[.agg #[.string ⟨#[]⟩,.string ⟨#[]⟩],.int .i64 350]):=by
 have hb0:=aA w (.cells #[.string ⟨#[]⟩,.string ⟨#[]⟩] 77);have BR:=Bx.mk w 77 #[.string ⟨#[]⟩,.string ⟨#[]⟩];obtain ⟨za,zb,lz⟩:=LQ.ex (Wq 0);have hI:I64 0:=⟨by decide,by decide⟩
 have hcon:=XU (qs.map kJ) A cap (w.alloc (.cells #[.string ⟨#[]⟩,.string ⟨#[]⟩] 77)) ((hA.below hb0).more hb0.size) (by rw[List.length_map];exact hn) (by rw[List.length_map];omega) (fun p hp W hW=>by
  obtain⟨q,hqm,rfl⟩:=List.mem_map.1 hp
  exact Ya q _ _ W ⟨⟨rfl,rfl⟩⟩ (hq q hqm).1 ((hE.below hb0).below hW))
 rw[List.length_map]at hcon
 have hany:(qs.map kJ).any (fun p=> !DZ p)=false:=by
  rw[List.any_eq_false];intro p hp;obtain ⟨q,hqm,rfl⟩:=List.mem_map.1 hp;rw [Jp ⟨q,hq q hqm,rfl⟩];decide
 rw[hany]at hcon;have t0:decide ((qs.length:Int) > 20)=false:=by simp;omega
 have vO:VO (comb qs)=.agg #[.string ⟨#[]⟩,.string ⟨#[]⟩]:=by rw[hc.out];rfl
 have eO':eO (comb qs)=40:=by rw[hc.out];rfl
 have NU:∀W,Below w.heap.size w W->Env W:=fun W hW=>hE.below hW
 clear hany
 go_enter Tryz.func100,Tryz.ntmps100
 go_wp2_with (go_at_call 158;refine hcon.mono ?_;rintro _ w1 ⟨rfl,hb1⟩;clear hcon)
 replace hb0:=ah hb0 hb1;replace BR:=BR.call hb1;have Ic:=bNew hb0 (.cells #[.int .i64 0] 50);have BE:=Bx.mk w1 50 #[.int .i64 0];replace BR:=BR.new (.cells #[.int .i64 0] 50);have lR:=BR.lt;have hw:=oP (w1.alloc (.cells #[.int .i64 0] 50)) hI lz (NU _ Ic);have H_:=hb0.size;have hRlt:w.heap.size<w1.heap.size:=by have:=hb1.size;rw[aj]at this;omega
 refine hw.mono ?_;rintro _ w2 ⟨rfl,hb2⟩;clear hw;replace Ic:=ah Ic hb2;replace BE:=BE.call hb2;replace BR:=BR.call hb2;have hF:=Fe qs A cap w1.heap.size za zb w2 w.heap.size lz (hA.below Ic) hn hl (fun q h=>(hq q h).1) BE H_ (fun W hW=>NU W (Ic.trans hW));rw [vO,eO']at hF;go_wp2_with fail;refine hF.mono ?_;rintro _ w3 ⟨rfl,BE3,hO⟩;clear hF;have BR3:=hO.bx BR (by omega);have hb3:=Ic.trans (hO.to H_ (Nat.le_trans H_ (by have:=BE.lt;omega)));replace hb0:=bNew hb3 (.cells #[.string ⟨#[]⟩,.string ⟨#[]⟩] 77);have BE4:=BE3.new (.cells #[.string ⟨#[]⟩,.string ⟨#[]⟩] 77);replace BR:=BR3.new (.cells #[.string ⟨#[]⟩,.string ⟨#[]⟩] 77);have e0:=BE4.cell 0 rfl;clear BR3 BE3 hb3 Ic BE hO hA NU hE hc;have c0:=BR.cell 0 rfl;have c1:=BR.cell 1 rfl;have f0:=BR.frozen 0;have f1:=BR.frozen 1;have B4:=(BR.set 0 (.string ⟨#[]⟩)).set 1 (.string ⟨#[]⟩);have hb4:=aK (aK hb0 (p:=⟨w.heap.size,0,none⟩) (Nat.le_refl _) (.string ⟨#[]⟩)) (p:=⟨w.heap.size,1,none⟩) (Nat.le_refl _) (.string ⟨#[]⟩);go_wp2;first|exact bodyPost_ret (bG rfl _ _ rfl rfl B4) rfl ⟨rfl,hb4⟩|exact bodyPost_ret (bG rfl _ _ rfl rfl BR) rfl ⟨rfl,hb0⟩
end Go.Proofs.YtohgjenaclfegaaGreatDoor
namespace Tb
theorem Bw.ex {l:List Int} {w:Int} (hs:So l) (hw:1<=w):∃b a,Bw l w l.length b a:=by
 have h:∀k,k<=l.length->∃b a,Bw l w k b a:=fun k=>by
  induction k with
  | zero=>exact fun _=>⟨0,0,Bw.start l w⟩
  | succ k ih =>
   intro hk;obtain ⟨b,a,hB⟩:=ih (by omega);obtain ⟨n1,n2⟩:=hB.next hs hw (show k<l.length by omega);by_cases hb:b<(cw l l[k] w:Int)
   · exact⟨_,_,n1 hb⟩
   · exact⟨_,_,n2 hb⟩
 exact h l.length (Nat.le_refl _)
end Tb
namespace Go.Proofs.YtohgjenaclfegaaGreatDoor
open Go.RowKit Go.Shelf
def vR (a b:List UInt8):Value:=.agg #[.string ⟨a.toArray⟩,.string ⟨b.toArray⟩]
end Go.Proofs.YtohgjenaclfegaaGreatDoor

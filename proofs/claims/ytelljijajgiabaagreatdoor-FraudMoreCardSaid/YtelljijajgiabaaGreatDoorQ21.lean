import Derived.Test.YtelljijajgiabaaGreatDoorQ20
import Derived.RangeFuncLeaves
import Derived.RangeFuncFrom
import Derived.RangeFuncWrites
import Derived.Lib.QuietBelow
import Derived.BigQuiet
set_option linter.unusedVariables false
set_option linter.unusedSimpArgs false
set_option maxRecDepth 100000
set_option maxHeartbeats 8000000
namespace Go.Proofs.YtelljijajgiabaaGreatDoor
open Go.RowKit Go.Shelf
theorem Ui {P:Tf.Pr->Prop} {r:Tf.Ru} {l:List Tf.Ho} {k:Nat} (hk:k<l.length) (h:Tf.Va P r (l.take k)) {j:Nat} (hj:j<k):Tf.Fm P (l[j]'(by omega)) :=
 h.fm _ (List.mem_take_iff_getElem.2 ⟨j,by omega,rfl⟩)
theorem XJ (r:Tf.Ru) (a b:Tf.Ho):Tf.Nx r a b↔¬(b.f<a.f∨(b.n=a.n/\b.f<Tf.fin r a+r.re)):=by
 unfold Tf.Nx
 constructor
 · rintro ⟨h1,h2⟩ (h|⟨h,h3⟩)
   · omega
   · have:=h2 h.symm;omega
 · intro h;refine ⟨by omega,fun e=>?_⟩
   rcases Int.lt_or_le b.f (Tf.fin r a+r.re) with h1|h1
   · exact absurd (.inr ⟨e.symm,h1⟩) h
   · exact h1
theorem Ea (c e lo re pay n f v d:Int) (b1 b2:List UInt8) (w:World) (hr:ES c e=true) (h1:b1.length<=9223372036854775807) (h2:b2.length<=9223372036854775807) (hf:vK c e ⟨n,f,(b1,b2),v,d⟩=true) :
 aW 52 #[.agg #[.int .i64 c,.int .i64 e,.int .i64 lo,.int .i64 re,.int .i64 pay],.agg #[.int .i64 n,.int .i64 f,.string ⟨b1.toArray⟩,.string ⟨b2.toArray⟩,.int .i64 v,.int .i64 d]] w (.bool (vK c e ⟨n,f,(b1,b2),v,d⟩)):=by
 have hW1:=fun w0=>aB (rQ n 0 99999999 w0)
 have hW2:=fun w0=>aB (rQ f 0 10000000 w0)
 have hW3:=fun w0=>aB (rQ d f 11000000 w0)
 have hV:=fun w0=>EG b1 b2 w0 h1 h2
 obtain⟨r1,r2,r3,r4⟩:=nS.1 hr;have B:=Bx.mk w 31 #[.int .i64 c,.int .i64 e,.int .i64 lo,.int .i64 re,.int .i64 pay];have hb:=au w (.cells #[.int .i64 c,.int .i64 e,.int .i64 lo,.int .i64 re,.int .i64 pay] 31);replace B:=B.new (.cells #[.int .i64 n,.int .i64 f,.string ⟨b1.toArray⟩,.string ⟨b2.toArray⟩,.int .i64 v,.int .i64 d] 53);have H:=Bx.mk (w.alloc (.cells #[.int .i64 c,.int .i64 e,.int .i64 lo,.int .i64 re,.int .i64 pay] 31)) 53 #[.int .i64 n,.int .i64 f,.string ⟨b1.toArray⟩,.string ⟨b2.toArray⟩,.int .i64 v,.int .i64 d];simp only[ah,Nat.add_assoc,Nat.reduceAdd]at H;replace hb:=bNew hb (.cells #[.int .i64 n,.int .i64 f,.string ⟨b1.toArray⟩,.string ⟨b2.toArray⟩,.int .i64 v,.int .i64 d] 53);obtain ⟨za,zb,lz⟩:=LQ.ex (Wq 0);obtain ⟨va,vb,lv⟩:=LQ.ex (Rat.divInt c e);have hI0:I64 0:=⟨by decide,by decide⟩
 have hI1:I64 1:=⟨by decide,by decide⟩
 have hfl:=Eo hr;have kV:=fun w0=>Gp (n:=c) (d:=e) (q:=Rat.divInt c e) w0 ⟨by omega,by omega⟩ ⟨by omega,by omega⟩ (by omega) ⟨rfl⟩ lv
 rcases LJ hr n f v d b1 b2 with ⟨a1,hd⟩|⟨a1,a2,hd⟩|⟨a1,a2,a3,hd⟩|⟨a1,a2,a3,q,hq,lq,cz,cl,hz,hl,hw⟩
 all_goals generalize vK c e ⟨n,f,(b1,b2),v,d⟩=res at *
 · exact absurd (hd.out.symm.trans hf) (by decide)
 · exact absurd (hd.out.symm.trans hf) (by decide)
 · exact absurd (hd.out.symm.trans hf) (by decide)
 · rw[a1]at hW1;rw [a2]at hW2;rw [a3]at hV;clear a1 a2 a3
   rcases hw with ⟨t1,hd⟩|⟨t1,t2,hd⟩|⟨t1,t2,hd⟩
   · exact absurd (hd.out.symm.trans hf) (by decide)
   · exact absurd (hd.out.symm.trans hf) (by decide)
   · rcases Ky v d f with ⟨rfl,hv⟩|⟨rfl,hv⟩|⟨rfl,hv⟩|⟨v0,v1,v2,hv⟩
     · clear hf;obtain rfl:=hd.out.trans hv.out
       go_enter Tryz.func52,Tryz.ntmps52
       obtain⟨cB0,cB1,cB2,cB3,aN⟩:=B.p5;obtain ⟨bP,bM,bK,bJ,bI,bH⟩:=H.p6;go_wp2_with fail;refine (hW1 _).mono ?_;rintro _ w1 ⟨rfl,hb1⟩;clear cB0 cB1 cB2 cB3 aN bP bM bK bJ bI bH;replace B:=B.call hb1;replace H:=H.call hb1;replace hb:=aj hb hb1;clear hb1;obtain ⟨cB0,cB1,cB2,cB3,aN⟩:=B.p5;obtain ⟨bP,bM,bK,bJ,bI,bH⟩:=H.p6;go_wp2_with fail;refine (hW2 _).mono ?_;rintro _ w2 ⟨rfl,hb1⟩;clear cB0 cB1 cB2 cB3 aN bP bM bK bJ bI bH;replace B:=B.call hb1;replace H:=H.call hb1;replace hb:=aj hb hb1;clear hb1;obtain ⟨cB0,cB1,cB2,cB3,aN⟩:=B.p5;obtain ⟨bP,bM,bK,bJ,bI,bH⟩:=H.p6;go_wp2_with fail;refine (hV _).mono ?_;rintro _ w3 ⟨rfl,hb1⟩;clear cB0 cB1 cB2 cB3 aN bP bM bK bJ bI bH;replace B:=B.call hb1;replace H:=H.call hb1;replace hb:=aj hb hb1;clear hb1;obtain ⟨cB0,cB1,cB2,cB3,aN⟩:=B.p5;obtain ⟨bP,bM,bK,bJ,bI,bH⟩:=H.p6;go_wp2_with fail;refine (Gp (n:=0) (d:=1) (qa:=za) (qb:=zb) _ hI0 hI1 (by decide) ⟨rfl⟩ lz).mono ?_;rintro _ w4 ⟨rfl,hb1⟩;clear cB0 cB1 cB2 cB3 aN bP bM bK bJ bI bH;replace B:=B.call hb1;replace H:=H.call hb1;replace hb:=aj hb hb1;clear hb1;replace B:=B.new (.cells #[.string ⟨za.toArray⟩,.string ⟨zb.toArray⟩] 51);replace H:=H.new (.cells #[.string ⟨za.toArray⟩,.string ⟨zb.toArray⟩] 51);have Z:=Bx.mk w4 51 #[.string ⟨za.toArray⟩,.string ⟨zb.toArray⟩];replace hb:=bNew hb (.cells #[.string ⟨za.toArray⟩,.string ⟨zb.toArray⟩] 51);obtain ⟨cB0,cB1,cB2,cB3,aN⟩:=B.p5;obtain ⟨bP,bM,bK,bJ,bI,bH⟩:=H.p6;have iJ:=Z.cell 0 rfl;have iI:=Z.cell 1 rfl;go_wp2_with fail;refine (kV _).mono ?_;rintro _ w5 ⟨rfl,hb1⟩;clear cB0 cB1 cB2 cB3 aN bP bM bK bJ bI bH iJ iI;replace B:=B.call hb1;replace H:=H.call hb1;replace Z:=Z.call hb1;replace hb:=aj hb hb1;clear hb1;replace B:=B.new (.cells #[.string ⟨va.toArray⟩,.string ⟨vb.toArray⟩] 51);replace H:=H.new (.cells #[.string ⟨va.toArray⟩,.string ⟨vb.toArray⟩] 51);replace Z:=Z.new (.cells #[.string ⟨va.toArray⟩,.string ⟨vb.toArray⟩] 51);have V:=Bx.mk w5 51 #[.string ⟨va.toArray⟩,.string ⟨vb.toArray⟩];replace hb:=bNew hb (.cells #[.string ⟨va.toArray⟩,.string ⟨vb.toArray⟩] 51);obtain ⟨cB0,cB1,cB2,cB3,aN⟩:=B.p5;obtain ⟨bP,bM,bK,bJ,bI,bH⟩:=H.p6;have iJ:=Z.cell 0 rfl;have iI:=Z.cell 1 rfl;have jL:=V.cell 0 rfl;have jK:=V.cell 1 rfl;go_wp2_with fail;refine (xw _ lq lz hq (nT hI0) hz).mono ?_;rintro _ w6 ⟨rfl,hb1⟩;clear cB0 cB1 cB2 cB3 aN bP bM bK bJ bI bH iJ iI jL jK;replace B:=B.call hb1;replace H:=H.call hb1;replace Z:=Z.call hb1;replace V:=V.call hb1;replace hb:=aj hb hb1;clear hb1;obtain ⟨cB0,cB1,cB2,cB3,aN⟩:=B.p5;obtain ⟨bP,bM,bK,bJ,bI,bH⟩:=H.p6;have iJ:=Z.cell 0 rfl;have iI:=Z.cell 1 rfl;have jL:=V.cell 0 rfl;have jK:=V.cell 1 rfl;go_wp2_with fail;refine (xw _ lq lv hq hfl hl).mono ?_;rintro _ w7 ⟨rfl,hb1⟩;clear cB0 cB1 cB2 cB3 aN bP bM bK bJ bI bH iJ iI jL jK;replace B:=B.call hb1;replace H:=H.call hb1;replace Z:=Z.call hb1;replace V:=V.call hb1;replace hb:=aj hb hb1;clear hb1;obtain ⟨cB0,cB1,cB2,cB3,aN⟩:=B.p5;obtain ⟨bP,bM,bK,bJ,bI,bH⟩:=H.p6;have iJ:=Z.cell 0 rfl;have iI:=Z.cell 1 rfl;have jL:=V.cell 0 rfl;have jK:=V.cell 1 rfl;go_wp2;go_ret;exact ⟨aH (by first|rfl|simp),hb⟩
     · clear hf;obtain rfl:=hd.out.trans hv.out
       go_enter Tryz.func52,Tryz.ntmps52
       obtain⟨cB0,cB1,cB2,cB3,aN⟩:=B.p5;obtain ⟨bP,bM,bK,bJ,bI,bH⟩:=H.p6;go_wp2_with fail;refine (hW1 _).mono ?_;rintro _ w1 ⟨rfl,hb1⟩;clear cB0 cB1 cB2 cB3 aN bP bM bK bJ bI bH;replace B:=B.call hb1;replace H:=H.call hb1;replace hb:=aj hb hb1;clear hb1;obtain ⟨cB0,cB1,cB2,cB3,aN⟩:=B.p5;obtain ⟨bP,bM,bK,bJ,bI,bH⟩:=H.p6;go_wp2_with fail;refine (hW2 _).mono ?_;rintro _ w2 ⟨rfl,hb1⟩;clear cB0 cB1 cB2 cB3 aN bP bM bK bJ bI bH;replace B:=B.call hb1;replace H:=H.call hb1;replace hb:=aj hb hb1;clear hb1;obtain ⟨cB0,cB1,cB2,cB3,aN⟩:=B.p5;obtain ⟨bP,bM,bK,bJ,bI,bH⟩:=H.p6;go_wp2_with fail;refine (hV _).mono ?_;rintro _ w3 ⟨rfl,hb1⟩;clear cB0 cB1 cB2 cB3 aN bP bM bK bJ bI bH;replace B:=B.call hb1;replace H:=H.call hb1;replace hb:=aj hb hb1;clear hb1;obtain ⟨cB0,cB1,cB2,cB3,aN⟩:=B.p5;obtain ⟨bP,bM,bK,bJ,bI,bH⟩:=H.p6;go_wp2_with fail;refine (Gp (n:=0) (d:=1) (qa:=za) (qb:=zb) _ hI0 hI1 (by decide) ⟨rfl⟩ lz).mono ?_;rintro _ w4 ⟨rfl,hb1⟩;clear cB0 cB1 cB2 cB3 aN bP bM bK bJ bI bH;replace B:=B.call hb1;replace H:=H.call hb1;replace hb:=aj hb hb1;clear hb1;replace B:=B.new (.cells #[.string ⟨za.toArray⟩,.string ⟨zb.toArray⟩] 51);replace H:=H.new (.cells #[.string ⟨za.toArray⟩,.string ⟨zb.toArray⟩] 51);have Z:=Bx.mk w4 51 #[.string ⟨za.toArray⟩,.string ⟨zb.toArray⟩];replace hb:=bNew hb (.cells #[.string ⟨za.toArray⟩,.string ⟨zb.toArray⟩] 51);obtain ⟨cB0,cB1,cB2,cB3,aN⟩:=B.p5;obtain ⟨bP,bM,bK,bJ,bI,bH⟩:=H.p6;have iJ:=Z.cell 0 rfl;have iI:=Z.cell 1 rfl;go_wp2_with fail;refine (kV _).mono ?_;rintro _ w5 ⟨rfl,hb1⟩;clear cB0 cB1 cB2 cB3 aN bP bM bK bJ bI bH iJ iI;replace B:=B.call hb1;replace H:=H.call hb1;replace Z:=Z.call hb1;replace hb:=aj hb hb1;clear hb1;replace B:=B.new (.cells #[.string ⟨va.toArray⟩,.string ⟨vb.toArray⟩] 51);replace H:=H.new (.cells #[.string ⟨va.toArray⟩,.string ⟨vb.toArray⟩] 51);replace Z:=Z.new (.cells #[.string ⟨va.toArray⟩,.string ⟨vb.toArray⟩] 51);have V:=Bx.mk w5 51 #[.string ⟨va.toArray⟩,.string ⟨vb.toArray⟩];replace hb:=bNew hb (.cells #[.string ⟨va.toArray⟩,.string ⟨vb.toArray⟩] 51);obtain ⟨cB0,cB1,cB2,cB3,aN⟩:=B.p5;obtain ⟨bP,bM,bK,bJ,bI,bH⟩:=H.p6;have iJ:=Z.cell 0 rfl;have iI:=Z.cell 1 rfl;have jL:=V.cell 0 rfl;have jK:=V.cell 1 rfl;go_wp2_with fail;refine (xw _ lq lz hq (nT hI0) hz).mono ?_;rintro _ w6 ⟨rfl,hb1⟩;clear cB0 cB1 cB2 cB3 aN bP bM bK bJ bI bH iJ iI jL jK;replace B:=B.call hb1;replace H:=H.call hb1;replace Z:=Z.call hb1;replace V:=V.call hb1;replace hb:=aj hb hb1;clear hb1;obtain ⟨cB0,cB1,cB2,cB3,aN⟩:=B.p5;obtain ⟨bP,bM,bK,bJ,bI,bH⟩:=H.p6;have iJ:=Z.cell 0 rfl;have iI:=Z.cell 1 rfl;have jL:=V.cell 0 rfl;have jK:=V.cell 1 rfl;go_wp2_with fail;refine (xw _ lq lv hq hfl hl).mono ?_;rintro _ w7 ⟨rfl,hb1⟩;clear cB0 cB1 cB2 cB3 aN bP bM bK bJ bI bH iJ iI jL jK;replace B:=B.call hb1;replace H:=H.call hb1;replace Z:=Z.call hb1;replace V:=V.call hb1;replace hb:=aj hb hb1;clear hb1;obtain ⟨cB0,cB1,cB2,cB3,aN⟩:=B.p5;obtain ⟨bP,bM,bK,bJ,bI,bH⟩:=H.p6;have iJ:=Z.cell 0 rfl;have iI:=Z.cell 1 rfl;have jL:=V.cell 0 rfl;have jK:=V.cell 1 rfl;go_wp2_with fail;refine (hW3 _).mono ?_;rintro _ w8 ⟨rfl,hb1⟩;clear cB0 cB1 cB2 cB3 aN bP bM bK bJ bI bH iJ iI jL jK;replace B:=B.call hb1;replace H:=H.call hb1;replace Z:=Z.call hb1;replace V:=V.call hb1;replace hb:=aj hb hb1;clear hb1;obtain ⟨cB0,cB1,cB2,cB3,aN⟩:=B.p5;obtain ⟨bP,bM,bK,bJ,bI,bH⟩:=H.p6;have iJ:=Z.cell 0 rfl;have iI:=Z.cell 1 rfl;have jL:=V.cell 0 rfl;have jK:=V.cell 1 rfl;go_wp2;go_ret;exact ⟨rfl,hb⟩
     · clear hf;obtain rfl:=hd.out.trans hv.out
       go_enter Tryz.func52,Tryz.ntmps52
       obtain⟨cB0,cB1,cB2,cB3,aN⟩:=B.p5;obtain ⟨bP,bM,bK,bJ,bI,bH⟩:=H.p6;go_wp2_with fail;refine (hW1 _).mono ?_;rintro _ w1 ⟨rfl,hb1⟩;clear cB0 cB1 cB2 cB3 aN bP bM bK bJ bI bH;replace B:=B.call hb1;replace H:=H.call hb1;replace hb:=aj hb hb1;clear hb1;obtain ⟨cB0,cB1,cB2,cB3,aN⟩:=B.p5;obtain ⟨bP,bM,bK,bJ,bI,bH⟩:=H.p6;go_wp2_with fail;refine (hW2 _).mono ?_;rintro _ w2 ⟨rfl,hb1⟩;clear cB0 cB1 cB2 cB3 aN bP bM bK bJ bI bH;replace B:=B.call hb1;replace H:=H.call hb1;replace hb:=aj hb hb1;clear hb1;obtain ⟨cB0,cB1,cB2,cB3,aN⟩:=B.p5;obtain ⟨bP,bM,bK,bJ,bI,bH⟩:=H.p6;go_wp2_with fail;refine (hV _).mono ?_;rintro _ w3 ⟨rfl,hb1⟩;clear cB0 cB1 cB2 cB3 aN bP bM bK bJ bI bH;replace B:=B.call hb1;replace H:=H.call hb1;replace hb:=aj hb hb1;clear hb1;obtain ⟨cB0,cB1,cB2,cB3,aN⟩:=B.p5;obtain ⟨bP,bM,bK,bJ,bI,bH⟩:=H.p6;go_wp2_with fail;refine (Gp (n:=0) (d:=1) (qa:=za) (qb:=zb) _ hI0 hI1 (by decide) ⟨rfl⟩ lz).mono ?_;rintro _ w4 ⟨rfl,hb1⟩;clear cB0 cB1 cB2 cB3 aN bP bM bK bJ bI bH;replace B:=B.call hb1;replace H:=H.call hb1;replace hb:=aj hb hb1;clear hb1;replace B:=B.new (.cells #[.string ⟨za.toArray⟩,.string ⟨zb.toArray⟩] 51);replace H:=H.new (.cells #[.string ⟨za.toArray⟩,.string ⟨zb.toArray⟩] 51);have Z:=Bx.mk w4 51 #[.string ⟨za.toArray⟩,.string ⟨zb.toArray⟩];replace hb:=bNew hb (.cells #[.string ⟨za.toArray⟩,.string ⟨zb.toArray⟩] 51);obtain ⟨cB0,cB1,cB2,cB3,aN⟩:=B.p5;obtain ⟨bP,bM,bK,bJ,bI,bH⟩:=H.p6;have iJ:=Z.cell 0 rfl;have iI:=Z.cell 1 rfl;go_wp2_with fail;refine (kV _).mono ?_;rintro _ w5 ⟨rfl,hb1⟩;clear cB0 cB1 cB2 cB3 aN bP bM bK bJ bI bH iJ iI;replace B:=B.call hb1;replace H:=H.call hb1;replace Z:=Z.call hb1;replace hb:=aj hb hb1;clear hb1;replace B:=B.new (.cells #[.string ⟨va.toArray⟩,.string ⟨vb.toArray⟩] 51);replace H:=H.new (.cells #[.string ⟨va.toArray⟩,.string ⟨vb.toArray⟩] 51);replace Z:=Z.new (.cells #[.string ⟨va.toArray⟩,.string ⟨vb.toArray⟩] 51);have V:=Bx.mk w5 51 #[.string ⟨va.toArray⟩,.string ⟨vb.toArray⟩];replace hb:=bNew hb (.cells #[.string ⟨va.toArray⟩,.string ⟨vb.toArray⟩] 51);obtain ⟨cB0,cB1,cB2,cB3,aN⟩:=B.p5;obtain ⟨bP,bM,bK,bJ,bI,bH⟩:=H.p6;have iJ:=Z.cell 0 rfl;have iI:=Z.cell 1 rfl;have jL:=V.cell 0 rfl;have jK:=V.cell 1 rfl;go_wp2_with fail;refine (xw _ lq lz hq (nT hI0) hz).mono ?_;rintro _ w6 ⟨rfl,hb1⟩;clear cB0 cB1 cB2 cB3 aN bP bM bK bJ bI bH iJ iI jL jK;replace B:=B.call hb1;replace H:=H.call hb1;replace Z:=Z.call hb1;replace V:=V.call hb1;replace hb:=aj hb hb1;clear hb1;obtain ⟨cB0,cB1,cB2,cB3,aN⟩:=B.p5;obtain ⟨bP,bM,bK,bJ,bI,bH⟩:=H.p6;have iJ:=Z.cell 0 rfl;have iI:=Z.cell 1 rfl;have jL:=V.cell 0 rfl;have jK:=V.cell 1 rfl;go_wp2_with fail;refine (xw _ lq lv hq hfl hl).mono ?_;rintro _ w7 ⟨rfl,hb1⟩;clear cB0 cB1 cB2 cB3 aN bP bM bK bJ bI bH iJ iI jL jK;replace B:=B.call hb1;replace H:=H.call hb1;replace Z:=Z.call hb1;replace V:=V.call hb1;replace hb:=aj hb hb1;clear hb1;obtain ⟨cB0,cB1,cB2,cB3,aN⟩:=B.p5;obtain ⟨bP,bM,bK,bJ,bI,bH⟩:=H.p6;have iJ:=Z.cell 0 rfl;have iI:=Z.cell 1 rfl;have jL:=V.cell 0 rfl;have jK:=V.cell 1 rfl;go_wp2_with fail;refine (hW3 _).mono ?_;rintro _ w8 ⟨rfl,hb1⟩;clear cB0 cB1 cB2 cB3 aN bP bM bK bJ bI bH iJ iI jL jK;replace B:=B.call hb1;replace H:=H.call hb1;replace Z:=Z.call hb1;replace V:=V.call hb1;replace hb:=aj hb hb1;clear hb1;obtain ⟨cB0,cB1,cB2,cB3,aN⟩:=B.p5;obtain ⟨bP,bM,bK,bJ,bI,bH⟩:=H.p6;have iJ:=Z.cell 0 rfl;have iI:=Z.cell 1 rfl;have jL:=V.cell 0 rfl;have jK:=V.cell 1 rfl;go_wp2;go_ret;exact ⟨rfl,hb⟩
     · exact absurd ((hd.out.trans hv.out).symm.trans hf) (by decide)
theorem Gm (c e lo re pay:Int) (l:List Tf.Ho) (A:Option Addr) (cap:Nat) (w:World) (hA:At 6 aX w w.heap.size A l) (hn:l.length<=cap) (hl:l.length<=9223372036854775807) (hs:∀h∈l,Oy h) (hv:wB ⟨c,e,lo,re,pay⟩ l) :
 aW 20 #[.agg #[.int .i64 c,.int .i64 e,.int .i64 lo,.int .i64 re,.int .i64 pay],.slice A l.length cap] w (.bool (sH ⟨c,e,lo,re,pay⟩ l)):=by
 have hR:=fun w0=>Jm c e lo re pay w0
 have hT:Kp (sH ⟨c,e,lo,re,pay⟩ l=true):=⟨l7 hv⟩
 have hfa:Kp (∀(k:Nat) (hk:k<l.length),vK c e l[k]=true):=⟨fun k hk=>yh (hv.2.fm _ (List.getElem_mem hk))⟩
 have Z4:=hv.2.len;have hva1:=hv.1;clear hv;have B:=Bx.mk w 31 #[.int .i64 c,.int .i64 e,.int .i64 lo,.int .i64 re,.int .i64 pay];have hb:=au w (.cells #[.int .i64 c,.int .i64 e,.int .i64 lo,.int .i64 re,.int .i64 pay] 31);obtain ⟨c0,c1,c2,c3,c4⟩:=B.p5
 cases JF:AL c e lo re pay with
 | false=>exact absurd (JF.symm.trans (jq.2 hva1)) (by decide)
 | true =>
  rw[JF]at hR;have hch:=D5 JF;have hok:=jq.1 JF;have hlo1:=hok.l1;have hlo2:=hok.l2;have Ya:=hok.r1;have X_:=hok.r2;dsimp only at hlo1 hlo2 Ya X_;by_cases h20:20<l.length
  · exact absurd Z4 (by omega)
  · have yA:Kp (¬Tf.Va (rF c e) ⟨c,e,lo,re,pay⟩ l->sH ⟨c,e,lo,re,pay⟩ l=false):=⟨fun h=>qF fun hv=>h hv.2⟩
    have sU:Kp (Tf.Va (rF c e) ⟨c,e,lo,re,pay⟩ l->sH ⟨c,e,lo,re,pay⟩ l=true):=⟨fun h=>l7 ⟨hok,h⟩⟩
    clear hok;generalize sH ⟨c,e,lo,re,pay⟩ l=res at *
    go_enter Tryz.func20,Tryz.ntmps20
    go_wp2_with fail;refine (hR _).mono ?_;rintro _ w1 ⟨rfl,hb1⟩;replace B:=B.call hb1;replace hb:=aj hb hb1;clear c0 c1 c2 c3 c4 hb1 hR;go_wp2
    go_loopw [5] (fun s5 wr=>∃k:Nat,k<=l.length/\s5=.int .i64 k/\Kp (Tf.Va (rF c e) ⟨c,e,lo,re,pay⟩ (l.take k))/\Bx wr w.heap.size 31 #[.int .i64 c,.int .i64 e,.int .i64 lo,.int .i64 re,.int .i64 pay]/\Below w.heap.size w wr) (fun s5 _=>l.length-(intOf s5).toNat)
    case atStart=>exact⟨0,Nat.zero_le _,rfl,⟨Tf.Va.nil _ _⟩,B,hb⟩
    case round =>
     clear B hb;obtain ⟨k,hk,rfl,hva,B,hb⟩:=hrel;by_cases hlt:k<l.length
     · obtain⟨b,off,rfl,hbB,hcell⟩:=hA (by omega);have hck:l[k]? = some l[k]:=List.getElem?_eq_getElem hlt;have hcl:=fun (j:Nat) u (hj:(aX l[k])[j]? = some u) d os=>((gu hb d os).cell (p:=⟨b,off+k*6+j,none⟩) hbB).trans (hcell k _ hck j u hj)
       have g0:=hcl 0 _ rfl;have g1:=hcl 1 _ rfl;have g2:=hcl 2 _ rfl;have g3:=hcl 3 _ rfl;have g4:=hcl 4 _ rfl;have g5:=hcl 5 _ rfl;have r0:=fun d os=>(B.again d os).cell 0 rfl
       have r1:=fun d os=>(B.again d os).cell 1 rfl
       have r2:=fun d os=>(B.again d os).cell 2 rfl
       have r3:=fun d os=>(B.again d os).cell 3 rfl
       have r4:=fun d os=>(B.again d os).cell 4 rfl
       obtain⟨hs1,hs2⟩:=hs _ (List.getElem_mem hlt);have kF:=fun x os=>Ea c e lo re pay l[k].n l[k].f l[k].v l[k].d l[k].b.1 l[k].b.2 (Sort.grow (redrawn wr x) os) hch hs1 hs2 (hfa.out k hlt)
       have hfe:(⟨l[k].n,l[k].f,(l[k].b.1,l[k].b.2),l[k].v,l[k].d⟩:Tf.Ho)=l[k]:=rfl;rw [hfe]at kF;have hstep:=fun hf hn=>Tf.Va.step' (P:=rF c e) (r:=⟨c,e,lo,re,pay⟩) hlt (by omega) hva.out hf hn
       have QI:Kp (Tf.Fm (rF c e) l[k]->(∀(j:Nat) (hj:j<k),Tf.Nx ⟨c,e,lo,re,pay⟩ (l[j]'(by omega)) l[k])->Tf.Va (rF c e) ⟨c,e,lo,re,pay⟩ (l.take (k+1))):=⟨hstep⟩
       clear hstep hcl hck
       cases hfm:vK c e l[k] with
       | false=>exact absurd (hfm.symm.trans (hfa.out k hlt)) (by decide)
       | true =>
        have hf:=su.1 hfm;rw [hfm]at kF;have hf0:=hf.f0;have hf2:=hf.f2;have aae:=fun (j:Nat) (hj:j<k) (h:¬Tf.Nx ⟨c,e,lo,re,pay⟩ (l[j]'(by omega)) l[k])=>yA.out (Tf.Va.JA hlt hj h)
        have WU:=QI.out hf;have WO:Kp (∀(j:Nat) (hj:j<k),¬Tf.Nx ⟨c,e,lo,re,pay⟩ (l[j]'(by omega)) l[k]->res=false):=⟨aae⟩
        have Rj:Kp ((∀(j:Nat) (hj:j<k),Tf.Nx ⟨c,e,lo,re,pay⟩ (l[j]'(by omega)) l[k])->Tf.Va (rF c e) ⟨c,e,lo,re,pay⟩ (l.take (k+1))):=⟨WU⟩
        have jB:Kp (∀(i:Nat) (cc:Tf.Ho),l[i]? = some cc->∀(j:Nat) (u:Value),(aX cc)[j]? = some u->w.cell? ⟨b,off+i*6+j,none⟩=some u):=⟨hcell⟩
        clear hfm hcell hs hs1 hs2 QI hfe hf aae WU;simp only[Nat.add_zero]at g0;go_wp2_with fail;refine wp_region_quiet_below (by kernel_rfl) (by kernel_rfl) ?_
        repeat (go_big_quiet_step (first
         | (go_at_call 52;with_reducible exact Calls.regrown_of (kF _ _))))
        refine wpQuiet_nil ?_;rintro _ ⟨z,rfl⟩;have hbz:=below_regrown wr z.d z.os;replace hb:=aj hb hbz;replace B:=B.call hbz;clear kF g0 g1 g2 g3 g4 g5 r0 r1 r2 r3 r4 hbz;generalize Sort.grow (redrawn wr z.d) z.os=W1 at *;go_wp2_with fail
        go_loopw [6] (fun s6 wr=>∃j:Nat,j<=k/\s6=.int .i64 j/\Kp (∀(i:Nat) (hi:i<j) (hk:i<l.length),Tf.Nx ⟨c,e,lo,re,pay⟩ l[i] l[k])/\Bx wr w.heap.size 31 #[.int .i64 c,.int .i64 e,.int .i64 lo,.int .i64 re,.int .i64 pay]/\Below w.heap.size w wr) (fun s6 _=>k-(intOf s6).toNat)
        case atStart=>exact⟨0,Nat.zero_le _,rfl,⟨fun i hi=>by omega⟩,B,hb⟩
        case round =>
         clear B hb;obtain ⟨j,hj,rfl,hnx,B,hb⟩:=hrel;by_cases hjk:j<k
         · have hjl:j<l.length:=by omega
           have hgk:=fun (m:Nat) u (hm:(aX l[k])[m]? = some u) d os=>((gu hb d os).cell (p:=⟨b,off+k*6+m,none⟩) hbB).trans (jB.out k _ (List.getElem?_eq_getElem hlt) m u hm)
           have hgj:=fun (m:Nat) u (hm:(aX l[j])[m]? = some u) d os=>((gu hb d os).cell (p:=⟨b,off+j*6+m,none⟩) hbB).trans (jB.out j _ (List.getElem?_eq_getElem hjl) m u hm)
           have gk0:=hgk 0 _ rfl;have gk1:=hgk 1 _ rfl;have gj0:=hgj 0 _ rfl;have gj1:=hgj 1 _ rfl;have gj2:=hgj 2 _ rfl;have gj3:=hgj 3 _ rfl;have gj4:=hgj 4 _ rfl;have gj5:=hgj 5 _ rfl;simp only[Nat.add_zero]at gk0 gj0;have r0:=fun d os=>(B.again d os).cell 0 rfl
           have r1:=fun d os=>(B.again d os).cell 1 rfl
           have r2:=fun d os=>(B.again d os).cell 2 rfl
           have r3:=fun d os=>(B.again d os).cell 3 rfl
           have r4:=fun d os=>(B.again d os).cell 4 rfl
           have hfj:=Ui hlt hva.out hjk;have hfj0:=hfj.f0;have hfj2:=hfj.f2
           have hsp:Tf.Sp ⟨c,e,lo,re,pay⟩ l[j]:=Tf.FT (by dsimp only;omega) fun h=>by
            rcases hfj.v with ⟨a,-⟩|⟨-,a,-⟩
            · rw[h]at a;cases a
            · exact a
           obtain⟨sp1,sp2⟩:=hsp;dsimp only at sp2;have kE:=fun x os=>CQ c e lo re pay l[j].n l[j].f l[j].v l[j].d l[j].b.1 l[j].b.2 (Sort.grow (redrawn wr x) os) ⟨by omega,by omega⟩ ⟨by omega,by omega⟩
           have hfe:(⟨l[j].n,l[j].f,(l[j].b.1,l[j].b.2),l[j].v,l[j].d⟩:Tf.Ho)=l[j]:=rfl;rw [hfe]at kE;have hno:=WO.out j hjk;have NG:=XJ ⟨c,e,lo,re,pay⟩ l[j] l[k];dsimp only at NG
           have hmore:Kp (Tf.Nx ⟨c,e,lo,re,pay⟩ l[j] l[k]->∀(i:Nat) (hi:i<j+1) (hk:i<l.length),Tf.Nx ⟨c,e,lo,re,pay⟩ l[i] l[k]):=⟨fun h i hi hk2=>by
            rcases Nat.lt_or_ge i j with h1|h1
            · exact hnx.out i h1 hk2
            · obtain rfl:i=j:=by omega
              exact h⟩
           have jA:(l[k].f<l[j].f/\Kp (res=false))∨(¬l[k].f<l[j].f/\l[k].n=l[j].n/\l[k].f<Tf.fin ⟨c,e,lo,re,pay⟩ l[j]+re/\Kp (res=false)) ∨
            (¬l[k].f<l[j].f/\l[k].n=l[j].n/\¬l[k].f<Tf.fin ⟨c,e,lo,re,pay⟩ l[j]+re/\Kp (Tf.Nx ⟨c,e,lo,re,pay⟩ l[j] l[k]))∨(¬l[k].f<l[j].f/\¬l[k].n=l[j].n/\Kp (Tf.Nx ⟨c,e,lo,re,pay⟩ l[j] l[k])):=by
            by_cases x1:l[k].f<l[j].f
            · exact .inl ⟨x1,⟨hno fun h=>NG.1 h (.inl x1)⟩⟩
            · by_cases x2:l[k].n=l[j].n
              · by_cases x3:l[k].f<Tf.fin ⟨c,e,lo,re,pay⟩ l[j]+re
                · exact .inr (.inl ⟨x1,x2,x3,⟨hno fun h=>NG.1 h (.inr ⟨x2,x3⟩)⟩⟩)
                · exact .inr (.inr (.inl ⟨x1,x2,x3,⟨NG.2 (by omega)⟩⟩))
              · exact .inr (.inr (.inr ⟨x1,x2,⟨NG.2 (by omega)⟩⟩))
           clear hgk hgj hfj hfe hno NG hnx hA jB;generalize Tf.fin ⟨c,e,lo,re,pay⟩ l[j]=fj at *
           rcases jA with ⟨x1,hr⟩|⟨x1,x2,x3,hr⟩|⟨x1,x2,x3,hr⟩|⟨x1,x2,hr⟩
           · exact absurd (hr.out.symm.trans hT.out) (by decide)
           · exact absurd (hr.out.symm.trans hT.out) (by decide)
           · rw[x2]at gk0;clear x2;have t1:decide (l[k].f<l[j].f)=false:=decide_eq_false x1;have t2:(l[j].n==l[j].n)=true:=beq_self_eq_true _;have t3:decide (l[k].f<fj+re)=false:=decide_eq_false x3;go_wp2_with fail;refine wp_region_quiet_below (by kernel_rfl) (by kernel_rfl) ?_
             repeat (go_big_quiet_step (first
              | (go_at_call 46;with_reducible exact Calls.regrown_of (kE _ _))))
             refine wpQuiet_nil ?_;rintro _ ⟨z,rfl⟩;have hbz:=below_regrown wr z.d z.os;replace hb:=aj hb hbz;replace B:=B.call hbz;clear kE gk0 gk1 gj0 gj1 gj2 gj3 gj4 gj5 r0 r1 r2 r3 r4 hbz;generalize Sort.grow (redrawn wr z.d) z.os=W2 at *;go_wp2;exact ⟨⟨j+1,by omega,by go_num,⟨hmore.out hr.out⟩,B,hb⟩,by simp[intOf] <;> omega⟩
           · have t1:decide (l[k].f<l[j].f)=false:=decide_eq_false x1;have t2:(l[k].n==l[j].n)=false:=by simpa using x2
             go_wp2_with fail;refine wp_region_quiet_below (by kernel_rfl) (by kernel_rfl) ?_
             repeat (go_big_quiet_step (first
              | (go_at_call 46;with_reducible exact Calls.regrown_of (kE _ _))))
             refine wpQuiet_nil ?_;rintro _ ⟨z,rfl⟩;have hbz:=below_regrown wr z.d z.os;replace hb:=aj hb hbz;replace B:=B.call hbz;clear kE gk0 gk1 gj0 gj1 gj2 gj3 gj4 gj5 r0 r1 r2 r3 r4 hbz;generalize Sort.grow (redrawn wr z.d) z.os=W2 at *;go_wp2;exact ⟨⟨j+1,by omega,by go_num,⟨hmore.out hr.out⟩,B,hb⟩,by simp[intOf] <;> omega⟩
         · obtain rfl:j=k:=by omega
           have hnew:Kp (Tf.Va (rF c e) ⟨c,e,lo,re,pay⟩ (l.take (j+1))):=⟨Rj.out fun i hi=>hnx.out i hi (by omega)⟩
           clear hnx Rj WO jB hA;go_wp2;exact ⟨⟨j+1,by omega,by go_num,hnew,B,hb⟩,by simp[intOf] <;> omega⟩
     · obtain rfl:k=l.length:=by omega
       obtain rfl:=sU.out hva.out.whole;clear hA hs hva yA sU;go_wp2;go_ret;exact ⟨rfl,hb⟩
open Go.RowKit
def mkD (D:Nat):Deferred:={ target:=.collected D,args:=#[] }
def Marks (lo hi:Nat) (ds:List Deferred) (W:World):Prop:=∃Ds:List Nat,ds=Ds.map mkD/\Ds.Nodup/\∀D∈Ds,lo<=D/\D<hi/\W.heap[D]? = some (.deferred (some []))
theorem Marks.nil (lo hi:Nat) (W:World):Marks lo hi [] W:=⟨[],rfl,List.nodup_nil,fun D h=>by cases h⟩
theorem Marks.more {lo hi hi':Nat} {ds:List Deferred} {W:World} (h:Marks lo hi ds W) (hh:hi<=hi'):Marks lo hi' ds W:=by
 obtain⟨Ds,h1,h2,h3⟩:=h;exact ⟨Ds,h1,h2,fun D hD=>⟨(h3 D hD).1,by have:=(h3 D hD).2.1;omega,(h3 D hD).2.2⟩⟩
theorem Marks.below {lo hi:Nat} {ds:List Deferred} {W W':World} (h:Marks lo hi ds W) (hb:Below hi W W'):Marks lo hi ds W':=by
 obtain⟨Ds,h1,h2,h3⟩:=h;exact ⟨Ds,h1,h2,fun D hD=>⟨(h3 D hD).1,(h3 D hD).2.1,(hb.block D (h3 D hD).2.1).trans (h3 D hD).2.2⟩⟩
theorem Marks.set {lo hi:Nat} {ds:List Deferred} {W:World} (h:Marks lo hi ds W) {g:Nat} {t:TypeId} {cs:Array Value} (hB:Bx W g t cs) (i:Nat) (u:Value):Marks lo hi ds (W.setCell ⟨g,i,none⟩ u):=by
 obtain⟨Ds,h1,h2,h3⟩:=h;refine ⟨Ds,h1,h2,fun D hD=>⟨(h3 D hD).1,(h3 D hD).2.1,?_⟩⟩
 have hne:D≠g:=fun e=>by
  have h4:=(h3 D hD).2.2;rw [e,show W.heap[g]? = _ from hB]at h4;cases h4
 exact (Below.heap_setCell W ⟨g,i,none⟩ u D hne).trans (h3 D hD).2.2
theorem Marks.push {lo hi D:Nat} {ds:List Deferred} {W:World} (h:Marks lo hi ds W) (hD:hi<=D) (hlo:lo<=hi) (hd:W.heap[D]? = some (.deferred (some []))):Marks lo W.heap.size (mkD D :: ds) W:=by
 obtain⟨Ds,h1,h2,h3⟩:=h;have hlt:=(Array.getElem?_eq_some_iff.1 hd).1;refine ⟨D :: Ds,by rw[h1];rfl,List.nodup_cons.2 ⟨fun hm=>by have:=(h3 D hm).2.1;omega,h2⟩,fun E hE=>?_⟩
 rcases List.mem_cons.1 hE with rfl|hE
 · exact⟨by omega,hlt,hd⟩
 · exact⟨(h3 E hE).1,by have:=(h3 E hE).2.1;omega,(h3 E hE).2.2⟩
theorem GN {P:Program} {F:Fence} {n lo:Nat} {fn:Func} {tmps:Array Value} {R:Ending->World->Prop}:∀(Ds:List Nat) (W:World),Ds.Nodup->(∀D∈Ds,lo<=D/\W.heap[D]? = some (.deferred (some []))) ->
 (∀W',Below lo W W'->(∀g t cs,Bx W g t cs->Bx W' g t cs)->LeavesIn F n P fn tmps R [] .returning W')->LeavesInM F n P fn tmps R (Ds.map mkD) .returning W
 | [],W,_,_,h=>h W (Below.refl _ _) fun g t cs hB=>hB
 | D :: Ds,W,hn,hd,h=>by
  obtain⟨h1,h2⟩:=hd D (List.mem_cons_self ..);obtain ⟨n1,n2⟩:=List.nodup_cons.1 hn;refine ⟨by simp,.inl ⟨D,_,rfl,run_takeDeferred h2,GN Ds _ n2 (fun E hE=>?_) fun W' hb hB=>h W' ((iV h1 h2).trans hb) fun g t cs hx=>hB g t cs ?_⟩⟩
  · obtain⟨h3,h4⟩:=hd E (List.mem_cons_of_mem _ hE);exact ⟨h3,(World.putObj_heap_other (fun e=>n1 (by rw[←e];exact hE))).trans h4⟩
  · refine (World.putObj_heap_other ?_).trans hx;rintro rfl;rw [show W.heap[g]? = _ from hx]at h2;cases h2
theorem Marks.leave {P:Program} {F:Fence} {n lo hi:Nat} {ds:List Deferred} {fn:Func} {tmps:Array Value} {R:Ending->World->Prop} {W:World} (h:Marks lo hi ds W)
 (hr:∀W',Below lo W W'->(∀g t cs,Bx W g t cs->Bx W' g t cs)->LeavesIn F n P fn tmps R [] .returning W'):LeavesInM F n P fn tmps R ds .returning W:=by
 obtain⟨Ds,rfl,h2,h3⟩:=h;exact GN Ds W h2 (fun D hD=>⟨(h3 D hD).1,(h3 D hD).2.2⟩) hr
attribute [local go_sem] Oper.semAt_some
def Zi (h:Tf.Ho):Value:=.agg #[.int .i64 h.n,.int .i64 h.f,.string ⟨h.b.1.toArray⟩,.string ⟨h.b.2.toArray⟩,.int .i64 h.v,.int .i64 h.d]
abbrev OfE (l:List Tf.Ho) (n:Int):={ h:Tf.Ho // h∈l/\h.n=n }
def Zg {l:List Tf.Ho} {n:Int} (x:OfE l n):Array Value:=#[Zi x.1]
def ofS (l:List Tf.Ho) (n:Int) (ys:List (OfE l n)):Prop:=∀h∈l,h.n=n->∃y∈ys,y.1=h
theorem Wj (n:Nat) (A:Option Addr) (k cap:Nat) (number:Int) (w:World):CallsIn Fence.wide n Tryz.prog 49 #[.slice A k cap,.int .i64 number] w fun e w'=>e=.returned (.func (.func 77) #[] #[.pointer (some ⟨w.heap.size,0,none⟩),.pointer (some ⟨w.heap.size+1,0,none⟩)])/\w'=(w.alloc (.cells #[.slice A k cap] 33)).alloc (.cells #[.int .i64 number] 3):=by
 refine callsIn_of_wp Tryz.func49 rfl trivial ?_ rfl;simp only[Tryz.ntmps49,List.size_toArray,List.length_cons,List.length_nil,Nat.reduceAdd,Nat.reduceSub,Array.replicate_succ,Array.replicate_zero,List.push_toArray,List.append_toArray,List.nil_append,List.cons_append]
 gi_wp2
 go_ret;exact ⟨rfl,rfl⟩
theorem Qh (n:Nat) (hn1:1<=n) (l:List Tf.Ho) (A:Option Addr) (cap g1 g2:Nat) (number:Int) (w0:World) (hA:At 6 aX w0 w0.heap.size A l) (hn:l.length<=cap) (hl:l.length<=9223372036854775807)
 (B1:Bx w0 g1 33 #[.slice A l.length cap]) (B2:Bx w0 g2 3 #[.int .i64 number]) :
 VJ n Tryz.prog 77 #[.pointer (some ⟨g1,0,none⟩),.pointer (some ⟨g2,0,none⟩)] (Zg (l:=l) (n:=number)) (ofS l number) l.length w0:=by
 intro lp J Jx W hW hJ hJx hJw hY hj0;refine callsIn_of_wp Tryz.func77 rfl trivial ?_ rfl;simp only[Tryz.ntmps77,List.size_toArray,List.length_cons,List.length_nil,Nat.reduceAdd,Nat.reduceSub,Array.replicate_succ,Array.replicate_zero,List.push_toArray,List.append_toArray,List.nil_append,List.cons_append];have e1:=(B1.below hW B1.lt).cell 0 rfl
 gi_wp2_with fail
 clear e1
 gi_loopw [8] (fun s8 wr=>∃(k:Nat) (pre:List (OfE l number)),s8=.int .i64 k/\k<=l.length/\pre.length<=k/\Kp (∀(j:Nat) (hj:j<l.length),j<k->l[j].n=number->∃y∈pre,y.1=l[j])/\J pre wr/\W.heap.size<=wr.heap.size) (fun s8 _=>l.length-(intOf s8).toNat)
 case atStart=>exact⟨0,[],rfl,Nat.zero_le _,Nat.le_refl _,⟨fun j hj h=>by omega⟩,hj0,Nat.le_refl _⟩
 case round =>
  clear hj0;obtain ⟨k,pre,rfl,hk,hp,hno,hj,hsz⟩:=hrel;by_cases hlt:k<l.length
  · obtain⟨b,off,rfl,hbB,hcell⟩:=hA (by omega);have hck:l[k]? = some l[k]:=List.getElem?_eq_getElem hlt;have hb0:=hJw _ _ hj;have hcl:=fun (j:Nat) u (hj:(aX l[k])[j]? = some u)=>(hb0.cell (p:=⟨b,off+k*6+j,none⟩) hbB).trans (hcell k _ hck j u hj)
    have g0:=hcl 0 _ rfl;have g1':=hcl 1 _ rfl;have g2':=hcl 2 _ rfl;have g3:=hcl 3 _ rfl;have g4:=hcl 4 _ rfl;have g5:=hcl 5 _ rfl;simp only[Nat.add_zero]at g0;have C2:=(B2.below hb0 B2.lt)
    have x0:=(C2.new (.cells #[.int .i64 l[k].n,.int .i64 l[k].f,.string ⟨l[k].b.1.toArray⟩,.string ⟨l[k].b.2.toArray⟩,.int .i64 l[k].v,.int .i64 l[k].d] 53)).cell 0 rfl;have B3:=Bx.mk wr 53 #[.int .i64 l[k].n,.int .i64 l[k].f,.string ⟨l[k].b.1.toArray⟩,.string ⟨l[k].b.2.toArray⟩,.int .i64 l[k].v,.int .i64 l[k].d];obtain ⟨h0,h1,h2,h3,h4,h5⟩:=B3.p6;have hbn:=au wr (.cells #[.int .i64 l[k].n,.int .i64 l[k].f,.string ⟨l[k].b.1.toArray⟩,.string ⟨l[k].b.2.toArray⟩,.int .i64 l[k].v,.int .i64 l[k].d] 53);have hjn:=hJ _ _ _ hj (hbn.mono hsz);clear hcl C2 B3;by_cases hnn:l[k].n=number
    · have hmem:l[k]∈l/\l[k].n=number:=⟨List.getElem_mem hlt,hnn⟩
      obtain⟨fn,tmps,assign,body,hy,hR⟩:=hY pre ⟨l[k],hmem⟩ _ hjn (by omega);simp only[Zg,Zi]at hy
      have hnx:Kp (∀(j:Nat) (hj:j<l.length),j<k+1->l[j].n=number->∃y∈pre++[⟨l[k],hmem⟩],y.1=l[j]):=⟨fun j hj hjk hn2=>by
       rcases Nat.lt_or_ge j k with h1|h1
       · obtain⟨y,h2,h3⟩:=hno.out j hj h1 hn2;exact ⟨y,List.mem_append_left _ h2,h3⟩
       · obtain rfl:j=k:=by omega
         exact⟨⟨l[j],hmem⟩,by simp,rfl⟩⟩
      have Yf:(l[k].n==number)=true:=by simpa using hnn
      have hsz2:=Nat.le_trans hsz hbn.size;have hlen:(pre++[(⟨l[k],hmem⟩:OfE l number)]).length<=k+1:=by simp;omega
      generalize pre++[(⟨l[k],hmem⟩:OfE l number)]=pre2 at *;clear hY hj hno hcell hA hck hnn hmem hjn hbn hb0;generalize l[k]=x at *
      gi_wp2_with fail
      refine hR.mono ?_;rintro e W3 (⟨rfl,hJ3,hk3⟩|⟨rfl,hJx3⟩)
      · have hs3:=Nat.le_trans hsz2 hk3.size;clear hR hy hk3
        gi_wp2_with fail
        go_roundw
        case rel=>exact⟨k+1,pre2,by go_num,by omega,hlen,hnx,hJ3,hs3⟩
        case measure=>simp[intOf];omega
      · clear hR hy
        gi_wp2_with fail
        exact bodyPost_ret (results_none rfl _ _ _) rfl ⟨⟨_,rfl⟩,.inr ⟨_,hJx3⟩⟩
    · have Yf:(l[k].n==number)=false:=by simpa using hnn
      have hnx:Kp (∀(j:Nat) (hj:j<l.length),j<k+1->l[j].n=number->∃y∈pre,y.1=l[j]):=⟨fun j hj hjk hn2=>by
       rcases Nat.lt_or_ge j k with h1|h1
       · exact hno.out j hj h1 hn2
       · obtain rfl:j=k:=by omega
         exact absurd hn2 hnn⟩
      have hsz2:=Nat.le_trans hsz hbn.size;clear hY hj hno hcell hA hck hnn hbn hb0;generalize l[k]=x at *
      gi_wp2
      refine⟨fun _ h=>(by cases h),?_⟩
      gi_wp2
      go_roundw
      case rel=>exact⟨k+1,pre,by go_num,by omega,by omega,hnx,hjn,hsz2⟩
      case measure=>simp[intOf];omega
  · obtain rfl:k=l.length:=by omega
    have hS:ofS l number pre:=fun h hh hn2=>by
     obtain⟨j,hj,rfl⟩:=List.getElem_of_mem hh;exact hno.out j hj hj hn2
    clear hY hno
    gi_wp2
    go_end0
    exact⟨⟨_,rfl⟩,.inl ⟨_,hS,hj⟩⟩
section
variable {P:Program}
theorem Oi {os:List Oper} {a:Act} {w:World} {Q:Exit->Act->World->Prop} (hB:Region.lexB .any os.toArray=true)
 (h:wpQuiet P os.toArray (fun w'=>∃p:Regrown,w'=Sort.grow (redrawn w p.d) p.os) (fun a'=>∀w',(∃p:Regrown,w'=Sort.grow (redrawn w p.d) p.os)->Q .normal a' w') os a) :
 wpAny P .any os.toArray Q os.toArray.size (Array.replicate os.toArray.size false) a { w with drawn:=w.drawn+1 }:=by
 simp only[Region.lexB,Bool.and_eq_true]at hB;refine wpAny_of_quiet (C:=fun w'=>∃p:Regrown,w'=Sort.grow (redrawn w p.d) p.os) (Q:=fun a'=>∀w',(∃p:Regrown,w'=Sort.grow (redrawn w p.d) p.os)->Q .normal a' w') (fun _ w' hw' h=>h w' hw') _ _ _ _ ⟨⟨w.drawn+1,#[]⟩,by rw[Sort.grow_empty];rfl⟩ ?_;have:=wpAnyQ_lex (C:=fun w'=>∃p:Regrown,w'=Sort.grow (redrawn w p.d) p.os) (md:=.any) hB.1 os.toArray.toList 0 (Array.replicate os.toArray.size false) a (by simp) (by simpa using hB.2) (by simpa using h);simpa using this
theorem wpIn_region_quiet {id l m:Nat} {os:List Oper} {a:Act} {w:World} {Q:Exit->Act->World->Prop} (hm:P.follows .mixedOrders=true) (hB:Region.lexB .any os.toArray=true) (hd:rW os.toArray=true)
 (h:wpQuiet P os.toArray (fun w'=>∃p:Regrown,w'=Sort.grow (redrawn w p.d) p.os) (fun a'=>∀w',(∃p:Regrown,w'=Sort.grow (redrawn w p.d) p.os)->(.normal:Exit)=.normal/\Q .normal a' w') os a) :
 (Code.region id os.toArray true).wpIn (Fence.wide.inRound l) m P Q a w :=
 wpIn_mono (wpIn_region_any hm (tC hd (by rintro ⟨_,_,h,_⟩;cases h) _ _ _ _ (Oi (Q:=fun e a'' w''=>e=.normal/\Q .normal a'' w'') hB h))) (fun e a w ⟨he,h⟩=>he ▸ h)
end
theorem YZ {X:World} {g l:Nat} {t:TypeId} {cs:Array Value} {o o':Obj} (hB:Bx X g t cs) (ho:X.heap[l]? = some o) (hc:o.isCells=false):Bx (X.putObj l o') g t cs:=by
 refine (World.putObj_heap_other ?_).trans hB;rintro rfl;rw [show X.heap[g]? = _ from hB]at ho;cases ho;cases hc
theorem uz {α:Type} {n:Nat} {P:Program} {g:Operand} {ps:Array Tmp} {assign body:Code} {Q:Exit->Act->World->Prop} {a:Act} {w w0:World} (h1:1<=n) {gf:Nat} {lb:Array Value} (hg:a.eval g=.func (.func gf) #[] lb)
 (eg:∀args w,(callFunc gf args).run P w=.ok (.enter gf args) w) {encs:α->Array Value} {S:List α->Prop} {N:Nat} (hseq:VJ (n-1) P gf lb encs S N w0) (hb0:Below w0.heap.size w0 w) (hps:∀x,(encs x).size=ps.size)
 (I Ix:List α->World->Prop) (hI:Lo w.heap.size I) (hIx:Lo w.heap.size Ix) (OQ:∀s X,I s X->Below w0.heap.size w0 X) (hz:I [] w) (tb:Tmp) (T:TypeId) (cells:α->Array Value)
 (hassign:∀(l:Nat) (x:α) (W:World) (K:Act->World->Prop),(∀b W',Below W.heap.size W W'->Bx W' b T (cells x)->K { tmps:=((ps.zip (encs x)).foldl (fun t (p,v)=>t.setIfInBounds p v) a.tmps).setIfInBounds tb (.pointer (some ⟨b,0,none⟩)),defers:=[] } W') ->
  assign.wpIn (Fence.wide.inRound l) (n-1-1) P (Exit.then K (fun _ _ _=>False)) { tmps:=(ps.zip (encs x)).foldl (fun t (p,v)=>t.setIfInBounds p v) a.tmps,defers:=[] } W)
 (hbody:∀(l:Nat) (pre:List α) (x:α) (b:Nat) (W:World),I pre W->Bx W b T (cells x)->pre.length<N->body.wpIn (Fence.wide.inRound l) (n-1-1) P (bodyC w.heap.size I Ix (pre++[x]) W) { tmps:=((ps.zip (encs x)).foldl (fun t (p,v)=>t.setIfInBounds p v) a.tmps).setIfInBounds tb (.pointer (some ⟨b,0,none⟩)),defers:=[] } W)
 (hdone:∀(D:Nat) (xs:List α) (W:World),w.heap.size<=D->S xs->I xs W->W.heap[D]? = some (.deferred (some []))->Q .normal { a with defers:={ target:=.collected D,args:=#[] } :: a.defers } W)
 (hstop:∀(D:Nat) (pre:List α) (W:World),w.heap.size<=D->Ix pre W->W.heap[D]? = some (.deferred (some []))->Code.ret.wpIn Fence.wide n P Q { a with defers:={ target:=.collected D,args:=#[] } :: a.defers } W) :
 (Code.rangeFunc g ps assign body).wpIn Fence.wide n P Q a w :=
 uD h1 hg eg hseq hb0 hps I Ix hI hIx OQ hz
  (fun x a' X=>∃b,a'={ tmps:=((ps.zip (encs x)).foldl (fun t (p,v)=>t.setIfInBounds p v) a.tmps).setIfInBounds tb (.pointer (some ⟨b,0,none⟩)),defers:=[] }/\Bx X b T (cells x))
  (fun x a' X l o o' ⟨b,e,hB⟩ ho hc=>⟨b,e,YZ hB ho hc⟩)
  (fun l x W K hK=>hassign l x W K fun b W' hb hB=>hK _ _ hb ⟨b,rfl,hB⟩)
  (fun l pre x a' W hi ⟨b,e,hB⟩ hlen=>by subst e;exact hbody l pre x b W hi hB hlen)
  hdone hstop
attribute [local go_sem] Oper.semAt_some
theorem iC {fn:Func} {t:Tmp} {g:Nat} {b:Bool} (h:fn.results=#[.cell t 4]) (tmps:Array Value) (w:World) (ht:tmps.getD t undef=.pointer (some ⟨g,0,none⟩)) (hB:Bx w g 4 #[.bool b]) :
 (results fn tmps).run Tryz.prog w=.ok (.bool b) w:=by
 have h0:=hB.cell 0 rfl;have ht':tmps[t]?.getD undef=.pointer (some ⟨g,0,none⟩):=by simpa using ht
 simp only[results,h];simp [go_sem,ht',h0,loadVar]
theorem vJ (a:Array Value) (p:Tmp) (v:Value):(#[p].zip #[v]).foldl (fun t x=>t.setIfInBounds x.1 x.2) a=a.setIfInBounds p v:=by simp
theorem Fr.set {B g i:Nat} {W:World} {u:Value} (hg:g<B):Fr B W (W.setCell ⟨g,i,none⟩ u) :=
 ⟨((Below.refl 0 W).setCell (p:=⟨g,i,none⟩) (Nat.zero_le _) u).size,fun b o hb ho=>(Below.heap_setCell W ⟨g,i,none⟩ u b (by show b≠g;omega)).trans ho⟩
theorem tH (c e lo re pay:Int) (l:List Tf.Ho) (A:Option Addr) (cap:Nat) (w:World) (hA:At 6 aX w w.heap.size A l) (hn:l.length<=cap) (hl:l.length<=9223372036854775807) (hs:∀h∈l,Oy h) (hE:Env w) :
 aW 19 #[.agg #[.int .i64 c,.int .i64 e,.int .i64 lo,.int .i64 re,.int .i64 pay],.slice A l.length cap] w (.bool (sH ⟨c,e,lo,re,pay⟩ l)):=by
 refine (callsIn_wide (n:=4)).1 ?_;refine callsIn_of_wp_marks Tryz.func19 rfl trivial ?_ rfl;simp only[Tryz.ntmps19,List.size_toArray,List.length_cons,List.length_nil,Nat.reduceAdd,Nat.reduceSub,Array.replicate_succ,Array.replicate_zero,List.push_toArray,List.append_toArray,List.nil_append,List.cons_append];have hR:=fun w0=>pW c e lo re pay w0
 have hb:=bNew (au w (.cells #[.int .i64 c,.int .i64 e,.int .i64 lo,.int .i64 re,.int .i64 pay] 31)) (.cells #[.bool false] 4);have B:=(Bx.mk w 31 #[.int .i64 c,.int .i64 e,.int .i64 lo,.int .i64 re,.int .i64 pay]).new (.cells #[.bool false] 4);have BR:=Bx.mk (w.alloc (.cells #[.int .i64 c,.int .i64 e,.int .i64 lo,.int .i64 re,.int .i64 pay] 31)) 4 #[.bool false];rw [ah]at BR;obtain ⟨c0,c1,c2,c3,c4⟩:=B.p5;refine wpIn_wide.2 ?_
 cases JF:AL c e lo re pay with
 | false =>
  rw[JF]at hR;have hd:Kp (sH ⟨c,e,lo,re,pay⟩ l=false):=⟨B_ JF⟩
  generalize sH ⟨c,e,lo,re,pay⟩ l=res at *;obtain rfl:=hd.out;go_wp2_with fail;refine (hR _).mono ?_;rintro _ w1 ⟨rfl,hb1⟩;replace BR:=BR.call hb1;replace hb:=aj hb hb1;have d0:=BR.cell 0 rfl;have f0:=BR.frozen 0;clear c0 c1 c2 c3 c4;go_wp2;exact ⟨_,iC rfl _ _ rfl (BR.set 0 (.bool false)),rfl,aJ hb (p:=⟨w.heap.size+1,0,none⟩) (Nat.le_succ _) _⟩
 | true =>
  rw[JF]at hR;have hch:=D5 JF;have hok:=jq.1 JF;have hlo1:=hok.l1;have hlo2:=hok.l2;have Ya:=hok.r1;have X_:=hok.r2;dsimp only at hlo1 hlo2 Ya X_;by_cases h20:20<l.length
  · have hd:Kp (sH ⟨c,e,lo,re,pay⟩ l=false):=⟨qF fun hv=>Tf.Va.UW h20 hv.2⟩
    generalize sH ⟨c,e,lo,re,pay⟩ l=res at *;obtain rfl:=hd.out;clear hok hA hs;go_wp2_with fail;refine (hR _).mono ?_;rintro _ w1 ⟨rfl,hb1⟩;replace BR:=BR.call hb1;replace hb:=aj hb hb1;have d0:=BR.cell 0 rfl;have f0:=BR.frozen 0;clear c0 c1 c2 c3 c4;go_wp2;exact ⟨_,iC rfl _ _ rfl (BR.set 0 (.bool false)),rfl,aJ hb (p:=⟨w.heap.size+1,0,none⟩) (Nat.le_succ _) _⟩
  · have yA:Kp (¬Tf.Va (rF c e) ⟨c,e,lo,re,pay⟩ l->sH ⟨c,e,lo,re,pay⟩ l=false):=⟨fun h=>qF fun hv=>h hv.2⟩
    have sU:Kp (Tf.Va (rF c e) ⟨c,e,lo,re,pay⟩ l->sH ⟨c,e,lo,re,pay⟩ l=true):=⟨fun h=>l7 ⟨hok,h⟩⟩
    clear hok;generalize sH ⟨c,e,lo,re,pay⟩ l=res at *;go_wp2_with fail;refine (hR _).mono ?_;rintro _ w1 ⟨rfl,hb1⟩;replace B:=B.call hb1;replace BR:=BR.call hb1;replace hb:=aj hb hb1;clear c0 c1 c2 c3 c4 hb1 hR;go_wp2;obtain ⟨vb,hvb⟩:∃vb,vb=Value.bool (decide (20<(l.length:Int))):=⟨_,rfl⟩
    rw[←hvb];clear hvb;refine wp_loop (fun a' w'=>∃(k:Nat) (ds:List Deferred) (u5 u6 u7 u19 u20 u21 u22 u23 u24 u25 u26 u27 u28 u29 u30 u31 u32 u33 u34 u35 u36 u37 u38 u39 u40 u41 u42 u43 u44 u45 u46 u47 u48 u49 u50 u51 u52 u53 u54 u55 u56 u57 u58:Value),(k<=l.length/\Kp (Tf.Va (rF c e) ⟨c,e,lo,re,pay⟩ (l.take k))/\Bx w' w.heap.size 31 #[.int .i64 c,.int .i64 e,.int .i64 lo,.int .i64 re,.int .i64 pay]/\Bx w' (w.heap.size+1) 4 #[.bool false]/\Below w.heap.size w w'/\Marks (w.heap.size+2) w'.heap.size ds w')/\a'={ tmps:=#[.agg #[.int .i64 c,.int .i64 e,.int .i64 lo,.int .i64 re,.int .i64 pay],.slice A l.length cap,.pointer (some ⟨w.heap.size,0,none⟩),undef,.pointer (some ⟨w.heap.size+1,0,none⟩),u5,u6,u7,.agg #[.int .i64 c,.int .i64 e,.int .i64 lo,.int .i64 re,.int .i64 pay],.bool true,.bool false,.bool false,.slice A l.length cap,.int .i64 l.length,vb,vb,.slice A l.length cap,.int .i64 l.length,.int .i64 k,u19,u20,u21,u22,u23,u24,u25,u26,u27,u28,u29,u30,u31,u32,u33,u34,u35,u36,u37,u38,u39,u40,u41,u42,u43,u44,u45,u46,u47,u48,u49,u50,u51,u52,u53,u54,u55,u56,u57,u58],defers:=ds }) (fun a' _=>l.length-(intOf (a'.tmps.getD 18 undef)).toNat) ?start ?round
    case start=>exact⟨0,[],_,_,_,_,_,_,_,_,_,_,_,_,_,_,_,_,_,_,_,_,_,_,_,_,_,_,_,_,_,_,_,_,_,_,_,_,_,_,_,_,_,_,_,⟨Nat.zero_le _,⟨Tf.Va.nil _ _⟩,B,BR,hb,Marks.nil _ _ _⟩,rfl⟩
    case round =>
     clear B BR hb;rintro _ wr ⟨k,ds,u5,u6,u7,u19,u20,u21,u22,u23,u24,u25,u26,u27,u28,u29,u30,u31,u32,u33,u34,u35,u36,u37,u38,u39,u40,u41,u42,u43,u44,u45,u46,u47,u48,u49,u50,u51,u52,u53,u54,u55,u56,u57,u58,⟨hk,hva,B,BR,hb,hM⟩,rfl⟩;have hlow:=BR.lt;by_cases hlt:k<l.length
     · obtain⟨b,off,rfl,hbB,hcell⟩:=hA (by omega);have hck:l[k]? = some l[k]:=List.getElem?_eq_getElem hlt;have hcl:=fun (j:Nat) u (hj:(aX l[k])[j]? = some u)=>(hb.cell (p:=⟨b,off+k*6+j,none⟩) hbB).trans (hcell k _ hck j u hj)
       have g0:=hcl 0 _ rfl;have g1:=hcl 1 _ rfl;have g2:=hcl 2 _ rfl;have g3:=hcl 3 _ rfl;have g4:=hcl 4 _ rfl;have g5:=hcl 5 _ rfl;simp only[Nat.add_zero]at g0;go_upto_region 6 with fail;clear g0 g1 g2 g3 g4 g5 hcl hck;have hbn:=au wr (.cells #[.int .i64 l[k].n,.int .i64 l[k].f,.string ⟨l[k].b.1.toArray⟩,.string ⟨l[k].b.2.toArray⟩,.int .i64 l[k].v,.int .i64 l[k].d] 53);have H:=Bx.mk wr 53 #[.int .i64 l[k].n,.int .i64 l[k].f,.string ⟨l[k].b.1.toArray⟩,.string ⟨l[k].b.2.toArray⟩,.int .i64 l[k].v,.int .i64 l[k].d];have hH:=H.lt;replace B:=B.new (.cells #[.int .i64 l[k].n,.int .i64 l[k].f,.string ⟨l[k].b.1.toArray⟩,.string ⟨l[k].b.2.toArray⟩,.int .i64 l[k].v,.int .i64 l[k].d] 53);replace BR:=BR.new (.cells #[.int .i64 l[k].n,.int .i64 l[k].f,.string ⟨l[k].b.1.toArray⟩,.string ⟨l[k].b.2.toArray⟩,.int .i64 l[k].v,.int .i64 l[k].d] 53);replace hb:=bNew hb (.cells #[.int .i64 l[k].n,.int .i64 l[k].f,.string ⟨l[k].b.1.toArray⟩,.string ⟨l[k].b.2.toArray⟩,.int .i64 l[k].v,.int .i64 l[k].d] 53);replace hM:=(hM.below hbn).more hbn.size;clear hbn;generalize wr.alloc (.cells #[.int .i64 l[k].n,.int .i64 l[k].f,.string ⟨l[k].b.1.toArray⟩,.string ⟨l[k].b.2.toArray⟩,.int .i64 l[k].v,.int .i64 l[k].d] 53)=W0 at *;generalize wr.heap.size=gh at *;obtain ⟨hs1,hs2⟩:=hs _ (List.getElem_mem hlt);have kF:=fun x os=>o_ c e lo re pay l[k].n l[k].f l[k].v l[k].d l[k].b.1 l[k].b.2 (Sort.grow (redrawn W0 x) os) hch hs1 hs2 (hE.below (gu hb x os))
       have hfe:(⟨l[k].n,l[k].f,(l[k].b.1,l[k].b.2),l[k].v,l[k].d⟩:Tf.Ho)=l[k]:=rfl;rw [hfe]at kF;have jB:Kp (∀(i:Nat) (cc:Tf.Ho),l[i]? = some cc->∀(j:Nat) (u:Value),(aX cc)[j]? = some u->w.cell? ⟨b,off+i*6+j,none⟩=some u):=⟨hcell⟩
       obtain⟨tb,jA⟩:∃tb:Bool,(vK c e l[k]=false/\tb=true/\Kp (res=false))∨(vK c e l[k]=true/\(∃m,∃hm:k=m+1,l[k].f<(l[m]'(by omega)).f/\tb=true/\Kp (res=false)))∨(vK c e l[k]=true/\(∃m,∃hm:k=m+1,¬l[k].f<(l[m]'(by omega)).f/\tb=false/\Kp ((l[m]'(by omega)).f<=l[k].f)))∨(vK c e l[k]=true/\k=0/\tb=false):=by
        cases hfm:vK c e l[k] with
        | false=>exact⟨true,.inl ⟨rfl,rfl,⟨yA.out (Tf.Va.XL hlt fun hf=>by rw[yh hf]at hfm;cases hfm)⟩⟩⟩
        | true =>
         rcases Nat.eq_zero_or_pos k with h0|h0
         · exact⟨false,.inr (.inr (.inr ⟨rfl,h0,rfl⟩))⟩
         · by_cases hx:l[k].f<(l[k-1]'(by omega)).f
           · refine⟨true,.inr (.inl ⟨rfl,k-1,by omega,hx,rfl,⟨yA.out (Tf.Va.JA hlt (j:=k-1) (by omega) fun hn=>?_)⟩⟩)⟩;have:=hn.1;omega
           · exact⟨false,.inr (.inr (.inl ⟨rfl,k-1,by omega,hx,rfl,⟨by omega⟩⟩))⟩
       have hnext:Kp (tb=false->(∀(j:Nat) (hj:j<k),(l[j]'(by omega)).n=l[k].n->Tf.fin ⟨c,e,lo,re,pay⟩ (l[j]'(by omega))+re<=l[k].f)->Tf.Va (rF c e) ⟨c,e,lo,re,pay⟩ (l.take (k+1))):=⟨fun ht hn=>by
        have hf:Tf.Fm (rF c e) l[k]:=by
         refine su.1 ?_
         rcases jA with ⟨_,h2,_⟩|⟨_,m,hm,_,h2,_⟩|⟨h1,_⟩|⟨h1,_⟩
         · rw[ht]at h2;cases h2
         · rw[ht]at h2;cases h2
         · exact h1
         · exact h1
        refine Tf.Va.step hlt (by omega) hva.out hf (fun h0=>?_) hn
        rcases jA with ⟨_,h2,_⟩|⟨_,m,hm,_,h2,_⟩|⟨_,m,hm,_,_,h3⟩|⟨_,h1,_⟩
        · rw[ht]at h2;cases h2
        · rw[ht]at h2;cases h2
        · have:k-1=m:=by omega
          simp only[this];exact h3.out
        · omega⟩
       have Lm:Kp (tb=true->res=false):=⟨fun ht=>by
        rcases jA with ⟨_,_,h⟩|⟨_,m,hm,_,_,h⟩|⟨_,m,hm,_,h2,_⟩|⟨_,_,h2⟩
        · exact h.out
        · exact h.out
        · rw[ht]at h2;cases h2
        · rw[ht]at h2;cases h2⟩
       have Vj:Kp (tb=false->Tf.Fm (rF c e) l[k]):=⟨fun ht=>su.1 (by
        rcases jA with ⟨_,h2,_⟩|⟨_,m,hm,_,h2,_⟩|⟨h1,_⟩|⟨h1,_⟩
        · rw[ht]at h2;cases h2
        · rw[ht]at h2;cases h2
        · exact h1
        · exact h1)⟩
       clear hcell hfe
       go_cut [41] from 23 to 41 (fun s41 wx=>s41=.bool tb/\Below W0.heap.size W0 wx)
       case first =>
        have h0:=fun d os=>(H.again d os).cell 0 rfl
        have h1:=fun d os=>(H.again d os).cell 1 rfl
        have h2:=fun d os=>(H.again d os).cell 2 rfl
        have h3:=fun d os=>(H.again d os).cell 3 rfl
        have h4:=fun d os=>(H.again d os).cell 4 rfl
        have h5:=fun d os=>(H.again d os).cell 5 rfl
        have r0:=fun d os=>(B.again d os).cell 0 rfl
        have r1:=fun d os=>(B.again d os).cell 1 rfl
        have r2:=fun d os=>(B.again d os).cell 2 rfl
        have r3:=fun d os=>(B.again d os).cell 3 rfl
        have r4:=fun d os=>(B.again d os).cell 4 rfl
        clear hM hnext Lm Vj yA sU hva hA
        rcases jA with ⟨hfm,rfl,-⟩|⟨hfm,m,rfl,hx,rfl,-⟩|⟨hfm,m,rfl,hx,rfl,-⟩|⟨hfm,rfl,rfl⟩
        · rw[hfm]at kF;go_wp2_with fail;refine wp_region_quiet_below (by kernel_rfl) (by kernel_rfl) ?_
          repeat (go_big_quiet_step (first
           | (go_at_call 48;with_reducible exact Calls.regrown_of (kF _ _))))
          refine wpQuiet_nil ?_;rintro _ ⟨z,rfl⟩;have hbz:=below_regrown W0 z.d z.os;go_wp2_with fail
          go_meet
          exact⟨rfl,hbz⟩
        · rw[hfm]at kF;have x1:=fun d os=>((gu hb d os).cell (p:=⟨b,off+m*6+1,none⟩) hbB).trans (jB.out m _ (List.getElem?_eq_getElem (by omega)) 1 _ rfl)
          have hcast:((m+1:Nat):Int)-1=(m:Int):=by omega
          have t0:decide (((m+1:Nat):Int) > 0)=true:=by simp <;> omega
          have t1:decide (l[m+1].f<l[m].f)=true:=decide_eq_true hx;go_wp2_with fail;refine wp_region_quiet_below (by kernel_rfl) (by kernel_rfl) ?_
          repeat (go_big_quiet_step (first
           | (go_at_call 48;with_reducible exact Calls.regrown_of (kF _ _))))
          refine wpQuiet_nil ?_;rintro _ ⟨z,rfl⟩;have hbz:=below_regrown W0 z.d z.os;go_wp2_with fail
          go_meet
          exact⟨rfl,hbz⟩
        · rw[hfm]at kF;have x1:=fun d os=>((gu hb d os).cell (p:=⟨b,off+m*6+1,none⟩) hbB).trans (jB.out m _ (List.getElem?_eq_getElem (by omega)) 1 _ rfl)
          have hcast:((m+1:Nat):Int)-1=(m:Int):=by omega
          have t0:decide (((m+1:Nat):Int) > 0)=true:=by simp <;> omega
          have t1:decide (l[m+1].f<l[m].f)=false:=decide_eq_false hx;go_wp2_with fail;refine wp_region_quiet_below (by kernel_rfl) (by kernel_rfl) ?_
          repeat (go_big_quiet_step (first
           | (go_at_call 48;with_reducible exact Calls.regrown_of (kF _ _))))
          refine wpQuiet_nil ?_;rintro _ ⟨z,rfl⟩;have hbz:=below_regrown W0 z.d z.os;go_wp2_with fail
          go_meet
          exact⟨rfl,hbz⟩
        · rw[hfm]at kF;go_wp2_with fail;refine wp_region_quiet_below (by kernel_rfl) (by kernel_rfl) ?_
          repeat (go_big_quiet_step (first
           | (go_at_call 48;with_reducible exact Calls.regrown_of (kF _ _))))
          refine wpQuiet_nil ?_;rintro _ ⟨z,rfl⟩;have hbz:=below_regrown W0 z.d z.os;go_wp2_with fail
          go_meet
          exact⟨rfl,hbz⟩
       case rest =>
        obtain⟨rfl,hbx⟩:=hcut;clear kF jA;replace B:=B.call hbx;replace BR:=BR.call hbx;replace H:=H.call hbx;replace hb:=aj hb hbx;replace hM:=(hM.below hbx).more hbx.size;have hH2:=hbx.size;clear hbx
        cases tb with
        | true =>
         obtain rfl:=Lm.out rfl;have d0:=BR.cell 0 rfl;have f0:=BR.frozen 0;clear hnext Lm Vj yA sU hva hA jB;go_wp2;exact (hM.set BR 0 _).leave fun W' hb' hB'=>⟨_,iC rfl _ _ rfl (hB' _ _ _ (BR.set 0 (.bool false))),rfl,(aJ hb (p:=⟨w.heap.size+1,0,none⟩) (Nat.le_succ _) _).trans (hb'.mono (by omega))⟩
        | false =>
         have hf:=Vj.out rfl;have hf0:=hf.f0;have hf2:=hf.f2;replace hnext:Kp ((∀(j:Nat) (hj:j<k),(l[j]'(by omega)).n=l[k].n->Tf.fin ⟨c,e,lo,re,pay⟩ (l[j]'(by omega))+re<=l[k].f)->Tf.Va (rF c e) ⟨c,e,lo,re,pay⟩ (l.take (k+1))):=⟨hnext.out rfl⟩
         clear Lm Vj hf jB;go_upto_region 8 with fail;have h0:=fun d os=>(H.again d os).cell 0 rfl
         refine fD 5 (by kernel_rfl) (by kernel_rfl) ?_;simp only[List.take,List.drop]
         repeat (go_big_quiet_step (fail))
         refine wpQuiet_nil ?_;rintro _ ⟨z,rfl⟩;have hbz:=below_regrown wc z.d z.os;replace B:=B.call hbz;replace BR:=BR.call hbz;replace H:=H.call hbz;replace hb:=aj hb hbz;replace hM:=(hM.below hbz).more hbz.size;replace hH2:=Nat.le_trans hH2 hbz.size;clear h0 hbz;generalize Sort.grow (redrawn wc z.d) z.os=W2 at *
         go_wp2_with (go_at_call 49;refine ((callsIn_wide (n:=4)).1 (Wj 4 _ _ _ _ _)).mono ?_;rintro _ _ ⟨rfl,rfl⟩)
         have hbW:=bNew (au W2 (.cells #[.slice (some ⟨b,off,none⟩) k cap] 33)) (.cells #[.int .i64 l[k].n] 3);have Q1:=(Bx.mk W2 33 #[.slice (some ⟨b,off,none⟩) k cap]).new (.cells #[.int .i64 l[k].n] 3);have Q2:=Bx.mk (W2.alloc (.cells #[.slice (some ⟨b,off,none⟩) k cap] 33)) 3 #[.int .i64 l[k].n];rw [ah]at Q2;replace B:=B.call hbW;replace BR:=BR.call hbW;replace H:=H.call hbW;replace hb:=aj hb hbW;replace hM:=(hM.below hbW).more hbW.size;replace hH2:=Nat.le_trans hH2 hbW.size;clear hbW;generalize (W2.alloc (.cells #[.slice (some ⟨b,off,none⟩) k cap] 33)).alloc (.cells #[.int .i64 l[k].n] 3)=W3 at *;generalize W2.heap.size=g2 at *;have hlk:(l.take k).length=k:=by rw[List.length_take];omega
         have hA3:At 6 aX W3 W3.heap.size (some ⟨b,off,none⟩) (l.take k):=((hA.below hb).more hb.size).take k;have hseq:=Qh 3 (by decide) (l.take k) (some ⟨b,off,none⟩) cap g2 (g2+1) l[k].n W3 hA3 (by omega) (by omega) (by rw[hlk];exact Q1) Q2;rw [hlk]at hseq;have hsz3:=Q2.lt;have hw3:=hb.size;clear hA3 Q1 Q2;refine (wpIn_wide (n:=4)).1 ?_
         refine uz (by decide) (gf:=77) (lb:=#[.pointer (some ⟨g2,0,none⟩),.pointer (some ⟨g2+1,0,none⟩)]) rfl (enters_of Tryz.func77 (by kernel_rfl) rfl) hseq (gq _) (fun _=>rfl)
          (fun pre X=>Below W3.heap.size W3 X/\∀y∈pre,Tf.fin ⟨c,e,lo,re,pay⟩ y.1+re<=l[k].f)
          (fun _ X=>Below w.heap.size w X/\Bx X (w.heap.size+1) 4 #[.bool false]/\Marks (w.heap.size+2) W3.heap.size ds X/\Kp (res=false))
          (fun s X Y h hb=>⟨h.1.trans hb,h.2⟩)
          (fun s X Y h hb'=>⟨h.1.trans (hb'.mono hw3),h.2.1.below hb' (by omega),h.2.2.1.below hb',h.2.2.2⟩)
          (fun s X h=>h.1) ⟨gq _,fun y hy=>by cases hy⟩ 7 53 (fun x=>#[.int .i64 x.1.n,.int .i64 x.1.f,.string ⟨x.1.b.1.toArray⟩,.string ⟨x.1.b.2.toArray⟩,.int .i64 x.1.v,.int .i64 x.1.d]) ?assign ?body ?done ?stop
         case assign =>
          intro lp x W K hK;simp only[Zg,Zi,vJ]at hK ⊢
          gi_wp2
          have hk9:=hK _ _ (au W _) (Bx.mk W _ _);simp only[List.setIfInBounds_toArray,List.set_cons_succ,List.set_cons_zero]at hk9;exact hk9
         case body =>
          rintro lp pre x gb W ⟨hbX,hpre⟩ HB hlen;simp only[Zg,Zi,vJ,List.setIfInBounds_toArray,List.set_cons_succ,List.set_cons_zero];have B':=B.below hbX B.lt;have IU:=BR.below hbX BR.lt;have H':=H.below hbX H.lt;have hfx:=hva.out.fm _ x.2.1;have hfx0:=hfx.f0;have hfx2:=hfx.f2
          have hsp:Tf.Sp ⟨c,e,lo,re,pay⟩ x.1:=Tf.FT (by dsimp only;omega) fun h=>by
           rcases hfx.v with ⟨a,-⟩|⟨-,a,-⟩
           · rw[h]at a;cases a
           · exact a
          obtain⟨sp1,sp2⟩:=hsp;dsimp only at sp2;have kE:=fun y os=>EJ c e lo re pay x.1.n x.1.f x.1.v x.1.d x.1.b.1 x.1.b.2 (Sort.grow (redrawn W y) os) ⟨by omega,by omega⟩ ⟨by omega,by omega⟩
          have hfe:(⟨x.1.n,x.1.f,(x.1.b.1,x.1.b.2),x.1.v,x.1.d⟩:Tf.Ho)=x.1:=rfl;rw [hfe]at kE;have h0:=fun d os=>(HB.again d os).cell 0 rfl
          have h1:=fun d os=>(HB.again d os).cell 1 rfl
          have h2:=fun d os=>(HB.again d os).cell 2 rfl
          have h3:=fun d os=>(HB.again d os).cell 3 rfl
          have h4:=fun d os=>(HB.again d os).cell 4 rfl
          have h5:=fun d os=>(HB.again d os).cell 5 rfl
          have r0:=fun d os=>(B'.again d os).cell 0 rfl
          have r1:=fun d os=>(B'.again d os).cell 1 rfl
          have r2:=fun d os=>(B'.again d os).cell 2 rfl
          have r3:=fun d os=>(B'.again d os).cell 3 rfl
          have r4:=fun d os=>(B'.again d os).cell 4 rfl
          have y1:=fun d os=>(H'.again d os).cell 1 rfl
          have hno:Kp (l[k].f<Tf.fin ⟨c,e,lo,re,pay⟩ x.1+re->res=false):=⟨fun hx3=>by
           obtain⟨j,hj,ej⟩:=List.mem_take_iff_getElem.1 x.2.1;refine yA.out (Tf.Va.JA hlt (j:=j) (by omega) fun hn=>?_);have:=hn.2 (by rw[ej];exact x.2.2);rw [ej]at this;dsimp only at this
           omega⟩
          have hyes:Kp (¬l[k].f<Tf.fin ⟨c,e,lo,re,pay⟩ x.1+re->∀y∈pre++[x],Tf.fin ⟨c,e,lo,re,pay⟩ y.1+re<=l[k].f):=⟨fun hx3 y hy=>by
           rcases List.mem_append.1 hy with hy|hy
           · exact hpre y hy
           · rw[List.mem_singleton.1 hy];omega⟩
          clear hfx hseq hpre hnext hfe hva yA sU hA hs H;generalize Tf.fin ⟨c,e,lo,re,pay⟩ x.1=fx at *;by_cases hx3:l[k].f<fx+re
          · have t0:decide (l[k].f<fx+re)=true:=decide_eq_true hx3;obtain rfl:=hno.out hx3
            gi_wp2
            refine wpIn_region_quiet (by kernel_rfl) (by kernel_rfl) (by kernel_rfl) ?_
            repeat (go_big_quiet_step (first|(go_at_call 50;with_reducible exact Calls.regrown_of (kE _ _))))
            refine wpQuiet_nil ?_;rintro _ ⟨z,rfl⟩;refine ⟨rfl,?_⟩;have hbz:=below_regrown W z.d z.os;replace IU:=IU.call hbz;have hbw:=aj (hb.trans (hbX.mono hw3)) hbz;have hMw:=(hM.below hbX).below (hbz.mono hbX.size);have hfr:=Fr.below (B:=W3.heap.size) hbz;clear kE h0 h1 h2 h3 h4 h5 r0 r1 r2 r3 r4 y1 hbz;generalize Sort.grow (redrawn W z.d) z.os=W5 at *;have d0:=IU.cell 0 rfl;have f0:=IU.frozen 0
            gi_wp2
            exact⟨hfr.trans (Fr.set (by omega)),aJ hbw (p:=⟨w.heap.size+1,0,none⟩) (Nat.le_succ _) _,IU.set 0 (.bool false),hMw.set IU 0 _,Kp.mk (by simp)⟩
          · have t0:decide (l[k].f<fx+re)=false:=decide_eq_false hx3
            gi_wp2
            refine wpIn_region_quiet (by kernel_rfl) (by kernel_rfl) (by kernel_rfl) ?_
            repeat (go_big_quiet_step (first|(go_at_call 50;with_reducible exact Calls.regrown_of (kE _ _))))
            refine wpQuiet_nil ?_;rintro _ ⟨z,rfl⟩;refine ⟨rfl,?_⟩;have hbz:=below_regrown W z.d z.os;clear kE h0 h1 h2 h3 h4 h5 r0 r1 r2 r3 r4 y1
            gi_wp2
            exact⟨Fr.below hbz,hbX.trans (hbz.mono hbX.size),hyes.out hx3⟩
         case done =>
          rintro D xs W hD hS ⟨hbX,hall⟩ hd
          have X7:=hnext.out fun j hj hjn=>by
           obtain⟨y,hy,ey⟩:=hS (l[j]'(by omega)) (List.mem_take_iff_getElem.2 ⟨j,by omega,rfl⟩) hjn;rw [←ey];exact hall y hy
          replace X7:=Kp.mk X7;have hM2:=(hM.below hbX).push hD (by omega) hd;replace B:=B.below hbX B.lt;replace BR:=BR.below hbX BR.lt;replace hb:=hb.trans (hbX.mono hw3);clear hall hS hseq hnext hva yA sU hA hs H hM;go_wp2;exact ⟨⟨k+1,mkD D :: ds,_,_,_,_,_,_,_,_,_,_,_,_,_,_,_,_,_,_,_,_,_,_,_,_,_,_,_,_,_,_,_,_,_,_,_,_,_,_,_,_,_,_,_,⟨by omega,X7,B,BR,hb,hM2⟩,rfl⟩,by simp[intOf] <;> omega⟩
         case stop =>
          rintro D pre W hD ⟨hbX,hBR,hMX,hr⟩ hd;obtain rfl:=hr.out;have hM2:=hMX.push hD (by omega) hd;clear hseq hnext hva yA sU hA hs H hM
          gi_wp2
          exact hM2.leave fun W' hb' hB'=>⟨_,iC rfl _ _ rfl (hB' _ _ _ hBR),rfl,hbX.trans (hb'.mono (by omega))⟩
     · obtain rfl:k=l.length:=by omega
       obtain rfl:=sU.out hva.out.whole;have d0:=BR.cell 0 rfl;have f0:=BR.frozen 0;clear hA hs hva yA sU;go_wp2;exact (hM.set BR 0 _).leave fun W' hb' hB'=>⟨_,iC rfl _ _ rfl (hB' _ _ _ (BR.set 0 (.bool true))),rfl,(aJ hb (p:=⟨w.heap.size+1,0,none⟩) (Nat.le_succ _) _).trans (hb'.mono (by omega))⟩
end Go.Proofs.YtelljijajgiabaaGreatDoor

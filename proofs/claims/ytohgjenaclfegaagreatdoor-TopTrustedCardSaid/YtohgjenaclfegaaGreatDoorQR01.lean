import Derived.Test.YtohgjenaclfegaaGreatDoorQR00
set_option linter.unusedVariables false
set_option linter.unusedSimpArgs false
set_option maxRecDepth 100000
set_option maxHeartbeats 8000000
namespace Go.Proofs.YtohgjenaclfegaaGreatDoor
open Go.RowKit Go.Shelf
theorem wV {z:Int} (h:I64 z):Ig.fits z:=by
 have h1:z.natAbs<10 ^ 20:=by have:=h.1;have:=h.2;omega
 exact Nat.lt_of_lt_of_le h1 (Nat.pow_le_pow_right (by decide) (by decide))
theorem FN (n d:Int) (w:World) (hn:I64 n) (hf:I64 d) (hd:d≠0) (hE:Env w) :
 bP 17 #[.int .i64 n,.int .i64 d] w (.tuple #[QV (Rat.divInt n d),.int .i64 0]):=by
 have hF1:=fun w0 hE0=>mD n w0 hn.1 hn.2 hE0
 have hF2:=fun w0 hE0=>mD d w0 hf.1 hf.2 hE0
 have hM:=fun w0 hE0=>FP n d w0 (wV hn) (wV hf) hd hE0
 unfold QV at *
 generalize Lib.itoa (Rat.divInt n d).num=sa at *;generalize Lib.itoa ((Rat.divInt n d).den:Int)=sb at *;generalize Lib.itoa n=sn at *;generalize Lib.itoa d=sd at *;have B:=Bx.mk w 77 #[.string ⟨#[]⟩,.string ⟨#[]⟩];have hb:=aG w (.cells #[.string ⟨#[]⟩,.string ⟨#[]⟩] 77);clear hd
 go_enter Tryz.func17,Tryz.ntmps17
 go_wp2_with fail;refine (hF1 _ (hE.below hb)).mono ?_;rintro _ w1 ⟨rfl,hb1⟩;replace hb:=ah hb hb1;replace B:=B.call hb1;clear hF1 hb1;go_wp2_with fail;refine (hF2 _ (hE.below hb)).mono ?_;rintro _ w2 ⟨rfl,hb1⟩;replace hb:=ah hb hb1;replace B:=B.call hb1;clear hF2 hb1;go_wp2_with fail;refine (hM _ (hE.below hb)).mono ?_;rintro _ w3 ⟨rfl,hb1⟩;replace hb:=ah hb hb1;replace B:=B.call hb1;clear hM hb1;have r0:=B.cell 0 rfl;have r1:=B.cell 1 rfl;have f0:=B.frozen 0;have f1:=B.frozen 1;have B2:=(B.set 0 (.string ⟨sa.toArray⟩)).set 1 (.string ⟨sb.toArray⟩);have hb2:=aQ (aQ hb (p:=⟨w.heap.size,0,none⟩) (Nat.le_refl _) (.string ⟨sa.toArray⟩)) (p:=⟨w.heap.size,1,none⟩) (Nat.le_refl _) (.string ⟨sb.toArray⟩);go_wp2;exact bodyPost_ret (fV rfl _ _ rfl rfl B2) rfl ⟨rfl,hb2⟩
end Go.Proofs.YtohgjenaclfegaaGreatDoor

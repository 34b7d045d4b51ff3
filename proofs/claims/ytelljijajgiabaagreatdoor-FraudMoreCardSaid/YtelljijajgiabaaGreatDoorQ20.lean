import Derived.Test.YtelljijajgiabaaGreatDoorQ19
set_option linter.unusedVariables false
set_option linter.unusedSimpArgs false
set_option maxRecDepth 100000
set_option maxHeartbeats 8000000
namespace Go.Proofs.YtelljijajgiabaaGreatDoor
open Go.RowKit Go.Shelf
theorem rQ (n lo hi:Int) (w:World) :
 Calls Tryz.prog 58 #[.int .i64 n,.int .i64 lo,.int .i64 hi] w fun e w'=>e=.returned (.bool (Tp.within n lo hi))/\w=w':=by
 by_cases h1:lo<=n <;> by_cases h2:n<=hi
 all_goals
  go_enter Tryz.func58,Tryz.ntmps58
  go_wp2;go_ret;exact ⟨by simp[Tp.within, *] <;> omega,rfl⟩
theorem Gp {n d:Int} {q:Rat} {qa qb:List UInt8} (w:World) (hn:I64 n) (hd:I64 d) (h0:d≠0) (hq:Kp (Rat.divInt n d=q)) (lq:LQ q qa qb) :
 aW 45 #[.int .i64 n,.int .i64 d] w (.tuple #[.agg #[.string ⟨qa.toArray⟩,.string ⟨qb.toArray⟩],.int .i64 0]):=by
 have hM:=YH n d w hn hd h0;rw [hq.out,show QV q=_ from lq.eq]at hM;exact hM
theorem Jm (c e lo re pay:Int) (w:World) :
 aW 51 #[.agg #[.int .i64 c,.int .i64 e,.int .i64 lo,.int .i64 re,.int .i64 pay]] w (.bool (AL c e lo re pay)):=by
 have hI1:=fun w0=>aB (rQ lo 1 1000000 w0)
 have hI2:=fun w0=>aB (rQ re 1 1000000 w0)
 have G7:=fun w0=>PZ c e w0
 have hI4:=fun w0=>aB (rQ pay 0 1000 w0)
 have hd:Kp (AL c e lo re pay=(ES c e&&(Tp.within lo 1 1000000&&Tp.within re 1 1000000)&&Tp.within pay 0 1000)):=⟨rfl⟩
 generalize Tp.within lo 1 1000000=s1 at *;generalize Tp.within re 1 1000000=s2 at *;generalize ES c e=s3 at *;generalize Tp.within pay 0 1000=s4 at *;generalize AL c e lo re pay=res at *;have B:=Bx.mk w 31 #[.int .i64 c,.int .i64 e,.int .i64 lo,.int .i64 re,.int .i64 pay];have hb:=au w (.cells #[.int .i64 c,.int .i64 e,.int .i64 lo,.int .i64 re,.int .i64 pay] 31);cases s3 <;> cases s1 <;> cases s2
 · obtain rfl:=hd.out
   go_enter Tryz.func51,Tryz.ntmps51
   obtain⟨cB0,cB1,cB2,cB3,aN⟩:=B.p5;go_wp2_with fail;refine (G7 _).mono ?_;rintro _ w1 ⟨rfl,hb1⟩;clear cB0 cB1 cB2 cB3 aN;replace B:=B.call hb1;replace hb:=aj hb hb1;clear hb1;obtain ⟨cB0,cB1,cB2,cB3,aN⟩:=B.p5;go_wp2;go_ret;exact ⟨by simp,hb⟩
 · obtain rfl:=hd.out
   go_enter Tryz.func51,Tryz.ntmps51
   obtain⟨cB0,cB1,cB2,cB3,aN⟩:=B.p5;go_wp2_with fail;refine (G7 _).mono ?_;rintro _ w1 ⟨rfl,hb1⟩;clear cB0 cB1 cB2 cB3 aN;replace B:=B.call hb1;replace hb:=aj hb hb1;clear hb1;obtain ⟨cB0,cB1,cB2,cB3,aN⟩:=B.p5;go_wp2;go_ret;exact ⟨by simp,hb⟩
 · obtain rfl:=hd.out
   go_enter Tryz.func51,Tryz.ntmps51
   obtain⟨cB0,cB1,cB2,cB3,aN⟩:=B.p5;go_wp2_with fail;refine (G7 _).mono ?_;rintro _ w1 ⟨rfl,hb1⟩;clear cB0 cB1 cB2 cB3 aN;replace B:=B.call hb1;replace hb:=aj hb hb1;clear hb1;obtain ⟨cB0,cB1,cB2,cB3,aN⟩:=B.p5;go_wp2;go_ret;exact ⟨by simp,hb⟩
 · obtain rfl:=hd.out
   go_enter Tryz.func51,Tryz.ntmps51
   obtain⟨cB0,cB1,cB2,cB3,aN⟩:=B.p5;go_wp2_with fail;refine (G7 _).mono ?_;rintro _ w1 ⟨rfl,hb1⟩;clear cB0 cB1 cB2 cB3 aN;replace B:=B.call hb1;replace hb:=aj hb hb1;clear hb1;obtain ⟨cB0,cB1,cB2,cB3,aN⟩:=B.p5;go_wp2;go_ret;exact ⟨by simp,hb⟩
 · obtain rfl:=hd.out
   go_enter Tryz.func51,Tryz.ntmps51
   obtain⟨cB0,cB1,cB2,cB3,aN⟩:=B.p5;go_wp2_with fail;refine (G7 _).mono ?_;rintro _ w1 ⟨rfl,hb1⟩;clear cB0 cB1 cB2 cB3 aN;replace B:=B.call hb1;replace hb:=aj hb hb1;clear hb1;obtain ⟨cB0,cB1,cB2,cB3,aN⟩:=B.p5;go_wp2_with fail;refine (hI1 _).mono ?_;rintro _ w2 ⟨rfl,hb1⟩;clear cB0 cB1 cB2 cB3 aN;replace B:=B.call hb1;replace hb:=aj hb hb1;clear hb1;obtain ⟨cB0,cB1,cB2,cB3,aN⟩:=B.p5;go_wp2;go_ret;exact ⟨by simp,hb⟩
 · obtain rfl:=hd.out
   go_enter Tryz.func51,Tryz.ntmps51
   obtain⟨cB0,cB1,cB2,cB3,aN⟩:=B.p5;go_wp2_with fail;refine (G7 _).mono ?_;rintro _ w1 ⟨rfl,hb1⟩;clear cB0 cB1 cB2 cB3 aN;replace B:=B.call hb1;replace hb:=aj hb hb1;clear hb1;obtain ⟨cB0,cB1,cB2,cB3,aN⟩:=B.p5;go_wp2_with fail;refine (hI1 _).mono ?_;rintro _ w2 ⟨rfl,hb1⟩;clear cB0 cB1 cB2 cB3 aN;replace B:=B.call hb1;replace hb:=aj hb hb1;clear hb1;obtain ⟨cB0,cB1,cB2,cB3,aN⟩:=B.p5;go_wp2;go_ret;exact ⟨by simp,hb⟩
 · obtain rfl:=hd.out
   go_enter Tryz.func51,Tryz.ntmps51
   obtain⟨cB0,cB1,cB2,cB3,aN⟩:=B.p5;go_wp2_with fail;refine (G7 _).mono ?_;rintro _ w1 ⟨rfl,hb1⟩;clear cB0 cB1 cB2 cB3 aN;replace B:=B.call hb1;replace hb:=aj hb hb1;clear hb1;obtain ⟨cB0,cB1,cB2,cB3,aN⟩:=B.p5;go_wp2_with fail;refine (hI1 _).mono ?_;rintro _ w2 ⟨rfl,hb1⟩;clear cB0 cB1 cB2 cB3 aN;replace B:=B.call hb1;replace hb:=aj hb hb1;clear hb1;obtain ⟨cB0,cB1,cB2,cB3,aN⟩:=B.p5;go_wp2_with fail;refine (hI2 _).mono ?_;rintro _ w3 ⟨rfl,hb1⟩;clear cB0 cB1 cB2 cB3 aN;replace B:=B.call hb1;replace hb:=aj hb hb1;clear hb1;obtain ⟨cB0,cB1,cB2,cB3,aN⟩:=B.p5;go_wp2;go_ret;exact ⟨by simp,hb⟩
 · obtain rfl:=hd.out
   go_enter Tryz.func51,Tryz.ntmps51
   obtain⟨cB0,cB1,cB2,cB3,aN⟩:=B.p5;go_wp2_with fail;refine (G7 _).mono ?_;rintro _ w1 ⟨rfl,hb1⟩;clear cB0 cB1 cB2 cB3 aN;replace B:=B.call hb1;replace hb:=aj hb hb1;clear hb1;obtain ⟨cB0,cB1,cB2,cB3,aN⟩:=B.p5;go_wp2_with fail;refine (hI1 _).mono ?_;rintro _ w2 ⟨rfl,hb1⟩;clear cB0 cB1 cB2 cB3 aN;replace B:=B.call hb1;replace hb:=aj hb hb1;clear hb1;obtain ⟨cB0,cB1,cB2,cB3,aN⟩:=B.p5;go_wp2_with fail;refine (hI2 _).mono ?_;rintro _ w3 ⟨rfl,hb1⟩;clear cB0 cB1 cB2 cB3 aN;replace B:=B.call hb1;replace hb:=aj hb hb1;clear hb1;obtain ⟨cB0,cB1,cB2,cB3,aN⟩:=B.p5;go_wp2_with fail;refine (hI4 _).mono ?_;rintro _ w4 ⟨rfl,hb1⟩;clear cB0 cB1 cB2 cB3 aN;replace B:=B.call hb1;replace hb:=aj hb hb1;clear hb1;obtain ⟨cB0,cB1,cB2,cB3,aN⟩:=B.p5;go_wp2;go_ret;exact ⟨by simp,hb⟩
theorem CQ (c e lo re pay n f v d:Int) (b1 b2:List UInt8) (w:World) (hlo:0<=lo/\lo<=1000000000) (hf: -1000000000<=f/\f<=1000000000) :
 aW 46 #[.agg #[.int .i64 c,.int .i64 e,.int .i64 lo,.int .i64 re,.int .i64 pay],.agg #[.int .i64 n,.int .i64 f,.string ⟨b1.toArray⟩,.string ⟨b2.toArray⟩,.int .i64 v,.int .i64 d]] w (.int .i64 (Tf.fin ⟨c,e,lo,re,pay⟩ ⟨n,f,(b1,b2),v,d⟩)):=by
 have B:=Bx.mk w 31 #[.int .i64 c,.int .i64 e,.int .i64 lo,.int .i64 re,.int .i64 pay];have hb:=au w (.cells #[.int .i64 c,.int .i64 e,.int .i64 lo,.int .i64 re,.int .i64 pay] 31);replace B:=B.new (.cells #[.int .i64 n,.int .i64 f,.string ⟨b1.toArray⟩,.string ⟨b2.toArray⟩,.int .i64 v,.int .i64 d] 53);have H:=Bx.mk (w.alloc (.cells #[.int .i64 c,.int .i64 e,.int .i64 lo,.int .i64 re,.int .i64 pay] 31)) 53 #[.int .i64 n,.int .i64 f,.string ⟨b1.toArray⟩,.string ⟨b2.toArray⟩,.int .i64 v,.int .i64 d];simp only[ah,Nat.add_assoc,Nat.reduceAdd]at H;replace hb:=bNew hb (.cells #[.int .i64 n,.int .i64 f,.string ⟨b1.toArray⟩,.string ⟨b2.toArray⟩,.int .i64 v,.int .i64 d] 53);by_cases h2:v=2
 · have hd:Kp (Tf.fin ⟨c,e,lo,re,pay⟩ ⟨n,f,(b1,b2),v,d⟩=min (f+lo) d):=⟨by unfold Tf.fin;exact if_pos h2⟩
   generalize Tf.fin ⟨c,e,lo,re,pay⟩ ⟨n,f,(b1,b2),v,d⟩=res at *;subst h2;by_cases hm:f+lo<=d
   · rw[Int.min_eq_left hm]at hd;obtain rfl:=hd.out;clear hd
     go_enter Tryz.func46,Tryz.ntmps46
     obtain⟨cB0,cB1,cB2,cB3,aN⟩:=B.p5;obtain ⟨bP,bM,bK,bJ,bI,bH⟩:=H.p6;go_wp2;go_ret;exact ⟨cu (by omega),hb⟩
   · rw[Int.min_eq_right (by omega)]at hd;obtain rfl:=hd.out;clear hd
     go_enter Tryz.func46,Tryz.ntmps46
     obtain⟨cB0,cB1,cB2,cB3,aN⟩:=B.p5;obtain ⟨bP,bM,bK,bJ,bI,bH⟩:=H.p6;go_wp2;go_ret;exact ⟨cu (by omega),hb⟩
 · have hd:Kp (Tf.fin ⟨c,e,lo,re,pay⟩ ⟨n,f,(b1,b2),v,d⟩=f+lo):=⟨by unfold Tf.fin;exact if_neg h2⟩
   generalize Tf.fin ⟨c,e,lo,re,pay⟩ ⟨n,f,(b1,b2),v,d⟩=res at *;obtain rfl:=hd.out;clear hd;have h3:(v==2)=false:=by simpa using h2
   go_enter Tryz.func46,Tryz.ntmps46
   obtain⟨cB0,cB1,cB2,cB3,aN⟩:=B.p5;obtain ⟨bP,bM,bK,bJ,bI,bH⟩:=H.p6;go_wp2;go_ret;exact ⟨rfl,hb⟩
theorem D5 {c e lo re pay:Int} (h:AL c e lo re pay=true):ES c e=true:=by
 unfold AL at h
 rw[Bool.and_eq_true,Bool.and_eq_true]at h;exact h.1.1
structure Nb (c e lo re pay n f v d:Int) (b1 b2:List UInt8):Prop where
 l1:1<=lo
 l2:lo<=1000000
 r1:1<=re
 r2:re<=1000000
 p0:0<=pay
 p2:pay<=1000
 f0:0<=f
 f2:f<=10000000
 x0:f<=Tf.fin ⟨c,e,lo,re,pay⟩ ⟨n,f,(b1,b2),v,d⟩
 x2:Tf.fin ⟨c,e,lo,re,pay⟩ ⟨n,f,(b1,b2),v,d⟩<=f+lo
 m0:0<=pay*(Tf.fin ⟨c,e,lo,re,pay⟩ ⟨n,f,(b1,b2),v,d⟩-f)
 m2:pay*(Tf.fin ⟨c,e,lo,re,pay⟩ ⟨n,f,(b1,b2),v,d⟩-f)<=1000000000
 d0:0<=d
 d2:d<=11000000
theorem Nb.of {c e lo re pay n f v d:Int} {b1 b2:List UInt8} (hr:AL c e lo re pay=true) (hf:vK c e ⟨n,f,(b1,b2),v,d⟩=true):Nb c e lo re pay n f v d b1 b2:=by
 have hr':=jq.1 hr;have hf':=su.1 hf;have hl:=hr'.l1;have hl2:=hr'.l2;have hp:=hr'.p0;have hp2:=hr'.p2;have hf0:=hf'.f0;have hf1:=hf'.f2;dsimp only at hl hl2 hp hp2 hf0 hf1
 have hsp:Tf.Sp ⟨c,e,lo,re,pay⟩ ⟨n,f,(b1,b2),v,d⟩:=Tf.FT (by dsimp only;omega) fun h=>by
  rcases hf'.v with ⟨a,-⟩|⟨-,a,-⟩
  · rw[h]at a;cases a
  · exact a
 obtain⟨s1,s2⟩:=hsp;dsimp only at s1 s2
 have hd:0<=d/\d<=11000000:=by
  rcases hf'.v with ⟨-,a⟩|⟨-,a,b⟩ <;> dsimp only at* <;> omega
 refine⟨hl,hl2,hr'.r1,hr'.r2,hp,hp2,hf0,hf1,s1,s2,Int.mul_nonneg hp (by omega),?_,hd.1,hd.2⟩;have:=Int.mul_le_mul hp2 (show Tf.fin ⟨c,e,lo,re,pay⟩ ⟨n,f,(b1,b2),v,d⟩-f<=1000000 by omega) (by omega) (by decide);omega
theorem DL (c e lo re pay n f v d:Int) (b1 b2:List UInt8) (w:World) (h1:b1.length<=9223372036854775807) (h2:b2.length<=9223372036854775807) (hr:AL c e lo re pay=true) (hf:vK c e ⟨n,f,(b1,b2),v,d⟩=true) (hE:Env w) :
 aW 29 #[.agg #[.int .i64 c,.int .i64 e,.int .i64 lo,.int .i64 re,.int .i64 pay],.agg #[.int .i64 n,.int .i64 f,.string ⟨b1.toArray⟩,.string ⟨b2.toArray⟩,.int .i64 v,.int .i64 d]] w (.tuple #[.int .i64 (Tf.fin ⟨c,e,lo,re,pay⟩ ⟨n,f,(b1,b2),v,d⟩),.int .i64 0]):=by
 have hR:=fun w0=>pW c e lo re pay w0
 have hch:=D5 hr;have hF:=fun w0 hE0=>o_ c e lo re pay n f v d b1 b2 w0 hch h1 h2 hE0
 have B:=Bx.mk w 31 #[.int .i64 c,.int .i64 e,.int .i64 lo,.int .i64 re,.int .i64 pay];have hb:=au w (.cells #[.int .i64 c,.int .i64 e,.int .i64 lo,.int .i64 re,.int .i64 pay] 31);replace B:=B.new (.cells #[.int .i64 n,.int .i64 f,.string ⟨b1.toArray⟩,.string ⟨b2.toArray⟩,.int .i64 v,.int .i64 d] 53);have H:=Bx.mk (w.alloc (.cells #[.int .i64 c,.int .i64 e,.int .i64 lo,.int .i64 re,.int .i64 pay] 31)) 53 #[.int .i64 n,.int .i64 f,.string ⟨b1.toArray⟩,.string ⟨b2.toArray⟩,.int .i64 v,.int .i64 d];simp only[ah,Nat.add_assoc,Nat.reduceAdd]at H;replace hb:=bNew hb (.cells #[.int .i64 n,.int .i64 f,.string ⟨b1.toArray⟩,.string ⟨b2.toArray⟩,.int .i64 v,.int .i64 d] 53);obtain ⟨l1,l2,-,-,-,-,f0,f2,-,-,-,-,-,-⟩:=Nb.of hr hf;have hN:=fun w0=>EJ c e lo re pay n f v d b1 b2 w0 ⟨by omega,by omega⟩ ⟨by omega,by omega⟩
 rw[hr]at hR;rw [hf]at hF
 go_enter Tryz.func29,Tryz.ntmps29
 obtain⟨cB0,cB1,cB2,cB3,aN⟩:=B.p5;obtain ⟨bP,bM,bK,bJ,bI,bH⟩:=H.p6;go_wp2_with fail;refine (hR _).mono ?_;rintro _ w1 ⟨rfl,hb1⟩;clear cB0 cB1 cB2 cB3 aN bP bM bK bJ bI bH;replace B:=B.call hb1;replace H:=H.call hb1;replace hb:=aj hb hb1;clear hb1;obtain ⟨cB0,cB1,cB2,cB3,aN⟩:=B.p5;obtain ⟨bP,bM,bK,bJ,bI,bH⟩:=H.p6;go_wp2_with fail;refine (hF _ (hE.below hb)).mono ?_;rintro _ w2 ⟨rfl,hb1⟩;clear cB0 cB1 cB2 cB3 aN bP bM bK bJ bI bH;replace B:=B.call hb1;replace H:=H.call hb1;replace hb:=aj hb hb1;clear hb1;obtain ⟨cB0,cB1,cB2,cB3,aN⟩:=B.p5;obtain ⟨bP,bM,bK,bJ,bI,bH⟩:=H.p6;go_wp2_with fail;refine (hN _).mono ?_;rintro _ w3 ⟨rfl,hb1⟩;clear cB0 cB1 cB2 cB3 aN bP bM bK bJ bI bH;replace B:=B.call hb1;replace H:=H.call hb1;replace hb:=aj hb hb1;clear hb1;obtain ⟨cB0,cB1,cB2,cB3,aN⟩:=B.p5;obtain ⟨bP,bM,bK,bJ,bI,bH⟩:=H.p6;go_wp2
 go_ret2
 exact⟨rfl,hb⟩
theorem Ov (c e lo re pay n f v d:Int) (b1 b2:List UInt8) (w:World) (h1:b1.length<=9223372036854775807) (h2:b2.length<=9223372036854775807) (hr:AL c e lo re pay=true) (hf:vK c e ⟨n,f,(b1,b2),v,d⟩=true) (hE:Env w) :
 aW 31 #[.agg #[.int .i64 c,.int .i64 e,.int .i64 lo,.int .i64 re,.int .i64 pay],.agg #[.int .i64 n,.int .i64 f,.string ⟨b1.toArray⟩,.string ⟨b2.toArray⟩,.int .i64 v,.int .i64 d]] w (.tuple #[.int .i64 (Tf.owed ⟨c,e,lo,re,pay⟩ ⟨n,f,(b1,b2),v,d⟩),.int .i64 0]):=by
 have hN:=fun w0 hE0=>DL c e lo re pay n f v d b1 b2 w0 h1 h2 hr hf hE0
 have B:=Bx.mk w 31 #[.int .i64 c,.int .i64 e,.int .i64 lo,.int .i64 re,.int .i64 pay];have hb:=au w (.cells #[.int .i64 c,.int .i64 e,.int .i64 lo,.int .i64 re,.int .i64 pay] 31);replace B:=B.new (.cells #[.int .i64 n,.int .i64 f,.string ⟨b1.toArray⟩,.string ⟨b2.toArray⟩,.int .i64 v,.int .i64 d] 53);have H:=Bx.mk (w.alloc (.cells #[.int .i64 c,.int .i64 e,.int .i64 lo,.int .i64 re,.int .i64 pay] 31)) 53 #[.int .i64 n,.int .i64 f,.string ⟨b1.toArray⟩,.string ⟨b2.toArray⟩,.int .i64 v,.int .i64 d];simp only[ah,Nat.add_assoc,Nat.reduceAdd]at H;replace hb:=bNew hb (.cells #[.int .i64 n,.int .i64 f,.string ⟨b1.toArray⟩,.string ⟨b2.toArray⟩,.int .i64 v,.int .i64 d] 53);obtain ⟨l1,l2,-,-,p0,p2,f0,f2,x0,x2,m0,m2,d0,d2⟩:=Nb.of hr hf;have hod:Kp (Tf.owed ⟨c,e,lo,re,pay⟩ ⟨n,f,(b1,b2),v,d⟩=if v=1/\d<f+lo then 0 else pay*(Tf.fin ⟨c,e,lo,re,pay⟩ ⟨n,f,(b1,b2),v,d⟩-f)):=⟨rfl⟩
 clear hr hf h1 h2;generalize Tf.fin ⟨c,e,lo,re,pay⟩ ⟨n,f,(b1,b2),v,d⟩=x at *;generalize Tf.owed ⟨c,e,lo,re,pay⟩ ⟨n,f,(b1,b2),v,d⟩=res at *;by_cases hv:v=1
 · by_cases hd:d<f+lo
   · subst hv;obtain rfl:=hod.out.trans (if_pos ⟨rfl,hd⟩);clear hod
     go_enter Tryz.func31,Tryz.ntmps31
     obtain⟨cB0,cB1,cB2,cB3,aN⟩:=B.p5;obtain ⟨bP,bM,bK,bJ,bI,bH⟩:=H.p6;go_wp2_with fail;refine (hN _ (hE.below hb)).mono ?_;rintro _ w1 ⟨rfl,hb1⟩;clear cB0 cB1 cB2 cB3 aN bP bM bK bJ bI bH;replace B:=B.call hb1;replace H:=H.call hb1;replace hb:=aj hb hb1;clear hb1;obtain ⟨cB0,cB1,cB2,cB3,aN⟩:=B.p5;obtain ⟨bP,bM,bK,bJ,bI,bH⟩:=H.p6;go_wp2
     go_ret2
     exact⟨rfl,hb⟩
   · subst hv;obtain rfl:=hod.out.trans (if_neg fun h=>hd h.2);clear hod
     go_enter Tryz.func31,Tryz.ntmps31
     obtain⟨cB0,cB1,cB2,cB3,aN⟩:=B.p5;obtain ⟨bP,bM,bK,bJ,bI,bH⟩:=H.p6;go_wp2_with fail;refine (hN _ (hE.below hb)).mono ?_;rintro _ w1 ⟨rfl,hb1⟩;clear cB0 cB1 cB2 cB3 aN bP bM bK bJ bI bH;replace B:=B.call hb1;replace H:=H.call hb1;replace hb:=aj hb hb1;clear hb1;obtain ⟨cB0,cB1,cB2,cB3,aN⟩:=B.p5;obtain ⟨bP,bM,bK,bJ,bI,bH⟩:=H.p6;go_wp2
     go_ret2
     exact⟨rfl,hb⟩
 · obtain rfl:=hod.out.trans (if_neg fun h=>hv h.1);clear hod;have h3:(v==1)=false:=by simpa using hv
   go_enter Tryz.func31,Tryz.ntmps31
   obtain⟨cB0,cB1,cB2,cB3,aN⟩:=B.p5;obtain ⟨bP,bM,bK,bJ,bI,bH⟩:=H.p6;go_wp2_with fail;refine (hN _ (hE.below hb)).mono ?_;rintro _ w1 ⟨rfl,hb1⟩;clear cB0 cB1 cB2 cB3 aN bP bM bK bJ bI bH;replace B:=B.call hb1;replace H:=H.call hb1;replace hb:=aj hb hb1;clear hb1;obtain ⟨cB0,cB1,cB2,cB3,aN⟩:=B.p5;obtain ⟨bP,bM,bK,bJ,bI,bH⟩:=H.p6;go_wp2
   go_ret2
   exact⟨rfl,hb⟩
end Go.Proofs.YtelljijajgiabaaGreatDoor

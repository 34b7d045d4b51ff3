import Derived.Test.YtelljijajgiabaaGreatDoorQ13
set_option linter.unusedVariables false
set_option linter.unusedSimpArgs false
set_option maxRecDepth 100000
set_option maxHeartbeats 8000000
namespace Go.Proofs.YtelljijajgiabaaGreatDoor
open Go.RowKit Go.Shelf
def dvalid (d:List UInt8):Bool:= !d.isEmpty&&decide (d.length<=200)&&d.all Ig.isD&&(d==[48]|| !(d.head? == some 48))
theorem valid_neg {d:List UInt8} (h:d≠[48]):Ig.validS (45 :: d)=dvalid d:=by
 unfold Ig.validS dvalid
 have e:Ig.unsg (45 :: d)=d:=by unfold Ig.unsg;rw[if_pos (by rfl)];rfl
 have e1:(45 :: d==[48])=false:=by
  rw[beq_eq_false_iff_ne];intro h2;cases h2
 have e2:(d==[48])=false:=by simpa using h
 rw[e,e1,e2]
theorem valid_pos {s:List UInt8} (h:s.head? ≠ some 45):Ig.validS s=dvalid s:=by
 unfold Ig.validS dvalid
 have e:Ig.unsg s=s:=by
  unfold Ig.unsg
  rw[if_neg];intro h2
  cases s with
  | nil=>cases h2
  | cons a l=>simp at h2 h;exact h h2.symm
 rw[e]
theorem dvalid_bad {d:List UInt8} {r:Nat} (h:r<d.length) (hx:d[r].toNat<48∨57<d[r].toNat):dvalid d=false:=by
 have:d.all Ig.isD=false:=by
  rw[Bool.eq_false_iff];intro h2;have h3:=List.all_eq_true.1 h2 _ (List.getElem_mem h);simp [Ig.isD]at h3
  omega
 unfold dvalid
 rw[this];simp
theorem dvalid_all {d:List UInt8} (h:∀r (h:r<d.length),48<=d[r].toNat/\d[r].toNat<=57):dvalid d=(!d.isEmpty&&decide (d.length<=200)&&(d==[48]|| !(d.head? == some 48))):=by
 have:d.all Ig.isD=true:=by
  rw[List.all_eq_true];intro x hx;obtain ⟨r,hr,rfl⟩:=List.getElem_of_mem hx;have:=h r hr;simp [Ig.isD]
  omega
 unfold dvalid
 rw[this];simp
theorem rValid_nil (w:World):Calls Tryz.prog 114 #[.string ⟨#[]⟩] w fun e w'=>e=.returned (.bool false)/\w=w':=by
 go_enter Tryz.func114,Tryz.ntmps114
 go_wp2_with fail
 go_loopw [3] (fun s3 wr=>s3=.int .i64 0/\wr=w) (fun s3 wr=>0)
 case atStart=>exact⟨rfl,rfl⟩
 case round =>
  obtain⟨rfl,rfl⟩:=hrel;go_wp2;go_ret;exact ⟨rfl,rfl⟩
theorem rValid_minus0 (w:World):Calls Tryz.prog 114 #[.string ⟨#[45,48]⟩] w fun e w'=>e=.returned (.bool false)/\w=w':=by
 go_enter Tryz.func114,Tryz.ntmps114
 go_wp2;go_ret;exact ⟨rfl,rfl⟩
theorem rValid_neg (d:List UInt8) (w:World) (hd:d≠[48]) (hs:d.length<=1000000) :
 Calls Tryz.prog 114 #[.string ⟨(45 :: d).toArray⟩] w fun e w'=>e=.returned (.bool (dvalid d))/\w=w':=by
 have q1:(d==[48])=false:=by simpa using hd
 have q2:(d != [48])=true:=by simpa using hd
 have hkd:=Kp.mk hd;clear hd;have hbad:=fun r (h:r<d.length) (hx:d[r].toNat<48∨57<d[r].toNat)=>Kp.mk (dvalid_bad h hx)
 have hgood:=fun (h:∀r (h:r<d.length),48<=d[r].toNat/\d[r].toNat<=57)=>Kp.mk (dvalid_all h)
 generalize dvalid d=ans at *
 go_enter Tryz.func114,Tryz.ntmps114
 go_wp2_with fail
 go_loopw [3] (fun s3 wr=>∃r:Nat,r<=d.length/\s3=.int .i64 r/\Kp (∀t (h:t<d.length),t<r->48<=d[t].toNat/\d[t].toNat<=57)/\wr=w) (fun s3 wr=>d.length-(intOf s3).toNat)
 case atStart=>exact⟨0,Nat.zero_le _,rfl,⟨fun t h h2=>absurd h2 (Nat.not_lt_zero _)⟩,rfl⟩
 case round =>
  obtain⟨r,hr,rfl,hall,rfl⟩:=hrel;by_cases hl:r<d.length
  · have hbd:=hbad r hl
    have hnx:48<=d[r].toNat->d[r].toNat<=57->Kp (∀t (h:t<d.length),t<r+1->48<=d[t].toNat/\d[t].toNat<=57):=fun h1 h2=>⟨fun t h ht=>by
     rcases (show t<r∨t=r by omega) with h3|h3
     · exact hall.out t h h3
     · subst h3;exact⟨h1,h2⟩⟩
    have hx256:=d[r].toNat_lt;have t0:decide ((r:Int)<(d.length:Int))=true:=decide_eq_true (by omega);clear hbad hgood hall;generalize hxx:d[r].toNat=x at *;by_cases h1:x<48
    · have t1:decide ((x:Int)<48)=true:=decide_eq_true (by omega);have hf:=hbd (.inl h1);clear hbd hnx;go_wp2;go_ret;exact ⟨ret_bool hf.out.symm,rfl⟩
    · by_cases h2:57<x
      · have t1:decide ((x:Int)<48)=false:=decide_eq_false (by omega);have t2:decide ((x:Int) > 57)=true:=decide_eq_true (by omega);have hf:=hbd (.inr h2);clear hbd hnx;go_wp2;go_ret;exact ⟨ret_bool hf.out.symm,rfl⟩
      · have t1:decide ((x:Int)<48)=false:=decide_eq_false (by omega);have t2:decide ((x:Int) > 57)=false:=decide_eq_false (by omega);have hn2:=hnx (by omega) (by omega);clear hbd hnx;go_wp2;exact ⟨⟨r+1,by omega,by go_num,hn2,trivial⟩,by simp[intOf];omega⟩
  · have hg:=hgood (fun t h=>hall.out t h (by omega));obtain rfl:r=d.length:=by omega
    clear hbad hgood hall;have t0:decide ((d.length:Int)<(d.length:Int))=false:=decide_eq_false (by omega);by_cases he:d=[]
    · subst he;have hf:Kp (ans=false):=⟨by rw[hg.out];rfl⟩
      clear hg;go_wp2;go_ret;exact ⟨ret_bool hf.out.symm,rfl⟩
    have h0:0<d.length:=List.length_pos_iff.2 he;have hhd:d.head? = some d[0]:=by rw[List.head?_eq_getElem?,List.getElem?_eq_getElem h0]
    have hem:d.isEmpty=false:=by
     cases h:d.isEmpty
     · rfl
     · rw[List.isEmpty_iff]at h;rw[h]at h0;exact absurd h0 (Nat.lt_irrefl _)
    have u0:decide ((d.length:Int) > 0)=true:=decide_eq_true (by omega);rw [hhd,hem]at hg;clear hhd hem;by_cases h200:d.length<=200
    · have u1:decide ((d.length:Int)<=200)=true:=decide_eq_true (by omega);rw [q1,decide_eq_true h200]at hg;by_cases h48:d[0].toNat=48
      · have hf:Kp (ans=false):=⟨by rw[hg.out,UInt8.toNat_inj.1 (show d[0].toNat=(48:UInt8).toNat from h48)];rfl⟩
        clear hg;have u2:decide (((d[0].toNat:Nat):Int)=48)=true:=decide_eq_true (by omega);have u2':(((d[0].toNat:Nat):Int) != 48)=false:=by simp;omega
        generalize hyy:d[0].toNat=y at *;go_wp2;go_ret;exact ⟨ret_bool hf.out.symm,rfl⟩
      · have hne:¬d[0]=48:=fun e=>h48 (by rw[e];rfl)
        have hf:Kp (ans=true):=⟨by rw[hg.out];simp[hne]⟩
        clear hg hne;have u2:decide (((d[0].toNat:Nat):Int)=48)=false:=decide_eq_false (by omega);have u2':(((d[0].toNat:Nat):Int) != 48)=true:=by simp;omega
        generalize hyy:d[0].toNat=y at *;go_wp2;go_ret;exact ⟨ret_bool hf.out.symm,rfl⟩
    · have u1:decide ((d.length:Int)<=200)=false:=decide_eq_false (by omega);have hf:Kp (ans=false):=⟨by rw[hg.out,decide_eq_false h200];simp⟩
      clear hg;go_wp2;go_ret;exact ⟨ret_bool hf.out.symm,rfl⟩
theorem rValid_pos (s:List UInt8) (w:World) (h0:0<s.length) (hn:s.head? ≠ some 45) (hs:s.length<=1000000) :
 Calls Tryz.prog 114 #[.string ⟨s.toArray⟩] w fun e w'=>e=.returned (.bool (dvalid s))/\w=w':=by
 have hnm:¬s[0].toNat=45:=fun h=>hn (by
  rw[List.head?_eq_getElem?,List.getElem?_eq_getElem h0]
  congr 1
  exact UInt8.toNat_inj.1 h)
 clear hn;have t9:decide (((s[0].toNat:Nat):Int)=45)=false:=decide_eq_false (by omega);have t9':(((s[0].toNat:Nat):Int)==45)=false:=by simp;omega
 have t8:decide ((s.length:Int) > 0)=true:=decide_eq_true (by omega);have hbad:=fun r (h:r<s.length) (hx:s[r].toNat<48∨57<s[r].toNat)=>Kp.mk (dvalid_bad h hx)
 have hgood:=fun (h:∀r (h:r<s.length),48<=s[r].toNat/\s[r].toNat<=57)=>Kp.mk (dvalid_all h)
 generalize dvalid s=ans at *
 go_enter Tryz.func114,Tryz.ntmps114
 go_wp2_with fail
 go_loopw [3] (fun s3 wr=>∃r:Nat,r<=s.length/\s3=.int .i64 r/\Kp (∀t (h:t<s.length),t<r->48<=s[t].toNat/\s[t].toNat<=57)/\wr=w) (fun s3 wr=>s.length-(intOf s3).toNat)
 case atStart=>exact⟨0,Nat.zero_le _,rfl,⟨fun t h h2=>absurd h2 (Nat.not_lt_zero _)⟩,rfl⟩
 case round =>
  obtain⟨r,hr,rfl,hall,rfl⟩:=hrel;by_cases hl:r<s.length
  · have hbd:=hbad r hl
    have hnx:48<=s[r].toNat->s[r].toNat<=57->Kp (∀t (h:t<s.length),t<r+1->48<=s[t].toNat/\s[t].toNat<=57):=fun h1 h2=>⟨fun t h ht=>by
     rcases (show t<r∨t=r by omega) with h3|h3
     · exact hall.out t h h3
     · subst h3;exact⟨h1,h2⟩⟩
    have hx256:=s[r].toNat_lt;have t0:decide ((r:Int)<(s.length:Int))=true:=decide_eq_true (by omega);clear hbad hgood hall;generalize hxx:s[r].toNat=x at *;by_cases h1:x<48
    · have t1:decide ((x:Int)<48)=true:=decide_eq_true (by omega);have hf:=hbd (.inl h1);clear hbd hnx;go_wp2;go_ret;exact ⟨ret_bool hf.out.symm,rfl⟩
    · by_cases h2:57<x
      · have t1:decide ((x:Int)<48)=false:=decide_eq_false (by omega);have t2:decide ((x:Int) > 57)=true:=decide_eq_true (by omega);have hf:=hbd (.inr h2);clear hbd hnx;go_wp2;go_ret;exact ⟨ret_bool hf.out.symm,rfl⟩
      · have t1:decide ((x:Int)<48)=false:=decide_eq_false (by omega);have t2:decide ((x:Int) > 57)=false:=decide_eq_false (by omega);have hn2:=hnx (by omega) (by omega);clear hbd hnx;go_wp2;exact ⟨⟨r+1,by omega,by go_num,hn2,trivial⟩,by simp[intOf];omega⟩
  · have hg:=hgood (fun t h=>hall.out t h (by omega));obtain rfl:r=s.length:=by omega
    clear hbad hgood hall;have t0:decide ((s.length:Int)<(s.length:Int))=false:=decide_eq_false (by omega);have hhd:s.head? = some s[0]:=by rw[List.head?_eq_getElem?,List.getElem?_eq_getElem h0]
    have hem:s.isEmpty=false:=by
     cases h:s.isEmpty
     · rfl
     · rw[List.isEmpty_iff]at h;rw[h]at h0;exact absurd h0 (Nat.lt_irrefl _)
    have u0:decide ((s.length:Int) > 0)=true:=decide_eq_true (by omega);rw [hhd,hem]at hg;clear hhd hem;by_cases h200:s.length<=200
    · have u1:decide ((s.length:Int)<=200)=true:=decide_eq_true (by omega);by_cases hz:s=[48]
      · subst hz;have hf:Kp (ans=true):=⟨by rw[hg.out];rfl⟩
        clear hg;go_wp2;go_ret;exact ⟨ret_bool hf.out.symm,rfl⟩
      have q1:(s==[48])=false:=by simpa using hz
      have q2:(s != [48])=true:=by simpa using hz
      have hkd:=Kp.mk hz;clear hz;rw [q1,decide_eq_true h200]at hg;by_cases h48:s[0].toNat=48
      · have hf:Kp (ans=false):=⟨by rw[hg.out,UInt8.toNat_inj.1 (show s[0].toNat=(48:UInt8).toNat from h48)];rfl⟩
        clear hg;have u2:decide (((s[0].toNat:Nat):Int)=48)=true:=decide_eq_true (by omega);have u2':(((s[0].toNat:Nat):Int) != 48)=false:=by simp;omega
        generalize hyy:s[0].toNat=y at *;go_wp2;go_ret;exact ⟨ret_bool hf.out.symm,rfl⟩
      · have hne:¬s[0]=48:=fun e=>h48 (by rw[e];rfl)
        have hf:Kp (ans=true):=⟨by rw[hg.out];simp[hne]⟩
        clear hg hne;have u2:decide (((s[0].toNat:Nat):Int)=48)=false:=decide_eq_false (by omega);have u2':(((s[0].toNat:Nat):Int) != 48)=true:=by simp;omega
        generalize hyy:s[0].toNat=y at *;go_wp2;go_ret;exact ⟨ret_bool hf.out.symm,rfl⟩
    · have u1:decide ((s.length:Int)<=200)=false:=decide_eq_false (by omega);have hf:Kp (ans=false):=⟨by rw[hg.out,decide_eq_false h200];simp⟩
      clear hg;go_wp2;go_ret;exact ⟨ret_bool hf.out.symm,rfl⟩
theorem rValid_any (s:List UInt8) (w:World) (hs:s.length<=1000000) :
 Calls Tryz.prog 114 #[.string ⟨s.toArray⟩] w fun e w'=>e=.returned (.bool (Ig.validS s))/\w=w':=by
 cases s with
 | nil=>exact rValid_nil w
 | cons a d =>
  by_cases ha:a=45
  · subst ha;by_cases hd:d=[48]
    · subst hd;have e:Ig.validS [45,48]=false:=by decide
      rw[e];exact rValid_minus0 w
    · rw[valid_neg hd];exact rValid_neg d w hd (by rw[List.length_cons]at hs;omega)
  · have hh:(a :: d).head? ≠ some 45:=by
     intro h;rw [List.head?_cons,Option.some.injEq]at h;exact ha h
    rw[valid_pos hh];exact rValid_pos (a :: d) w (by simp) hh hs
theorem rgrp_add_len {a b n:Nat} (ha:(Dx.grp a).length<=n) (hb:(Dx.grp b).length<=n):(Dx.grp (a+b)).length<=n+1:=by
 have h1:a<10 ^ n:=Nat.lt_of_lt_of_le (Dx.grp_lt a) (Nat.pow_le_pow_right (by decide) ha);have h2:b<10 ^ n:=Nat.lt_of_lt_of_le (Dx.grp_lt b) (Nat.pow_le_pow_right (by decide) hb);exact Dx.grp_len (by rw[Nat.pow_succ];omega)
theorem rchecked_any (neg:Bool) (n:Nat) (v:Value) (w:World) (h:DgAt w n v) (hl:(Dx.grp n).length<=1000000) :
 Calls Tryz.prog 164 #[.bool neg,v] w fun e w'=>e=.returned (.tuple #[.string ⟨(Ig.resS (sgn neg n)).toArray⟩,.int .i64 (Ig.resE (sgn neg n))])/\Below w.heap.size w w':=by
 obtain⟨A,c,rfl,hA,hn,hm⟩:=h.out;have hT:=rtext_any neg n A c w hA hn hl;have e:=sgn_abs neg n;by_cases hf:Lib.nDigits n<=200
 · have e1:Ig.resS (sgn neg n)=Lib.itoa (sgn neg n):=Ig.resS_fits ((Ig.fits_iff _).2 (by rw[e];exact hf));have e2:Ig.resE (sgn neg n)=0:=Ig.resE_fits ((Ig.fits_iff _).2 (by rw[e];exact hf));rw [e1,e2];rw [decide_eq_true hf]at hT;clear e e1 e2 h hA hf;generalize Lib.itoa (sgn neg n)=s at *;generalize (Dx.grp n).length=k at *
   go_enter Tryz.func164,Tryz.ntmps164
   go_wp2_with fail;refine hT.mono ?_;rintro _ w1 ⟨rfl,hb⟩;clear hT;go_wp2
   go_ret2
   exact⟨rfl,hb⟩
 · have e1:Ig.resS (sgn neg n)=[]:=Ig.resS_not (fun h2=>hf (by have:=(Ig.fits_iff _).1 h2;rwa [e]at this));have e2:Ig.resE (sgn neg n)=30:=Ig.resE_not (fun h2=>hf (by have:=(Ig.fits_iff _).1 h2;rwa [e]at this));rw [e1,e2];rw [decide_eq_false hf]at hT;clear e e1 e2 h hA hf;generalize Lib.itoa (sgn neg n)=s at *;generalize (Dx.grp n).length=k at *
   go_enter Tryz.func164,Tryz.ntmps164
   go_wp2_with fail;refine hT.mono ?_;rintro _ w1 ⟨rfl,hb⟩;clear hT;go_wp2
   go_ret2
   exact⟨rfl,hb⟩
theorem rsum_any (x y:Bool) (a b:Nat) (v1 v2:Value) (w:World) (h1:DgAt w a v1) (h2:DgAt w b v2) (la:(Dx.grp a).length<=100000) (lb:(Dx.grp b).length<=100000) :
 Calls Tryz.prog 162 #[.bool x,v1,.bool y,v2] w fun e w'=>e=.returned (.tuple #[.string ⟨(Ig.resS (sgn x a+sgn y b)).toArray⟩,.int .i64 (Ig.resE (sgn x a+sgn y b))])/\Below w.heap.size w w':=by
 obtain⟨A1,c1,rfl,-⟩:=id h1.out;obtain ⟨A2,c2,rfl,-⟩:=id h2.out;cases x <;> cases y
 · have hz:sgn false a+sgn false b=sgn false (a+b):=by simp only[sgn];simp;try omega
   rw[hz];have hP:=rplus_any a b _ _ w h1 h2 la lb;have hl:(Dx.grp (a+b)).length<=1000000:=by have:=rgrp_add_len la lb;omega
   clear hz h1 h2
   go_enter Tryz.func162,Tryz.ntmps162
   go_wp2_with fail;refine hP.mono ?_;rintro _ w2 ⟨v,rfl,hv,hb⟩;clear hP;obtain ⟨A3,c3,rfl,-⟩:=id hv.out;have hC:=rchecked_any false (a+b) _ _ hv hl;clear hv;go_wp2_with fail;refine hC.mono ?_;rintro _ w3 ⟨rfl,hb3⟩;have hb4:=bCall hb hb3;clear hC;go_wp2
   go_ret2
   exact⟨rfl,hb4⟩
 · have hO:=rorder_any a b _ _ w h1 h2 (by omega) (by omega);by_cases hba:b<=a
   · have hz:sgn false a+sgn true b=sgn false (a-b):=by simp only[sgn];simp;omega
     rw[hz];have hl:(Dx.grp (a-b)).length<=1000000:=by have:=rgrp_le (show a-b<=a by omega);omega
     have hP:=fun w0 k1 k2=>rminus_any a b (.slice A1 (Dx.grp a).length c1) (.slice A2 (Dx.grp b).length c2) w0 k1 k2 hba la
     clear hz
     rcases Nat.lt_or_eq_of_le hba with hlt|heq
     · have hc:Ig.cmpI a b=1:=by exact Ig.cmpI_gt hlt
       rw[hc]at hO;clear hc hlt hba
       go_enter Tryz.func162,Tryz.ntmps162
       go_wp2_with fail;refine hO.mono ?_;rintro _ w1 ⟨rfl,hb1⟩;have k1:=h1.call hb1;have k2:=h2.call hb1;replace hP:=hP _ k1 k2;clear hO h1 h2 k1 k2;go_wp2_with fail;refine hP.mono ?_;rintro _ w2 ⟨v,rfl,hv,hb2⟩;have hb:=bCall hb1 hb2;clear hP;obtain ⟨A3,c3,rfl,-⟩:=id hv.out;have hC:=rchecked_any false (a-b) _ _ hv hl;clear hv;go_wp2_with fail;refine hC.mono ?_;rintro _ w3 ⟨rfl,hb3⟩;have hb4:=bCall hb hb3;clear hC;go_wp2
       go_ret2
       exact⟨rfl,hb4⟩
     · have hc:Ig.cmpI a b=0:=by subst heq;exact Ig.cmpI_eq _
       rw[hc]at hO;clear hc heq hba
       go_enter Tryz.func162,Tryz.ntmps162
       go_wp2_with fail;refine hO.mono ?_;rintro _ w1 ⟨rfl,hb1⟩;have k1:=h1.call hb1;have k2:=h2.call hb1;replace hP:=hP _ k1 k2;clear hO h1 h2 k1 k2;go_wp2_with fail;refine hP.mono ?_;rintro _ w2 ⟨v,rfl,hv,hb2⟩;have hb:=bCall hb1 hb2;clear hP;obtain ⟨A3,c3,rfl,-⟩:=id hv.out;have hC:=rchecked_any false (a-b) _ _ hv hl;clear hv;go_wp2_with fail;refine hC.mono ?_;rintro _ w3 ⟨rfl,hb3⟩;have hb4:=bCall hb hb3;clear hC;go_wp2
       go_ret2
       exact⟨rfl,hb4⟩
   · have hz:sgn false a+sgn true b=sgn true (b-a):=by simp only[sgn];simp;omega
     rw[hz];have hl:(Dx.grp (b-a)).length<=1000000:=by have:=rgrp_le (show b-a<=b by omega);omega
     have hP:=fun w0 k1 k2=>rminus_any b a (.slice A2 (Dx.grp b).length c2) (.slice A1 (Dx.grp a).length c1) w0 k1 k2 (by omega) lb
     have hc:Ig.cmpI a b= -1:=Ig.cmpI_lt (by omega);rw [hc]at hO;clear hz hc
     go_enter Tryz.func162,Tryz.ntmps162
     go_wp2_with fail;refine hO.mono ?_;rintro _ w1 ⟨rfl,hb1⟩;have k1:=h1.call hb1;have k2:=h2.call hb1;replace hP:=hP _ k2 k1;clear hO h1 h2 k1 k2;go_wp2_with fail;refine hP.mono ?_;rintro _ w2 ⟨v,rfl,hv,hb2⟩;have hb:=bCall hb1 hb2;clear hP;obtain ⟨A3,c3,rfl,-⟩:=id hv.out;have hC:=rchecked_any true (b-a) _ _ hv hl;clear hv;go_wp2_with fail;refine hC.mono ?_;rintro _ w3 ⟨rfl,hb3⟩;have hb4:=bCall hb hb3;clear hC;go_wp2
     go_ret2
     exact⟨rfl,hb4⟩
 · have hO:=rorder_any a b _ _ w h1 h2 (by omega) (by omega);by_cases hba:b<=a
   · have hz:sgn true a+sgn false b=sgn true (a-b):=by simp only[sgn];simp;omega
     rw[hz];have hl:(Dx.grp (a-b)).length<=1000000:=by have:=rgrp_le (show a-b<=a by omega);omega
     have hP:=fun w0 k1 k2=>rminus_any a b (.slice A1 (Dx.grp a).length c1) (.slice A2 (Dx.grp b).length c2) w0 k1 k2 hba la
     clear hz
     rcases Nat.lt_or_eq_of_le hba with hlt|heq
     · have hc:Ig.cmpI a b=1:=by exact Ig.cmpI_gt hlt
       rw[hc]at hO;clear hc hlt hba
       go_enter Tryz.func162,Tryz.ntmps162
       go_wp2_with fail;refine hO.mono ?_;rintro _ w1 ⟨rfl,hb1⟩;have k1:=h1.call hb1;have k2:=h2.call hb1;replace hP:=hP _ k1 k2;clear hO h1 h2 k1 k2;go_wp2_with fail;refine hP.mono ?_;rintro _ w2 ⟨v,rfl,hv,hb2⟩;have hb:=bCall hb1 hb2;clear hP;obtain ⟨A3,c3,rfl,-⟩:=id hv.out;have hC:=rchecked_any true (a-b) _ _ hv hl;clear hv;go_wp2_with fail;refine hC.mono ?_;rintro _ w3 ⟨rfl,hb3⟩;have hb4:=bCall hb hb3;clear hC;go_wp2
       go_ret2
       exact⟨rfl,hb4⟩
     · have hc:Ig.cmpI a b=0:=by subst heq;exact Ig.cmpI_eq _
       rw[hc]at hO;clear hc heq hba
       go_enter Tryz.func162,Tryz.ntmps162
       go_wp2_with fail;refine hO.mono ?_;rintro _ w1 ⟨rfl,hb1⟩;have k1:=h1.call hb1;have k2:=h2.call hb1;replace hP:=hP _ k1 k2;clear hO h1 h2 k1 k2;go_wp2_with fail;refine hP.mono ?_;rintro _ w2 ⟨v,rfl,hv,hb2⟩;have hb:=bCall hb1 hb2;clear hP;obtain ⟨A3,c3,rfl,-⟩:=id hv.out;have hC:=rchecked_any true (a-b) _ _ hv hl;clear hv;go_wp2_with fail;refine hC.mono ?_;rintro _ w3 ⟨rfl,hb3⟩;have hb4:=bCall hb hb3;clear hC;go_wp2
       go_ret2
       exact⟨rfl,hb4⟩
   · have hz:sgn true a+sgn false b=sgn false (b-a):=by simp only[sgn];simp;omega
     rw[hz];have hl:(Dx.grp (b-a)).length<=1000000:=by have:=rgrp_le (show b-a<=b by omega);omega
     have hP:=fun w0 k1 k2=>rminus_any b a (.slice A2 (Dx.grp b).length c2) (.slice A1 (Dx.grp a).length c1) w0 k1 k2 (by omega) lb
     have hc:Ig.cmpI a b= -1:=Ig.cmpI_lt (by omega);rw [hc]at hO;clear hz hc
     go_enter Tryz.func162,Tryz.ntmps162
     go_wp2_with fail;refine hO.mono ?_;rintro _ w1 ⟨rfl,hb1⟩;have k1:=h1.call hb1;have k2:=h2.call hb1;replace hP:=hP _ k2 k1;clear hO h1 h2 k1 k2;go_wp2_with fail;refine hP.mono ?_;rintro _ w2 ⟨v,rfl,hv,hb2⟩;have hb:=bCall hb1 hb2;clear hP;obtain ⟨A3,c3,rfl,-⟩:=id hv.out;have hC:=rchecked_any false (b-a) _ _ hv hl;clear hv;go_wp2_with fail;refine hC.mono ?_;rintro _ w3 ⟨rfl,hb3⟩;have hb4:=bCall hb hb3;clear hC;go_wp2
     go_ret2
     exact⟨rfl,hb4⟩
 · have hz:sgn true a+sgn true b=sgn true (a+b):=by simp only[sgn];simp;try omega
   rw[hz];have hP:=rplus_any a b _ _ w h1 h2 la lb;have hl:(Dx.grp (a+b)).length<=1000000:=by have:=rgrp_add_len la lb;omega
   clear hz h1 h2
   go_enter Tryz.func162,Tryz.ntmps162
   go_wp2_with fail;refine hP.mono ?_;rintro _ w2 ⟨v,rfl,hv,hb⟩;clear hP;obtain ⟨A3,c3,rfl,-⟩:=id hv.out;have hC:=rchecked_any true (a+b) _ _ hv hl;clear hv;go_wp2_with fail;refine hC.mono ?_;rintro _ w3 ⟨rfl,hb3⟩;have hb4:=bCall hb hb3;clear hC;go_wp2
   go_ret2
   exact⟨rfl,hb4⟩
theorem rfits_dec {z:Int} (h:Ig.fits z):(Lib.decDigits z.natAbs).length<=200:=by
 rw[Ig.dec_len];exact (Ig.fits_iff z).1 h
theorem rfits_grp {z:Int} (h:Ig.fits z):(Dx.grp z.natAbs).length<=200:=Dx.grp_len h
theorem rfits_itoa {z:Int} (h:Ig.fits z):(Lib.itoa z).length<=201:=by
 have:=rfits_dec h;by_cases h0:z<0
 · rw[Ig.itoa_neg h0,List.length_cons];omega
 · rw[Ig.itoa_nonneg (by omega)];omega
theorem rvalid_itoa {z:Int} (h:Ig.fits z) (w:World):Calls Tryz.prog 114 #[.string ⟨(Lib.itoa z).toArray⟩] w fun e w'=>e=.returned (.bool true)/\w=w':=by
 have:=rValid_any (Lib.itoa z) w (by have:=rfits_itoa h;omega)
 rwa [Ig.valid_itoa h]at this
theorem rCompare_any (x y:Int) (w:World) (hx:Ig.fits x) (hy:Ig.fits y) :
 Calls Tryz.prog 115 #[.string ⟨(Lib.itoa x).toArray⟩,.string ⟨(Lib.itoa y).toArray⟩] w fun e w'=>e=.returned (.int .i64 (cmpZ x y))/\Below w.heap.size w w':=by
 have hV1:=fun w0=>rvalid_itoa hx w0
 have hV2:=fun w0=>rvalid_itoa hy w0
 have hD1:=fun w0=>rdigits_any x w0 (by have:=rfits_dec hx;omega)
 have hD2:=fun w0=>rdigits_any y w0 (by have:=rfits_dec hy;omega)
 have la:=rfits_grp hx;have lb:=rfits_grp hy;have hc:=Kp.mk (cmpZ_signs x y);generalize cmpZ x y=z at *;generalize decide (x<0)=nx at *;generalize decide (y<0)=ny at *;generalize x.natAbs=ax at *;generalize y.natAbs=ay at *;generalize Lib.itoa x=sx at *;generalize Lib.itoa y=sy at *;clear hx hy
 go_enter Tryz.func115,Tryz.ntmps115
 go_wp2_with fail;refine (hV1 _).mono ?_;rintro _ _ ⟨rfl,rfl⟩;go_wp2_with fail;refine (hV2 _).mono ?_;rintro _ _ ⟨rfl,rfl⟩;clear hV1 hV2;go_wp2_with fail;refine (hD1 _).mono ?_;rintro _ w1 ⟨v1,rfl,k1,hb1⟩;obtain ⟨A1,c1,rfl,-⟩:=id k1.out;clear hD1;go_wp2_with fail;refine (hD2 _).mono ?_;rintro _ w2 ⟨v2,rfl,k2,hb2⟩;obtain ⟨A2,c2,rfl,-⟩:=id k2.out;clear hD2;have k1':=k1.call hb2;have hb:=bCall hb1 hb2;clear k1 hb1 hb2;cases nx <;> cases ny
 · have hz:z=Ig.cmpI ax ay:=hc.out;have hC:=rorder_any ax ay _ _ _ k1' k2 (by omega) (by omega);rw [←hz]at hC;clear hz hc k1' k2;go_wp2_with fail;refine hC.mono ?_;rintro _ w3 ⟨rfl,hb3⟩;have hb4:=bCall hb hb3;clear hC;go_wp2;go_ret;exact ⟨rfl,hb4⟩
 · have hz:z=1:=hc.out;subst hz;clear hc k1' k2;go_wp2;go_ret;exact ⟨rfl,hb⟩
 · have hz:z= -1:=hc.out;subst hz;clear hc k1' k2;go_wp2;go_ret;exact ⟨rfl,hb⟩
 · have hz:z=Ig.cmpI ay ax:=hc.out;have hC:=rorder_any ay ax _ _ _ k2 k1' (by omega) (by omega);rw [←hz]at hC;clear hz hc k1' k2;go_wp2_with fail;refine hC.mono ?_;rintro _ w3 ⟨rfl,hb3⟩;have hb4:=bCall hb hb3;clear hC;go_wp2;go_ret;exact ⟨rfl,hb4⟩
theorem rSub_any (x y:Int) (w:World) (hx:Ig.fits x) (hy:Ig.fits y) :
 Calls Tryz.prog 116 #[.string ⟨(Lib.itoa x).toArray⟩,.string ⟨(Lib.itoa y).toArray⟩] w fun e w'=>e=.returned (.tuple #[.string ⟨(Ig.resS (x-y)).toArray⟩,.int .i64 (Ig.resE (x-y))])/\Below w.heap.size w w':=by
 have hV1:=fun w0=>rvalid_itoa hx w0
 have hV2:=fun w0=>rvalid_itoa hy w0
 have hD1:=fun w0=>rdigits_any x w0 (by have:=rfits_dec hx;omega)
 have hD2:=fun w0=>rdigits_any y w0 (by have:=rfits_dec hy;omega)
 have la:=rfits_grp hx;have lb:=rfits_grp hy
 have hz:=Kp.mk (show sgn (decide (x<0)) x.natAbs+sgn (!decide (y<0)) y.natAbs=x-y by
  unfold sgn
  by_cases h1:x<0 <;> by_cases h2:y<0 <;> simp[h1,h2] <;> omega)
 generalize x-y=z at *;generalize decide (x<0)=nx at *;generalize decide (y<0)=ny at *;generalize x.natAbs=ax at *;generalize y.natAbs=ay at *;generalize Lib.itoa x=sx at *;generalize Lib.itoa y=sy at *;clear hx hy;have hS:=fun b w0 (k1:DgAt w0 ax b) d (k2:DgAt w0 ay d)=>rsum_any nx (!ny) ax ay _ _ w0 k1 k2 (by omega) (by omega)
 rw[hz.out]at hS;clear hz
 go_enter Tryz.func116,Tryz.ntmps116
 go_wp2_with fail;refine (hV1 _).mono ?_;rintro _ _ ⟨rfl,rfl⟩;go_wp2_with fail;refine (hV2 _).mono ?_;rintro _ _ ⟨rfl,rfl⟩;clear hV1 hV2;go_wp2_with fail;refine (hD1 _).mono ?_;rintro _ w1 ⟨v1,rfl,k1,hb1⟩;obtain ⟨A1,c1,rfl,-⟩:=id k1.out;clear hD1;go_wp2_with fail;refine (hD2 _).mono ?_;rintro _ w2 ⟨v2,rfl,k2,hb2⟩;obtain ⟨A2,c2,rfl,-⟩:=id k2.out;clear hD2;have k1':=k1.call hb2;have hb:=bCall hb1 hb2;clear k1 hb1 hb2;replace hS:=hS _ _ k1' _ k2;clear k1' k2;cases ny <;> cases nx
 all_goals
  go_wp2_with fail;refine hS.mono ?_;rintro _ w3 ⟨rfl,hb3⟩;have hb4:=bCall hb hb3;clear hS;go_wp2
  go_ret2
  exact⟨rfl,hb4⟩
theorem grp64_len {n:Nat} (h:n<=9223372036854775808):(Dx.grp n).length<=20:=Dx.grp_len (by omega)
theorem rFromInt_pos (n:Nat) (w:World) (hn:n<=9223372036854775807) :
 Calls Tryz.prog 75 #[.int .i64 n] w fun e w'=>e=.returned (.string ⟨(Lib.itoa (sgn false n)).toArray⟩)/\Below w.heap.size w w':=by
 have hl20:=grp64_len (n:=n) (by omega);have hT:=fun A c (w0:World) hA hc=>rtext_any false n A c w0 hA hc (by omega)
 have hg:=Kp.mk (show Dx.grp n=[]++Dx.grp n from rfl);generalize decide (Lib.nDigits n<=200)=fit at *;generalize Lib.itoa (sgn false n)=res at *
 have hlen:∀(o:List Int) (q:Nat),Dx.grp n=o++Dx.grp q->o.length<=20:=fun o q h=>by
  have:=congrArg List.length h;rw [List.length_append]at this;omega
 have hownI:=World.ownsRow_nil w w.heap.size 3 1
 have hst:∀(o:List Int) (q:Nat),q≠0->Dx.grp n=o++Dx.grp q->Kp (Dx.grp n=(o++[(q:Int) % 10])++Dx.grp (q / 10)):=fun o q h0 h=>⟨by
  rw[h,Dx.grp_pos h0,List.append_assoc]
  congr 2⟩
 have t9:decide ((n:Int)<0)=false:=decide_eq_false (by omega);obtain ⟨L,hL⟩:=exK (Dx.grp n);rw [hL.out]at hT hlen hst hl20;clear hg;have hg:Kp (L=[]++Dx.grp n):=⟨by rw[List.nil_append];exact hL.out.symm⟩
 clear hL
 go_enter Tryz.func75,Tryz.ntmps75
 go_wp2_with fail
 go_loopw [3,4,5] (fun s3 s4 s5 wr=>∃(q:Nat) (o:List Int),s4=.int .i64 ((q:Int))/\q<=9223372036854775807/\Kp (L=o++Dx.grp q)/\wr.ownsRow w.heap.size 3 1 s3 o.length (o.flatMap intC)/\Below w.heap.size w wr) (fun s3 s4 s5 wr=>(intOf s4).natAbs)
 case atStart=>exact⟨n,[],rfl,hn,hg,hownI,Below.refl _ _⟩
 case round =>
  clear hownI hg;obtain ⟨q,o,rfl,hq,ho,hown,hb⟩:=hrel;by_cases hq0:q=0
  · subst hq0;have e:L=o:=by have:=ho.out;rw[Dx.grp_zero,List.append_nil]at this;exact this
    obtain⟨A,c,rfl,hA,hc,hm,-⟩:=own_at hown;subst e;have hX:=hT A c _ hA hc;clear hT hst hlen hA hown ho;generalize L.length=k at *;go_wp2_with fail;refine hX.mono ?_;rintro _ w3 ⟨rfl,hb3⟩;have hb4:=bCall hb hb3;clear hX;go_wp2;go_ret;exact ⟨rfl,hb4⟩
  · have ho20:=hlen o q ho.out;have hnx:=hst o q hq0 ho.out;have u1:decide (((q:Int))=0)=false:=decide_eq_false (by omega);have u2:(((q:Int)) != 0)=true:=by simp;omega
    have u3:decide ((q:Int) % 10<0)=false:=decide_eq_false (by omega);obtain ⟨i0,z0,hi,hz2,hs1,hz1,hbys⟩:=intI;have hbn:=bNewW wr (.cells #[.int .i64 ((q:Int) % 10)] 3);have hown1:=own_callG hown hbn;clear hT hst hlen ho
    go_wp2_with (at_builtin;refine wpList_append_own _ rfl (.tmp 19) (.tmp 21) 25 rfl w.heap.size 3 i0 z0 1 8 Tryz.underlying25 hi hz2 hs1 hbys hz1 (by decide) _ _ _ rfl hown1 ⟨wr.heap.size,0,none⟩ 1 1 [.int .i64 ((q:Int) % 10)] rfl rfl ?_ ?_ ?_ ?_ ?_ ?_)
    all_goals first
     | (intro j u hj;rcases j with _|j <;> simp at hj <;> subst hj <;> simp[Addr.add])
     | (intro u hu;simp at hu;subst hu;rfl)
     | rfl
     | (unfold maxLen;omega)
     | omega
     | (have:=hbn.size;have:=hb.size;omega)
     | skip
    intro v' w2 hown' hgrow _;have hb':=(bCall hb hbn).grown hgrow (by have:=hbn.size;have:=hb.size;omega) (fun k hk=>(hown1.lt k hk).1);clear hown1 hown hi hz2 hs1 hz1 hbys hgrow;go_wp2;refine ⟨⟨q / 10,o++[(q:Int) % 10],congrArg (Value.int .i64) (by omega),by omega,hnx,?_,hb'⟩,by show ((q:Int) / 10).natAbs<((q:Int)).natAbs;omega⟩;rw [List.length_append,List.length_singleton,List.flatMap_append];exact hown'
theorem rFromInt_neg (z:Int) (n:Nat) (hz:Kp (z= -(n:Int))) (hz0:z<0) (hz1: -9223372036854775808<=z) (w:World) (hn:n<=9223372036854775808) (h0:n≠0) :
 Calls Tryz.prog 75 #[.int .i64 z] w fun e w'=>e=.returned (.string ⟨(Lib.itoa (sgn true n)).toArray⟩)/\Below w.heap.size w w':=by
 have hl20:=grp64_len (n:=n) (by omega);have hT:=fun A c (w0:World) hA hc=>rtext_any true n A c w0 hA hc (by omega)
 have hg:=Kp.mk (show Dx.grp n=[]++Dx.grp n from rfl);generalize decide (Lib.nDigits n<=200)=fit at *;generalize Lib.itoa (sgn true n)=res at *
 have hlen:∀(o:List Int) (q:Nat),Dx.grp n=o++Dx.grp q->o.length<=20:=fun o q h=>by
  have:=congrArg List.length h;rw [List.length_append]at this;omega
 have hownI:=World.ownsRow_nil w w.heap.size 3 1
 have hst:∀(o:List Int) (q:Nat),q≠0->Dx.grp n=o++Dx.grp q->Kp (Dx.grp n=(o++[(q:Int) % 10])++Dx.grp (q / 10)):=fun o q h0 h=>⟨by
  rw[h,Dx.grp_pos h0,List.append_assoc]
  congr 2⟩
 have t9:decide (z<0)=true:=decide_eq_true hz0;obtain ⟨L,hL⟩:=exK (Dx.grp n);rw [hL.out]at hT hlen hst hl20;clear hg;have hg:Kp (L=[]++Dx.grp n):=⟨by rw[List.nil_append];exact hL.out.symm⟩
 clear hL
 go_enter Tryz.func75,Tryz.ntmps75
 go_wp2_with fail
 go_loopw [3,4,5] (fun s3 s4 s5 wr=>∃(q:Nat) (m:Int) (o:List Int),Kp (m= -(q:Int))/\s4=.int .i64 m/\q<=9223372036854775808/\Kp (L=o++Dx.grp q)/\wr.ownsRow w.heap.size 3 1 s3 o.length (o.flatMap intC)/\Below w.heap.size w wr) (fun s3 s4 s5 wr=>(intOf s4).natAbs)
 case atStart=>exact⟨n,z,[],hz,rfl,hn,hg,hownI,Below.refl _ _⟩
 case round =>
  clear hownI hg;obtain ⟨q,m,o,hm,rfl,hq,ho,hown,hb⟩:=hrel;by_cases hq0:q=0
  · subst hq0;obtain rfl:m=0:=hm.out;clear hm;have e:L=o:=by have:=ho.out;rw[Dx.grp_zero,List.append_nil]at this;exact this
    obtain⟨A,c,rfl,hA,hc,hm,-⟩:=own_at hown;subst e;have hX:=hT A c _ hA hc;clear hT hst hlen hA hown ho;generalize L.length=k at *;go_wp2_with fail;refine hX.mono ?_;rintro _ w3 ⟨rfl,hb3⟩;have hb4:=bCall hb hb3;clear hX;go_wp2;go_ret;exact ⟨rfl,hb4⟩
  · have ho20:=hlen o q ho.out;have hnx:=hst o q hq0 ho.out;have hr0:Kp (Int.tmod m 10= -((q:Int) % 10)):=⟨by rw[hm.out,Int.neg_tmod,Int.tmod_eq_emod_of_nonneg (by omega)]⟩
    have hd0:Kp (Int.tdiv m 10= -((q / 10:Nat):Int)):=⟨by rw[hm.out,Int.neg_tdiv,Int.tdiv_eq_ediv_of_nonneg (by omega)];rfl⟩
    have hm1:m<= -1:=by have:=hm.out;omega
    have hm2: -9223372036854775808<=m:=by have:=hm.out;omega
    have hmm:=hm;clear hm;have u2:(m != 0)=true:=by simp;omega
    have u1:decide (m=0)=false:=decide_eq_false (by omega);generalize hrr:Int.tmod m 10=r at *;generalize hdd:Int.tdiv m 10=m2 at *;have hr1: -9<=r/\r<=0:=by have:=hr0.out;omega
    have hd1: -9223372036854775808<=m2/\m2<=0:=by have:=hd0.out;omega
    obtain⟨i0,z0,hi,hz2,hs1,hz1,hbys⟩:=intI;by_cases hneg:r<0
    · have u3:decide (r<0)=true:=decide_eq_true hneg;have hbn:=bNewW wr (.cells #[.int .i64 (-r)] 3);have hown1:=own_callG hown hbn;clear hT hst hlen ho;have hdummy:=trivial
      go_wp2_with (at_builtin;refine wpList_append_own _ rfl (.tmp 19) (.tmp 21) 25 rfl w.heap.size 3 i0 z0 1 8 Tryz.underlying25 hi hz2 hs1 hbys hz1 (by decide) _ _ _ rfl hown1 ⟨wr.heap.size,0,none⟩ 1 1 [.int .i64 (-r)] rfl rfl ?_ ?_ ?_ ?_ ?_ ?_)
      all_goals first
       | (intro j u hj;rcases j with _|j <;> simp at hj <;> subst hj <;> simp[Addr.add])
       | (intro u hu;simp at hu;subst hu;rfl)
       | rfl
       | (unfold maxLen;omega)
       | omega
       | (have:=hbn.size;have:=hb.size;omega)
       | skip
      intro v' w2 hown' hgrow _;have hb':=(bCall hb hbn).grown hgrow (by have:=hbn.size;have:=hb.size;omega) (fun k hk=>(hown1.lt k hk).1);clear hown1 hown hi hz2 hs1 hz1 hbys hgrow;go_wp2;refine ⟨⟨q / 10,m2,o++[-r],hd0,rfl,by omega,⟨?_⟩,?_,hb'⟩,by show m2.natAbs<m.natAbs;have h1:=hd0.out;have h2:=hmm.out;omega⟩
      · rw[hnx.out];have h1:=hr0.out
        congr 3
        omega
      · rw[List.length_append,List.length_singleton,List.flatMap_append];exact hown'
    · have u3:decide (r<0)=false:=decide_eq_false hneg;have hbn:=bNewW wr (.cells #[.int .i64 (r)] 3);have hown1:=own_callG hown hbn;clear hT hst hlen ho;have hdummy:=trivial
      go_wp2_with (at_builtin;refine wpList_append_own _ rfl (.tmp 19) (.tmp 21) 25 rfl w.heap.size 3 i0 z0 1 8 Tryz.underlying25 hi hz2 hs1 hbys hz1 (by decide) _ _ _ rfl hown1 ⟨wr.heap.size,0,none⟩ 1 1 [.int .i64 (r)] rfl rfl ?_ ?_ ?_ ?_ ?_ ?_)
      all_goals first
       | (intro j u hj;rcases j with _|j <;> simp at hj <;> subst hj <;> simp[Addr.add])
       | (intro u hu;simp at hu;subst hu;rfl)
       | rfl
       | (unfold maxLen;omega)
       | omega
       | (have:=hbn.size;have:=hb.size;omega)
       | skip
      intro v' w2 hown' hgrow _;have hb':=(bCall hb hbn).grown hgrow (by have:=hbn.size;have:=hb.size;omega) (fun k hk=>(hown1.lt k hk).1);clear hown1 hown hi hz2 hs1 hz1 hbys hgrow;go_wp2;refine ⟨⟨q / 10,m2,o++[r],hd0,rfl,by omega,⟨?_⟩,?_,hb'⟩,by show m2.natAbs<m.natAbs;have h1:=hd0.out;have h2:=hmm.out;omega⟩
      · rw[hnx.out];have h1:=hr0.out
        congr 3
        omega
      · rw[List.length_append,List.length_singleton,List.flatMap_append];exact hown'
theorem rFromInt_any (z:Int) (w:World) (h0: -9223372036854775808<=z) (h1:z<=9223372036854775807) :
 Calls Tryz.prog 75 #[.int .i64 z] w fun e w'=>e=.returned (.string ⟨(Lib.itoa z).toArray⟩)/\Below w.heap.size w w':=by
 by_cases hz:z<0
 · have h:=rFromInt_neg z z.natAbs ⟨by omega⟩ hz h0 w (by omega) (by omega)
   rwa [show sgn true z.natAbs=z by simp only[sgn];simp;omega]at h
 · have h:=rFromInt_pos z.natAbs w (by omega)
   rwa [show sgn false z.natAbs=z by simp only[sgn];simp;omega,show ((z.natAbs:Nat):Int)=z by omega]at h
end Go.Proofs.YtelljijajgiabaaGreatDoor
namespace Dx
theorem atG_set {l:List Int} {j:Nat} {v:Int} (h:j<l.length) (t:Nat):atG (l.set j v) t=if t=j then v else atG l t:=by
 unfold atG
 rw[List.getElem?_set];by_cases ht:j=t
 · subst ht;rw[if_pos rfl,if_pos h,if_pos rfl];rfl
 · rw[if_neg ht,if_neg (fun e=>ht e.symm)]
theorem gval_set:∀ {l:List Int} {j:Nat} {v:Int},j<l.length->gval (l.set j v)=gval l+10 ^ j*(v-atG l j)
 | [],j,v,h=>absurd h (Nat.not_lt_zero _)
 | a :: l,0,v,_=>by
  show v+10*gval l=a+10*gval l+10 ^ 0*(v-a)
  simp;omega
 | a :: l,j+1,v,h=>by
  have ih:=gval_set (l:=l) (j:=j) (v:=v) (by simpa using h)
  show a+10*gval (l.set j v)=a+10*gval l+10 ^ (j+1)*(v-atG l j)
  rw[ih,Int.pow_succ,Int.mul_add,Int.mul_comm (10 ^ j) 10,Int.mul_assoc];omega
structure TIn (C0 C:List Int) (i:Nat) (x:Int) (m:List Int) (k:Nat) (c:Int):Prop where
 len:C.length=C0.length
 gr:Gr C
 eq:gval C+10 ^ (i+k)*c=gval C0+10 ^ i*(x*gval (m.take k))
 same:∀t,i+k<=t->atG C t=atG C0 t
 c0:0<=c
 c9:c<=9
theorem mul_digits {x y:Int} (hx:0<=x/\x<10) (hy:0<=y/\y<10):0<=x*y/\x*y<=81:=by
 refine⟨Int.mul_nonneg hx.1 hy.1,?_⟩;have h1:x*y<=9*y:=Int.mul_le_mul_of_nonneg_right (by omega) hy.1;omega
theorem TIn.start {C0:List Int} (h:Gr C0) (i:Nat) (x:Int) (m:List Int):TIn C0 C0 i x m 0 0:=⟨rfl,h,by simp[gval],fun _ _=>rfl,by omega,by omega⟩
theorem TIn.step {C0 C m:List Int} {i k:Nat} {x c:Int} (h:TIn C0 C i x m k c) (hx:0<=x/\x<10) (hm:Gr m) (hk:i+k<C.length):TIn C0 (C.set (i+k) ((atG C (i+k)+c+x*atG m k) % 10)) i x m (k+1) ((atG C (i+k)+c+x*atG m k) / 10):=by
 have hC:=atG_in h.gr (i+k);have hy:=atG_in hm k;have hxy:=mul_digits hx hy;have h0:=h.c0;have h9:=h.c9;refine ⟨by rw[List.length_set,h.len],fun g hg=>?_,?_,fun t ht=>?_,by omega,by omega⟩
 · rcases List.mem_or_eq_of_mem_set hg with h1|h1
   · exact h.gr g h1
   · subst h1;omega
 · rw[gval_set hk,gval_at];have he:=h.eq;have e1:(10:Int) ^ (i+(k+1))=10 ^ (i+k)*10:=by rw[←Nat.add_assoc,Int.pow_succ]
   have e2:(10:Int) ^ (i+k)=10 ^ i*10 ^ k:=Int.pow_add _ _ _;generalize atG C (i+k)=u at *;generalize atG m k=y at *;have e3:(u+c+x*y) % 10-u+10*((u+c+x*y) / 10)=c+x*y:=by omega
   have e4:gval C+10 ^ (i+k)*((u+c+x*y) % 10-u)+10 ^ (i+(k+1))*((u+c+x*y) / 10)=gval C+10 ^ (i+k)*(c+x*y):=by
    rw[e1,Int.mul_assoc,Int.add_assoc,←Int.mul_add,e3]
   rw[e4,Int.mul_add,←Int.add_assoc,he,e2,Int.mul_add,Int.mul_add,Int.add_assoc]
   congr 2
   rw[Int.mul_assoc,Int.mul_left_comm x (10 ^ k) y]
 · rw[atG_set hk,if_neg (by omega)];exact h.same t (by omega)
theorem TIn.stop {C0 C m:List Int} {i k:Nat} {x:Int} (h:TIn C0 C i x m k 0) (hk:m.length<=k):gval C=gval C0+10 ^ i*(x*gval m):=by
 have:=h.eq;rw [List.take_of_length_le hk]at this;omega
end Dx
namespace Go.Proofs.YtelljijajgiabaaGreatDoor
open Go.RowKit Go.Shelf
theorem make_ints (n:Nat) (hn:n<=1000000) (w:World):(Instr.makeSlice 25 (.int .i64 n) (.int .i64 n)).run Tryz.prog w=.ok (.slice (some ⟨w.heap.size,0,none⟩) n n) (w.alloc (.cells (madeCells #[.int .i64 0] n) 3)):=by
 obtain⟨i,h1,h2,h3,h4⟩:=intZ;have h:=run_make (P:=Tryz.prog) w 25 3 i (.int .i64 0) Tryz.underlying25 h1 h2 .i64 .i64 n n (by omega) (by omega) (by rw[h4];omega) (by omega);rw [h3,Nat.mul_one,Int.toNat_natCast]at h;exact h
def intCells (l:List Int):Array Value:=(l.map fun x=>Value.int .i64 x).toArray
theorem intCells_zero (n:Nat):madeCells #[.int .i64 0] n=intCells (List.replicate n 0):=by
 apply Array.ext (by simp[madeCells,intCells])
 intro i h1 h2;simp [madeCells,intCells,Nat.mod_one]
theorem intCells_set (l:List Int) (j:Nat) (x:Int):(intCells l).setIfInBounds j (.int .i64 x)=intCells (l.set j x):=by
 unfold intCells
 rw[List.setIfInBounds_toArray,List.map_set]
theorem at_bx {W:World} {g:Nat} {C:List Int} (h:Bx W g 3 (intCells C)):At 1 intC W W.heap.size (some ⟨g,0,none⟩) C:=fun _=>⟨g,0,rfl,h.lt,fun i c hi j u hj=>by
 match j,hj with
 | 0,hj =>
  have e:Value.int .i64 c=u:=by simpa [intC] using hj
  subst e;have:=h.cell i (v:=.int .i64 c) (by simp[intCells,hi])
  simpa using this⟩
end Go.Proofs.YtelljijajgiabaaGreatDoor
namespace Dx
def hi (l:List Int) (k:Nat):Nat:=(from_ l k).toNat
theorem hi_step {l:List Int} (h:Gr l) {k:Nat} (hk:k<l.length):hi l k=(atG l k).toNat+10*hi l (k+1):=by
 have h1:=from_step hk;have h2:=from_nonneg h (k+1);have h3:=atG_in h k;rw [←atG_lt hk]at h1
 unfold hi
 omega
theorem hi_end {l:List Int} {k:Nat} (hk:l.length<=k):hi l k=0:=by unfold hi;rw[from_end hk];rfl
theorem hi_zero (n:Nat):hi (grp n) 0=n:=by
 unfold hi;rw[from_zero,gval_grp];exact Int.toNat_natCast n
structure DOut (l C:List Int) (k b:Nat):Prop where
 len:C.length=l.length
 gr:Gr C
 low:∀t,t<k->atG C t=0
 val:hi C k=hi l k / b
structure DIn (l C:List Int) (k b t:Nat):Prop where
 len:C.length=l.length
 gr:Gr C
 low:∀u,u<k->atG C u=0
 here:atG C k=t
 val:hi C (k+1)=hi l (k+1) / b
theorem atG_rep (n t:Nat):atG (List.replicate n 0) t=0:=by
 unfold atG
 rw[List.getElem?_replicate]
 split <;> rfl
theorem DOut.start (l:List Int) (b:Nat):DOut l (List.replicate l.length 0) l.length b:=by
 refine⟨by simp,fun g hg=>?_,fun t _=>atG_rep _ _,?_⟩
 · obtain rfl:=List.eq_of_mem_replicate hg;omega
 · rw[hi_end (by simp),hi_end (Nat.le_refl _),Nat.zero_div]
theorem DOut.inn {l C:List Int} {k b:Nat} (h:DOut l C (k+1) b):DIn l C k b 0:=⟨h.len,h.gr,fun u hu=>h.low u (by omega),h.low k (by omega),h.val⟩
theorem DIn.step {l C:List Int} {k b t:Nat} (h:DIn l C k b t) (hk:k<C.length) (ht:t+1<10):DIn l (C.set k ((t:Int)+1)) k b (t+1):=by
 refine⟨by rw[List.length_set,h.len],fun g hg=>?_,fun u hu=>?_,?_,?_⟩
 · rcases List.mem_or_eq_of_mem_set hg with h1|h1
   · exact h.gr g h1
   · subst h1;omega
 · rw[atG_set hk,if_neg (by omega)];exact h.low u hu
 · rw[atG_set hk,if_pos rfl];omega
 · rw[←h.val]
   unfold hi from_
   rw[List.drop_set_of_lt (by omega)]
theorem DIn.stop {l C:List Int} {k b t:Nat} (h:DIn l C k b t) (hl:Gr l) (hk:k<l.length) (hb:0<b) (ht:t=((atG l k).toNat+10*(hi l (k+1) % b)) / b):DOut l C k b:=by
 refine⟨h.len,h.gr,h.low,?_⟩;have hx:=atG_in hl k;have h1:=div_step (g:=(atG l k).toNat) (R:=hi l (k+1)) hb (by omega);rw [hi_step h.gr (by rw[h.len];exact hk),hi_step hl hk,h.here,h.val,h1.2.1,ht];rw [Int.toNat_natCast]
theorem DOut.fin {a:Nat} {C:List Int} {b:Nat} (h:DOut (grp a) C 0 b):Ig.trimG C=grp (a / b):=by
 have h1:=h.val;rw [hi_zero]at h1;rw [←trim_same,trimG_of h.gr,←h1];rfl
theorem down_step {l:List Int} (hl:Gr l) {k b:Nat} (hk:k<l.length) (hb:0<b):((atG l k).toNat+10*(hi l (k+1) % b)) % b=hi l k % b/\((atG l k).toNat+10*(hi l (k+1) % b)) / b<10:=by
 have hx:=atG_in hl k;have h1:=div_step (g:=(atG l k).toNat) (R:=hi l (k+1)) hb (by omega);rw [hi_step hl hk,h1.2.2];exact ⟨rfl,h1.1⟩
theorem cons_grp {x:Int} (hx:0<=x/\x<10) (m:Nat):Ig.trimG ([x]++grp m)=grp (x.toNat+10*m):=by
 have hG:Gr ([x]++grp m):=fun g hg=>by
  rcases List.mem_append.1 hg with h|h
  · obtain rfl:g=x:=by simpa using h
    exact hx
  · exact gr_grp m g h
 rw[←trim_same,trimG_of hG,gval_append,gval_grp]
 congr 1
 simp[gval]
 omega
theorem hi_len {l:List Int} (hl:Gr l) (k b:Nat) (hb:0<b) {n:Nat} (hn:(grp b).length<=n):(grp (hi l k % b)).length<=n:=by
 have h1:=Nat.mod_lt (hi l k) hb;exact Nat.le_trans (grp_len (Nat.lt_trans h1 (grp_lt b))) hn
theorem sub_step {R b t:Nat} (hb:0<b) (ht:t*b<=R) (hlt:R-t*b<b):t=R / b/\R-t*b=R % b:=by
 have h:=(Nat.div_mod_unique (a:=R) (b:=b) (c:=R-t*b) (d:=t) hb).2 ⟨by rw[Nat.mul_comm b t];omega,hlt⟩;exact ⟨h.1.symm,h.2.symm⟩
theorem sub_more {R b t:Nat} (ht:t*b<=R) (hge:b<=R-t*b):(t+1)*b<=R/\R-(t+1)*b=R-t*b-b:=by
 rw[Nat.add_mul,Nat.one_mul];omega
theorem sub_few {R b t:Nat} (hb:0<b) (h9:R / b<10) (ht:(t+1)*b<=R):t+1<10:=by
 have:=(Nat.le_div_iff_mul_le hb).2 ht;omega
end Dx
namespace Go.Proofs.YtelljijajgiabaaGreatDoor
open Go.RowKit Go.Shelf
theorem wpList_append_ints {w:World} {ops:Array Oper} {rest:List Oper} {o:Oper} {a:Act} {Q:Exit->Act->World->Prop} (hgd:o.guard=none) (s y:Operand) (ho:o.op=.call { callee:=.builtin .append,args:=#[s,y],argTypes:=#[25,25] })
 (B cap n m:Nat) (flat news:List Value) (v x:Value) (hes:a.eval s=v) (hey:a.eval y=x) (hv:RowC 3 1 B cap n flat v w) (hB:B<=w.heap.size) (hs:Src Tryz.prog 1 25 x m news w) (hcm:cap<=maxLen) (h63:n+m<=2000000)
 (h:∀v' w' cap',Below B w w'->(n=cap->Below w.heap.size w w')->RowC 3 1 B cap' (n+m) (flat++news) v' w'->cap'<=maxLen->wpList Tryz.prog ops Q rest (a.put o.dst v') w'):wpList Tryz.prog ops Q (o :: rest) a w:=by
 obtain⟨i,z,hi,hz,hs1,hz1,hby⟩:=intI;exact wpList_append_row hgd s y _ _ ho i z 1 B cap n m flat news v x Tryz.underlying25 hi hz hs1 hz1 hes hey hv hB hs hcm (by unfold maxLen;omega) (by rw[hby];omega) h
theorem int_one:∀c:Int,∀u∈intC c,u.oneCell'=true:=fun c u hu=>by
 obtain rfl:u=Value.int .i64 c:=by simpa [intC] using hu
 rfl
theorem dg_zero (W:World):DgAt W 0 (.slice none 0 0):=⟨none,0,by rw[Dx.grp_zero];rfl,by rw[Dx.grp_zero];exact At.nil,by rw[Dx.grp_zero];exact Nat.le_refl _,Nat.zero_le _⟩
theorem dg_unique {W:World} {a b:Nat} {v:Value} (h:DgAt W a v) (k:DgAt W b v):a=b:=by
 obtain⟨A,c,rfl,hA,-,-⟩:=h.out;obtain ⟨A',c',e,hA',-,-⟩:=k.out;simp only[Value.slice.injEq]at e;obtain ⟨rfl,hl,rfl⟩:=e
 have:Dx.grp a=Dx.grp b:=by
  apply List.ext_getElem hl
  intro i h1 h2;obtain ⟨g,off,rfl,-,hc⟩:=hA (by omega);obtain ⟨g',off',e',-,hc'⟩:=hA' (by omega);simp only[Option.some.injEq,Addr.mk.injEq,and_true]at e';obtain ⟨rfl,rfl⟩:=e';have x1:=hc i _ (List.getElem?_eq_getElem h1) 0 _ rfl;have x2:=hc' i _ (List.getElem?_eq_getElem h2) 0 _ rfl;rw [x1]at x2;simpa using x2
 have h1:=Dx.gval_grp a;rw [this,Dx.gval_grp]at h1;omega
theorem dgV_eq {W:World} {a:Nat} {v:Value} (h:DgAt W a v):Classical.epsilon (fun k=>DgAt W k v)=a :=
 dg_unique (Classical.epsilon_spec (p:=fun k=>DgAt W k v) ⟨a,h⟩) h
theorem dg_front {W:World} {B cap m:Nat} {x:Int} {v:Value} (h:RowC 3 1 B cap (1+(Dx.grp m).length) ([.int .i64 x]++(Dx.grp m).flatMap intC) v W) :
 ∃A,v=.slice A ([x]++Dx.grp m).length cap/\At 1 intC W W.heap.size A ([x]++Dx.grp m)/\([x]++Dx.grp m).length<=cap/\∀b off,A=some ⟨b,off,none⟩->B<=b:=by
 have e1:1+(Dx.grp m).length=([x]++Dx.grp m).length:=by simp[Nat.add_comm]
 have e2:([.int .i64 x]++(Dx.grp m).flatMap intC)=([x]++Dx.grp m).flatMap intC:=by simp[intC]
 rw[e1,e2]at h;obtain ⟨g,cells,hv,hg,-⟩:=id h;obtain ⟨A,e,hA,hc⟩:=RowC.at (f:=intC) (size:=1) (fun _=>rfl) h;refine ⟨A,e,hA,hc,fun b off hb=>?_⟩;rw [hb,hv]at e;simp only[Value.slice.injEq,Option.some.injEq,Addr.mk.injEq]at e;omega
theorem rcmp_ge {n b:Nat} (h:b<=n):decide (Ig.cmpI n b ≥ 0)=true:=by
 refine decide_eq_true ?_
 rcases Nat.lt_or_eq_of_le h with h1|h1
 · rw[Ig.cmpI_gt h1];decide
 · rw[h1,Ig.cmpI_eq];decide
theorem rcmp_lt {n b:Nat} (h:n<b):decide (Ig.cmpI n b ≥ 0)=false:=by
 refine decide_eq_false ?_;rw [Ig.cmpI_lt h];decide
theorem rdivided_any (a b:Nat) (v1 v2:Value) (w:World) (h1:DgAt w a v1) (h2:DgAt w b v2) (hb0:0<b) (la:(Dx.grp a).length<=20000) (lb:(Dx.grp b).length<=20000) :
 Calls Tryz.prog 163 #[v1,v2] w fun e w'=>∃u v,e=.returned (.tuple #[u,v])/\DgAt w' (a / b) u/\DgAt w' (a % b) v/\Below w.heap.size w w':=by
 obtain⟨A1,c1,rfl,hA1,hn1,hm1⟩:=h1.out;obtain ⟨A2,c2,rfl,-⟩:=id h2.out;have ga:=Dx.gr_grp a;have hfin:∀C,Dx.DOut (Dx.grp a) C 0 b->Kp (Ig.trimG C=Dx.grp (a / b)):=fun C h=>⟨h.fin⟩
 have hz0:=Kp.mk (Dx.hi_zero a);have hrl:∀k,Kp ((Dx.grp (Dx.hi (Dx.grp a) k % b)).length<=20000):=fun k=>⟨Dx.hi_len ga k b hb0 lb⟩
 generalize Dx.grp a=l at *;clear h1;have hmk:=make_ints l.length (by omega) w;rw [intCells_zero]at hmk
 go_enter Tryz.func163,Tryz.ntmps163
 go_wp2_with fail
 go_loopw [7,8] (fun s7 s8 wr=>∃(k:Nat) (C:List Int),k<=l.length/\s8=.int .i64 ((k:Int)-1)/\DgAt wr (Dx.hi l k % b) s7/\Kp (Dx.DOut l C k b)/\Bx wr w.heap.size 3 (intCells C)/\Below w.heap.size w wr) (fun s7 s8 wr=>(intOf s8+1).toNat)
 case atStart =>
  refine⟨l.length,List.replicate l.length 0,Nat.le_refl _,rfl,?_,⟨Dx.DOut.start l b⟩,Bx.mk _ _ _,bNewW _ _⟩;rw [Dx.hi_end (Nat.le_refl _),Nat.zero_mod];exact dg_zero _
 case round =>
  clear hmk;obtain ⟨k,C,hk,rfl,hr,hD,hB,hb⟩:=hrel
  cases k with
  | succ k =>
   rw[show (((k+1:Nat):Int)-1)=(k:Int) by omega];have hkl:k<l.length:=by omega
   have hx:=Dx.atG_in ga k;obtain ⟨b1,o1,rfl,hb1,hcc⟩:=(hA1.below hb) (by omega)
   have k1:wr.cell? ⟨b1,o1+k,none⟩=some (.int .i64 (Dx.atG l k)):=by
    have:=hcc k _ (List.getElem?_eq_getElem hkl) 0 _ rfl;rw [Dx.atG_lt hkl];simpa using this
   have hds:=Dx.down_step ga hkl hb0;have hstop:∀D t,Dx.DIn l D k b t->t=((Dx.atG l k).toNat+10*(Dx.hi l (k+1) % b)) / b->Kp (Dx.DOut l D k b):=fun D t h ht=>⟨h.stop ga hkl hb0 ht⟩
   have hin:=Kp.mk hD.out.inn;have hap:=Kp.mk (Dx.cons_grp hx (Dx.hi l (k+1) % b));have hml:=(hrl (k+1)).out;obtain ⟨m,hm⟩:=exK (Dx.hi l (k+1) % b);rw [hm.out]at hr hds hstop hap hml;obtain ⟨r9,hr9⟩:=exK (Dx.hi l k % b);rw [hr9.out]at hds;have hr8:=(hrl k).out;rw [hr9.out]at hr8;obtain ⟨R,hR⟩:=exK ((Dx.atG l k).toNat+10*m);rw [hR.out]at hds hstop hap
   have hRl:(Dx.grp R).length<=20001:=by
    rw[←hap.out,←trim_take,List.length_take,List.length_append,List.length_singleton];omega
   obtain⟨A7,c7,rfl,hA7,-,-⟩:=id hr.out;have t0:decide (k<l.length)=true:=decide_eq_true hkl
   have hrow:RowC 3 1 w.heap.size 1 1 [.int .i64 (Dx.atG l k)] (.slice (some ⟨wr.heap.size,0,none⟩) 1 1) (wr.alloc (.cells #[.int .i64 (Dx.atG l k)] 3)) :=
    ⟨wr.heap.size,_,rfl,hb.size,Nat.le_refl _,Bx.mk _ _ _,rfl,rfl⟩
   have hsrc:Src Tryz.prog 1 25 (.slice A7 (Dx.grp m).length c7) (Dx.grp m).length ((Dx.grp m).flatMap intC) (wr.alloc (.cells #[.int .i64 (Dx.atG l k)] 3)) :=
    At.src (f:=intC) (size:=1) (fun _=>rfl) int_one Tryz.underlying25 (hA7.below (bNewW wr _)) c7
   have hB1:=hB.new (.cells #[.int .i64 (Dx.atG l k)] 3);have hb1':=bNew hb (.cells #[.int .i64 (Dx.atG l k)] 3);have hsz:w.heap.size<=(wr.alloc (.cells #[.int .i64 (Dx.atG l k)] 3)).heap.size:=hb1'.size;clear hcc hA7 hr hB hD hrl hfin hz0;generalize Dx.atG l k=x at *
   go_wp2_with (at_builtin;refine wpList_append_ints rfl (.tmp 23) (.tmp 24) rfl w.heap.size 1 1 (Dx.grp m).length [.int .i64 x] ((Dx.grp m).flatMap intC) _ _ rfl rfl hrow hsz hsrc (by decide) (by omega) ?_;intro v' w' cap' e1 e2 e3 e4)
   obtain⟨A9,rfl,hA9,hc9,hfr9⟩:=dg_front e3;have hB2:=hB1.call (by first|exact e2 rfl|exact e2 trivial);have hb2:=bCall hb1' (by first|exact e2 rfl|exact e2 trivial);have hT:=rtrim_any _ A9 cap' w' hA9 hc9 (by rw[List.length_append,List.length_singleton];omega);have hN:=dg_of hA9 hc9 e4 hap;clear e1 e2 e3 hA9 hfr9 hap hB1 hb1' hrow hsrc hsz k1;generalize (Ig.trimG ([x]++Dx.grp m)).length=n6 at *;generalize ([x]++Dx.grp m).length=n5 at *;go_wp2_with fail;refine hT.mono ?_;rintro _ _ ⟨rfl,rfl⟩;clear hT;go_wp2_with fail
   go_loopw [7] (fun s7 wq=>∃(t:Nat) (D:List Int),t*b<=R/\DgAt wq (R-t*b) s7/\Kp (Dx.DIn l D k b t)/\Bx wq w.heap.size 3 (intCells D)/\Below w.heap.size w wq) (fun s7 wq=>Classical.epsilon (fun n=>DgAt wq n s7))
   case atStart=>exact⟨0,C,by omega,by rw[Nat.zero_mul,Nat.sub_zero];exact hN,hin,hB2,hb2⟩
   case round =>
    clear hN hin hB2 hb2;obtain ⟨t,D,htb,hs,hI,hBq,hbq⟩:=hrel;have hm0:=dgV_eq hs;have hsub1:=fun h=>Dx.sub_step (R:=R) (b:=b) (t:=t) hb0 htb h
    have hmore:=fun h=>Dx.sub_more (R:=R) (b:=b) (t:=t) htb h
    obtain⟨n7,hn7⟩:=exK (R-t*b);rw [hn7.out]at hs hm0 hsub1 hmore;have hn7R:n7<=R:=by rw[←hn7.out];exact Nat.sub_le _ _
    have hl7:(Dx.grp n7).length<=20001:=Nat.le_trans (rgrp_le hn7R) hRl;obtain ⟨A8,c8,rfl,-⟩:=id hs.out;have h2q:=h2.call hbq;have hO:=rorder_any n7 b _ _ _ hs h2q (by omega) (by omega);have hDl:D.length=l.length:=hI.out.len;by_cases hge:b<=n7
    · have t1:=rcmp_ge hge;have hM:=fun w5 hb5=>rminus_fresh n7 b _ _ w5 (hs.call hb5) (h2q.call hb5) hge (by omega)
      obtain⟨hm1,hm2⟩:=hmore hge;have hstp:=Kp.mk (hI.out.step (by omega) (Dx.sub_few hb0 hds.2 hm1));have hhere:Dx.atG D k=(t:Int):=hI.out.here;have hkD:k<D.length:=by omega
      generalize Ig.cmpI n7 b=cc at *;have hnb:=Kp.mk hn7R;clear hsub1 hmore hn7 hs h2q hI hstop htb hn7R;go_wp2_with fail;refine hO.mono ?_;rintro _ w5 ⟨rfl,hb5⟩;clear hO;go_wp2_with fail;refine (hM w5 hb5).mono ?_;rintro _ w6 ⟨v6,rfl,hN6,hb6,hF6⟩;obtain ⟨A6,c6,rfl,-⟩:=id hN6.out;have hb7:=bCall (bCall hbq hb5) hb6;have hB7:=(hBq.call hb5).call hb6
      have kD:w6.cell? ⟨w.heap.size,k,none⟩=some (.int .i64 (t:Int)):=by
       have:=hB7.cell k (v:=.int .i64 (Dx.atG D k)) (by rw[Dx.atG_lt hkD];simp[intCells,hkD]);rw [hhere]at this;exact this
      have hfz:=hB7.frozen k;have hN7:=hN6.far hF6 (p:=⟨w.heap.size,k,none⟩) (hBq.call hb5).lt (.int .i64 ((t:Int)+1));have hB8:=hB7.set k (.int .i64 ((t:Int)+1));rw [intCells_set]at hB8;have hb8:=bSet hb7 (p:=⟨w.heap.size,k,none⟩) (Nat.le_refl _) (.int .i64 ((t:Int)+1));have hm7:=dgV_eq hN7;have ht9:t<10:=by have:=Dx.sub_few hb0 hds.2 hm1;omega
      clear hM hN6 hF6 hb7 hB7 hBq hbq hb5 hb6 hhere hkD;go_wp2;refine ⟨⟨t+1,D.set k ((t:Int)+1),hm1,by rw[hm2];exact hN7,hstp,hB8,hb8⟩,?_⟩;rw [hm0,hm7];omega
    · have t1:=rcmp_lt (show n7<b by omega);obtain ⟨hq1,hq2⟩:=hsub1 (by omega);have hDo:=hstop D t hI.out hq1;generalize Ig.cmpI n7 b=cc at *;replace hq2:=Kp.mk hq2;clear hsub1 hmore hn7 h2q hI hstop hq1 hm0;go_wp2_with fail;refine hO.mono ?_;rintro _ w5 ⟨rfl,hb5⟩;clear hO;have hs5:=hs.call hb5;have hB5:=hBq.call hb5;have hb6:=bCall hbq hb5;go_wp2;refine ⟨⟨k,D,by omega,by go_num,?_,hDo,hB5,hb6⟩,by simp[intOf]⟩;rw [hr9.out,←hds.1,←hq2.out];exact hs5
  | zero =>
   rw[show (((0:Nat):Int)-1)= -1 from rfl];have hf:=hfin C hD.out;have hA:=at_bx hB;have hT:=rtrim_any C _ l.length wr hA (by rw[hD.out.len];exact Nat.le_refl _) (by rw[hD.out.len];omega);have hN:=dg_of hA (by rw[hD.out.len];exact Nat.le_refl _) (by unfold maxLen;omega) hf;rw [hD.out.len]at hT;rw [hz0.out]at hr;obtain ⟨A7,c7,rfl,-⟩:=id hr.out;clear hf hA hfin hz0 hrl hD;generalize (Ig.trimG C).length=n6 at *;go_wp2_with fail;refine hT.mono ?_;rintro _ _ ⟨rfl,rfl⟩;clear hT;go_wp2
   go_ret2
   exact⟨_,_,rfl,hN,hr,hb⟩
end Go.Proofs.YtelljijajgiabaaGreatDoor

import Derived.Test.YtelljijajgiabaaGreatDoorQ13
set_option linter.unusedVariables false
set_option linter.unusedSimpArgs false
set_option maxRecDepth 100000
set_option maxHeartbeats 8000000
namespace Go.Proofs.YtelljijajgiabaaGreatDoor
open Go.RowKit Go.Shelf
def jc (d:List UInt8):Bool:= !d.isEmpty&&decide (d.length<=200)&&d.all Ig.xR&&(d==[48]|| !(d.head? == some 48))
theorem BQ {d:List UInt8} (h:d≠[48]):Ig.bF (45 :: d)=jc d:=by
 unfold Ig.bF jc
 have e:Ig.iw (45 :: d)=d:=by unfold Ig.iw;rw[if_pos (by rfl)];rfl
 have e1:(45 :: d==[48])=false:=by
  rw[beq_eq_false_iff_ne];intro h2;cases h2
 have e2:(d==[48])=false:=by simpa using h
 rw[e,e1,e2]
theorem BL {s:List UInt8} (h:s.head? ≠ some 45):Ig.bF s=jc s:=by
 unfold Ig.bF jc
 have e:Ig.iw s=s:=by
  unfold Ig.iw
  rw[if_neg];intro h2
  cases s with
  | nil=>cases h2
  | cons a l=>simp at h2 h;exact h h2.symm
 rw[e]
theorem pJ {d:List UInt8} {r:Nat} (h:r<d.length) (hx:d[r].toNat<48∨57<d[r].toNat):jc d=false:=by
 have:d.all Ig.xR=false:=by
  rw[Bool.eq_false_iff];intro h2;have h3:=List.all_eq_true.1 h2 _ (List.getElem_mem h);simp [Ig.xR]at h3
  omega
 unfold jc
 rw[this];simp
theorem pK {d:List UInt8} (h:∀r (h:r<d.length),48<=d[r].toNat/\d[r].toNat<=57):jc d=(!d.isEmpty&&decide (d.length<=200)&&(d==[48]|| !(d.head? == some 48))):=by
 have:d.all Ig.xR=true:=by
  rw[List.all_eq_true];intro x hx;obtain ⟨r,hr,rfl⟩:=List.getElem_of_mem hx;have:=h r hr;simp [Ig.xR]
  omega
 unfold jc
 rw[this];simp
theorem zk (w:World):Calls Tryz.prog 114 #[.string ⟨#[]⟩] w fun e w'=>e=.returned (.bool false)/\w=w':=by
 go_enter Tryz.func114,Tryz.ntmps114
 go_wp2_with fail
 go_loopw [3] (fun s3 wr=>s3=.int .i64 0/\wr=w) (fun s3 wr=>0)
 case atStart=>exact⟨rfl,rfl⟩
 case round =>
  obtain⟨rfl,rfl⟩:=hrel;go_wp2;go_ret;exact ⟨rfl,rfl⟩
theorem sQ (w:World):Calls Tryz.prog 114 #[.string ⟨#[45,48]⟩] w fun e w'=>e=.returned (.bool false)/\w=w':=by
 go_enter Tryz.func114,Tryz.ntmps114
 go_wp2;go_ret;exact ⟨rfl,rfl⟩
theorem Jl (d:List UInt8) (w:World) (hd:d≠[48]) (hs:d.length<=1000000) :
 Calls Tryz.prog 114 #[.string ⟨(45 :: d).toArray⟩] w fun e w'=>e=.returned (.bool (jc d))/\w=w':=by
 have q1:(d==[48])=false:=by simpa using hd
 have q2:(d != [48])=true:=by simpa using hd
 have hkd:=Kp.mk hd;clear hd;have hbad:=fun r (h:r<d.length) (hx:d[r].toNat<48∨57<d[r].toNat)=>Kp.mk (pJ h hx)
 have hgood:=fun (h:∀r (h:r<d.length),48<=d[r].toNat/\d[r].toNat<=57)=>Kp.mk (pK h)
 generalize jc d=ans at *
 go_enter Tryz.func114,Tryz.ntmps114
 go_wp2_with fail
 go_loopw [3] (fun s3 wr=>∃r:Nat,r<=d.length/\s3=.int .i64 r/\Kp (∀t (h:t<d.length),t<r->48<=d[t].toNat/\d[t].toNat<=57)/\wr=w) (fun s3 wr=>d.length-(intOf s3).toNat)
 case atStart=>exact⟨0,Nat.zero_le _,rfl,⟨fun t h h2=>absurd h2 (Nat.not_lt_zero _)⟩,rfl⟩
 case round =>
  obtain⟨r,hr,rfl,hall,rfl⟩:=hrel;by_cases hl:r<d.length
  · have hbd:=hbad r hl
    have hnx:48<=d[r].toNat->d[r].toNat<=57->Kp (∀t (h:t<d.length),t<r+1->48<=d[t].toNat/\d[t].toNat<=57):=fun h1 h2=>⟨fun t h ht=>by
     rcases (show t<r∨t=r by omega) with h3|h3
     · exact hall.out t h h3
     · subst h3;exact⟨h1,h2⟩⟩
    have hx256:=d[r].toNat_lt;have t0:decide ((r:Int)<(d.length:Int))=true:=decide_eq_true (by omega);clear hbad hgood hall;generalize hxx:d[r].toNat=x at *;by_cases h1:x<48
    · have t1:decide ((x:Int)<48)=true:=decide_eq_true (by omega);have hf:=hbd (.inl h1);clear hbd hnx;go_wp2;go_ret;exact ⟨aH hf.out.symm,rfl⟩
    · by_cases h2:57<x
      · have t1:decide ((x:Int)<48)=false:=decide_eq_false (by omega);have t2:decide ((x:Int) > 57)=true:=decide_eq_true (by omega);have hf:=hbd (.inr h2);clear hbd hnx;go_wp2;go_ret;exact ⟨aH hf.out.symm,rfl⟩
      · have t1:decide ((x:Int)<48)=false:=decide_eq_false (by omega);have t2:decide ((x:Int) > 57)=false:=decide_eq_false (by omega);have hn2:=hnx (by omega) (by omega);clear hbd hnx;go_wp2;exact ⟨⟨r+1,by omega,by go_num,hn2,trivial⟩,by simp[intOf];omega⟩
  · have hg:=hgood (fun t h=>hall.out t h (by omega));obtain rfl:r=d.length:=by omega
    clear hbad hgood hall;have t0:decide ((d.length:Int)<(d.length:Int))=false:=decide_eq_false (by omega);by_cases he:d=[]
    · subst he;have hf:Kp (ans=false):=⟨by rw[hg.out];rfl⟩
      clear hg;go_wp2;go_ret;exact ⟨aH hf.out.symm,rfl⟩
    have h0:0<d.length:=List.length_pos_iff.2 he;have hhd:d.head? = some d[0]:=by rw[List.head?_eq_getElem?,List.getElem?_eq_getElem h0]
    have hem:d.isEmpty=false:=by
     cases h:d.isEmpty
     · rfl
     · rw[List.isEmpty_iff]at h;rw[h]at h0;exact absurd h0 (Nat.lt_irrefl _)
    have u0:decide ((d.length:Int) > 0)=true:=decide_eq_true (by omega);rw [hhd,hem]at hg;clear hhd hem;by_cases zO:d.length<=200
    · have u1:decide ((d.length:Int)<=200)=true:=decide_eq_true (by omega);rw [q1,decide_eq_true zO]at hg;by_cases h48:d[0].toNat=48
      · have hf:Kp (ans=false):=⟨by rw[hg.out,UInt8.toNat_inj.1 (show d[0].toNat=(48:UInt8).toNat from h48)];rfl⟩
        clear hg;have u2:decide (((d[0].toNat:Nat):Int)=48)=true:=decide_eq_true (by omega);have Xv:(((d[0].toNat:Nat):Int) != 48)=false:=by simp;omega
        generalize XZ:d[0].toNat=y at *;go_wp2;go_ret;exact ⟨aH hf.out.symm,rfl⟩
      · have hne:¬d[0]=48:=fun e=>h48 (by rw[e];rfl)
        have hf:Kp (ans=true):=⟨by rw[hg.out];simp[hne]⟩
        clear hg hne;have u2:decide (((d[0].toNat:Nat):Int)=48)=false:=decide_eq_false (by omega);have Xv:(((d[0].toNat:Nat):Int) != 48)=true:=by simp;omega
        generalize XZ:d[0].toNat=y at *;go_wp2;go_ret;exact ⟨aH hf.out.symm,rfl⟩
    · have u1:decide ((d.length:Int)<=200)=false:=decide_eq_false (by omega);have hf:Kp (ans=false):=⟨by rw[hg.out,decide_eq_false zO];simp⟩
      clear hg;go_wp2;go_ret;exact ⟨aH hf.out.symm,rfl⟩
theorem Jk (s:List UInt8) (w:World) (h0:0<s.length) (hn:s.head? ≠ some 45) (hs:s.length<=1000000) :
 Calls Tryz.prog 114 #[.string ⟨s.toArray⟩] w fun e w'=>e=.returned (.bool (jc s))/\w=w':=by
 have hnm:¬s[0].toNat=45:=fun h=>hn (by
  rw[List.head?_eq_getElem?,List.getElem?_eq_getElem h0]
  congr 1
  exact UInt8.toNat_inj.1 h)
 clear hn;have t9:decide (((s[0].toNat:Nat):Int)=45)=false:=decide_eq_false (by omega);have t9':(((s[0].toNat:Nat):Int)==45)=false:=by simp;omega
 have t8:decide ((s.length:Int) > 0)=true:=decide_eq_true (by omega);have hbad:=fun r (h:r<s.length) (hx:s[r].toNat<48∨57<s[r].toNat)=>Kp.mk (pJ h hx)
 have hgood:=fun (h:∀r (h:r<s.length),48<=s[r].toNat/\s[r].toNat<=57)=>Kp.mk (pK h)
 generalize jc s=ans at *
 go_enter Tryz.func114,Tryz.ntmps114
 go_wp2_with fail
 go_loopw [3] (fun s3 wr=>∃r:Nat,r<=s.length/\s3=.int .i64 r/\Kp (∀t (h:t<s.length),t<r->48<=s[t].toNat/\s[t].toNat<=57)/\wr=w) (fun s3 wr=>s.length-(intOf s3).toNat)
 case atStart=>exact⟨0,Nat.zero_le _,rfl,⟨fun t h h2=>absurd h2 (Nat.not_lt_zero _)⟩,rfl⟩
 case round =>
  obtain⟨r,hr,rfl,hall,rfl⟩:=hrel;by_cases hl:r<s.length
  · have hbd:=hbad r hl
    have hnx:48<=s[r].toNat->s[r].toNat<=57->Kp (∀t (h:t<s.length),t<r+1->48<=s[t].toNat/\s[t].toNat<=57):=fun h1 h2=>⟨fun t h ht=>by
     rcases (show t<r∨t=r by omega) with h3|h3
     · exact hall.out t h h3
     · subst h3;exact⟨h1,h2⟩⟩
    have hx256:=s[r].toNat_lt;have t0:decide ((r:Int)<(s.length:Int))=true:=decide_eq_true (by omega);clear hbad hgood hall;generalize hxx:s[r].toNat=x at *;by_cases h1:x<48
    · have t1:decide ((x:Int)<48)=true:=decide_eq_true (by omega);have hf:=hbd (.inl h1);clear hbd hnx;go_wp2;go_ret;exact ⟨aH hf.out.symm,rfl⟩
    · by_cases h2:57<x
      · have t1:decide ((x:Int)<48)=false:=decide_eq_false (by omega);have t2:decide ((x:Int) > 57)=true:=decide_eq_true (by omega);have hf:=hbd (.inr h2);clear hbd hnx;go_wp2;go_ret;exact ⟨aH hf.out.symm,rfl⟩
      · have t1:decide ((x:Int)<48)=false:=decide_eq_false (by omega);have t2:decide ((x:Int) > 57)=false:=decide_eq_false (by omega);have hn2:=hnx (by omega) (by omega);clear hbd hnx;go_wp2;exact ⟨⟨r+1,by omega,by go_num,hn2,trivial⟩,by simp[intOf];omega⟩
  · have hg:=hgood (fun t h=>hall.out t h (by omega));obtain rfl:r=s.length:=by omega
    clear hbad hgood hall;have t0:decide ((s.length:Int)<(s.length:Int))=false:=decide_eq_false (by omega);have hhd:s.head? = some s[0]:=by rw[List.head?_eq_getElem?,List.getElem?_eq_getElem h0]
    have hem:s.isEmpty=false:=by
     cases h:s.isEmpty
     · rfl
     · rw[List.isEmpty_iff]at h;rw[h]at h0;exact absurd h0 (Nat.lt_irrefl _)
    have u0:decide ((s.length:Int) > 0)=true:=decide_eq_true (by omega);rw [hhd,hem]at hg;clear hhd hem;by_cases zO:s.length<=200
    · have u1:decide ((s.length:Int)<=200)=true:=decide_eq_true (by omega);by_cases hz:s=[48]
      · subst hz;have hf:Kp (ans=true):=⟨by rw[hg.out];rfl⟩
        clear hg;go_wp2;go_ret;exact ⟨aH hf.out.symm,rfl⟩
      have q1:(s==[48])=false:=by simpa using hz
      have q2:(s != [48])=true:=by simpa using hz
      have hkd:=Kp.mk hz;clear hz;rw [q1,decide_eq_true zO]at hg;by_cases h48:s[0].toNat=48
      · have hf:Kp (ans=false):=⟨by rw[hg.out,UInt8.toNat_inj.1 (show s[0].toNat=(48:UInt8).toNat from h48)];rfl⟩
        clear hg;have u2:decide (((s[0].toNat:Nat):Int)=48)=true:=decide_eq_true (by omega);have Xv:(((s[0].toNat:Nat):Int) != 48)=false:=by simp;omega
        generalize XZ:s[0].toNat=y at *;go_wp2;go_ret;exact ⟨aH hf.out.symm,rfl⟩
      · have hne:¬s[0]=48:=fun e=>h48 (by rw[e];rfl)
        have hf:Kp (ans=true):=⟨by rw[hg.out];simp[hne]⟩
        clear hg hne;have u2:decide (((s[0].toNat:Nat):Int)=48)=false:=decide_eq_false (by omega);have Xv:(((s[0].toNat:Nat):Int) != 48)=true:=by simp;omega
        generalize XZ:s[0].toNat=y at *;go_wp2;go_ret;exact ⟨aH hf.out.symm,rfl⟩
    · have u1:decide ((s.length:Int)<=200)=false:=decide_eq_false (by omega);have hf:Kp (ans=false):=⟨by rw[hg.out,decide_eq_false zO];simp⟩
      clear hg;go_wp2;go_ret;exact ⟨aH hf.out.symm,rfl⟩
theorem fZ (s:List UInt8) (w:World) (hs:s.length<=1000000) :
 Calls Tryz.prog 114 #[.string ⟨s.toArray⟩] w fun e w'=>e=.returned (.bool (Ig.bF s))/\w=w':=by
 cases s with
 | nil=>exact zk w
 | cons a d =>
  by_cases ha:a=45
  · subst ha;by_cases hd:d=[48]
    · subst hd;have e:Ig.bF [45,48]=false:=by decide
      rw[e];exact sQ w
    · rw[BQ hd];exact Jl d w hd (by rw[List.length_cons]at hs;omega)
  · have hh:(a :: d).head? ≠ some 45:=by
     intro h;rw [List.head?_cons,Option.some.injEq]at h;exact ha h
    rw[BL hh];exact Jk (a :: d) w (by simp) hh hs
theorem oU {a b n:Nat} (ha:(Dx.grp a).length<=n) (hb:(Dx.grp b).length<=n):(Dx.grp (a+b)).length<=n+1:=by
 have h1:a<10 ^ n:=Nat.lt_of_lt_of_le (Dx.iZ a) (Nat.pow_le_pow_right (by decide) ha);have h2:b<10 ^ n:=Nat.lt_of_lt_of_le (Dx.iZ b) (Nat.pow_le_pow_right (by decide) hb);exact Dx.fG (by rw[Nat.pow_succ];omega)
theorem dN (neg:Bool) (n:Nat) (v:Value) (w:World) (h:eH w n v) (hl:(Dx.grp n).length<=1000000) :
 aW 164 #[.bool neg,v] w (.tuple #[.string ⟨(Ig.iq (dM neg n)).toArray⟩,.int .i64 (Ig.resE (dM neg n))]):=by
 obtain⟨A,c,rfl,hA,hn,hm⟩:=h.out;have hT:=rO neg n A c w hA hn hl;have e:=kG neg n;by_cases hf:Lib.nDigits n<=200
 · have e1:Ig.iq (dM neg n)=Lib.itoa (dM neg n):=Ig.dh ((Ig.iF _).2 (by rw[e];exact hf));have e2:Ig.resE (dM neg n)=0:=Ig.dO ((Ig.iF _).2 (by rw[e];exact hf));rw [e1,e2];rw [decide_eq_true hf]at hT;clear e e1 e2 h hA hf;generalize Lib.itoa (dM neg n)=s at *;generalize (Dx.grp n).length=k at *
   go_enter Tryz.func164,Tryz.ntmps164
   go_wp2_with fail;refine hT.mono ?_;rintro _ w1 ⟨rfl,hb⟩;clear hT;go_wp2
   go_ret2
   exact⟨rfl,hb⟩
 · have e1:Ig.iq (dM neg n)=[]:=Ig.FZ (fun h2=>hf (by have:=(Ig.iF _).1 h2;rwa [e]at this));have e2:Ig.resE (dM neg n)=30:=Ig.zi (fun h2=>hf (by have:=(Ig.iF _).1 h2;rwa [e]at this));rw [e1,e2];rw [decide_eq_false hf]at hT;clear e e1 e2 h hA hf;generalize Lib.itoa (dM neg n)=s at *;generalize (Dx.grp n).length=k at *
   go_enter Tryz.func164,Tryz.ntmps164
   go_wp2_with fail;refine hT.mono ?_;rintro _ w1 ⟨rfl,hb⟩;clear hT;go_wp2
   go_ret2
   exact⟨rfl,hb⟩
theorem PI (x y:Bool) (a b:Nat) (v1 v2:Value) (w:World) (h1:eH w a v1) (h2:eH w b v2) (la:(Dx.grp a).length<=100000) (lb:(Dx.grp b).length<=100000) :
 aW 162 #[.bool x,v1,.bool y,v2] w (.tuple #[.string ⟨(Ig.iq (dM x a+dM y b)).toArray⟩,.int .i64 (Ig.resE (dM x a+dM y b))]):=by
 obtain⟨A1,c1,rfl,-⟩:=id h1.out;obtain ⟨A2,c2,rfl,-⟩:=id h2.out;cases x <;> cases y
 · have hz:dM false a+dM false b=dM false (a+b):=by simp only[dM];simp;try omega
   rw[hz];have hP:=wJ a b _ _ w h1 h2 la lb;have hl:(Dx.grp (a+b)).length<=1000000:=by have:=oU la lb;omega
   clear hz h1 h2
   go_enter Tryz.func162,Tryz.ntmps162
   go_wp2_with fail;refine hP.mono ?_;rintro _ w2 ⟨v,rfl,hv,hb⟩;clear hP;obtain ⟨A3,c3,rfl,-⟩:=id hv.out;have hC:=dN false (a+b) _ _ hv hl;clear hv;go_wp2_with fail;refine hC.mono ?_;rintro _ w3 ⟨rfl,hb3⟩;have hb4:=aj hb hb3;clear hC;go_wp2
   go_ret2
   exact⟨rfl,hb4⟩
 · have hO:=mF a b _ _ w h1 h2 (by omega) (by omega);by_cases hba:b<=a
   · have hz:dM false a+dM true b=dM false (a-b):=by simp only[dM];simp;omega
     rw[hz];have hl:(Dx.grp (a-b)).length<=1000000:=by have:=lI (show a-b<=a by omega);omega
     have hP:=fun w0 k1 k2=>mG a b (.slice A1 (Dx.grp a).length c1) (.slice A2 (Dx.grp b).length c2) w0 k1 k2 hba la
     clear hz
     rcases Nat.lt_or_eq_of_le hba with hlt|heq
     · have hc:Ig.dX a b=1:=by exact Ig.kL hlt
       rw[hc]at hO;clear hc hlt hba
       go_enter Tryz.func162,Tryz.ntmps162
       go_wp2_with fail;refine hO.mono ?_;rintro _ w1 ⟨rfl,hb1⟩;have k1:=h1.call hb1;have k2:=h2.call hb1;replace hP:=hP _ k1 k2;clear hO h1 h2 k1 k2;go_wp2_with fail;refine hP.mono ?_;rintro _ w2 ⟨v,rfl,hv,hb2⟩;have hb:=aj hb1 hb2;clear hP;obtain ⟨A3,c3,rfl,-⟩:=id hv.out;have hC:=dN false (a-b) _ _ hv hl;clear hv;go_wp2_with fail;refine hC.mono ?_;rintro _ w3 ⟨rfl,hb3⟩;have hb4:=aj hb hb3;clear hC;go_wp2
       go_ret2
       exact⟨rfl,hb4⟩
     · have hc:Ig.dX a b=0:=by subst heq;exact Ig.nR _
       rw[hc]at hO;clear hc heq hba
       go_enter Tryz.func162,Tryz.ntmps162
       go_wp2_with fail;refine hO.mono ?_;rintro _ w1 ⟨rfl,hb1⟩;have k1:=h1.call hb1;have k2:=h2.call hb1;replace hP:=hP _ k1 k2;clear hO h1 h2 k1 k2;go_wp2_with fail;refine hP.mono ?_;rintro _ w2 ⟨v,rfl,hv,hb2⟩;have hb:=aj hb1 hb2;clear hP;obtain ⟨A3,c3,rfl,-⟩:=id hv.out;have hC:=dN false (a-b) _ _ hv hl;clear hv;go_wp2_with fail;refine hC.mono ?_;rintro _ w3 ⟨rfl,hb3⟩;have hb4:=aj hb hb3;clear hC;go_wp2
       go_ret2
       exact⟨rfl,hb4⟩
   · have hz:dM false a+dM true b=dM true (b-a):=by simp only[dM];simp;omega
     rw[hz];have hl:(Dx.grp (b-a)).length<=1000000:=by have:=lI (show b-a<=b by omega);omega
     have hP:=fun w0 k1 k2=>mG b a (.slice A2 (Dx.grp b).length c2) (.slice A1 (Dx.grp a).length c1) w0 k1 k2 (by omega) lb
     have hc:Ig.dX a b= -1:=Ig.kK (by omega);rw [hc]at hO;clear hz hc
     go_enter Tryz.func162,Tryz.ntmps162
     go_wp2_with fail;refine hO.mono ?_;rintro _ w1 ⟨rfl,hb1⟩;have k1:=h1.call hb1;have k2:=h2.call hb1;replace hP:=hP _ k2 k1;clear hO h1 h2 k1 k2;go_wp2_with fail;refine hP.mono ?_;rintro _ w2 ⟨v,rfl,hv,hb2⟩;have hb:=aj hb1 hb2;clear hP;obtain ⟨A3,c3,rfl,-⟩:=id hv.out;have hC:=dN true (b-a) _ _ hv hl;clear hv;go_wp2_with fail;refine hC.mono ?_;rintro _ w3 ⟨rfl,hb3⟩;have hb4:=aj hb hb3;clear hC;go_wp2
     go_ret2
     exact⟨rfl,hb4⟩
 · have hO:=mF a b _ _ w h1 h2 (by omega) (by omega);by_cases hba:b<=a
   · have hz:dM true a+dM false b=dM true (a-b):=by simp only[dM];simp;omega
     rw[hz];have hl:(Dx.grp (a-b)).length<=1000000:=by have:=lI (show a-b<=a by omega);omega
     have hP:=fun w0 k1 k2=>mG a b (.slice A1 (Dx.grp a).length c1) (.slice A2 (Dx.grp b).length c2) w0 k1 k2 hba la
     clear hz
     rcases Nat.lt_or_eq_of_le hba with hlt|heq
     · have hc:Ig.dX a b=1:=by exact Ig.kL hlt
       rw[hc]at hO;clear hc hlt hba
       go_enter Tryz.func162,Tryz.ntmps162
       go_wp2_with fail;refine hO.mono ?_;rintro _ w1 ⟨rfl,hb1⟩;have k1:=h1.call hb1;have k2:=h2.call hb1;replace hP:=hP _ k1 k2;clear hO h1 h2 k1 k2;go_wp2_with fail;refine hP.mono ?_;rintro _ w2 ⟨v,rfl,hv,hb2⟩;have hb:=aj hb1 hb2;clear hP;obtain ⟨A3,c3,rfl,-⟩:=id hv.out;have hC:=dN true (a-b) _ _ hv hl;clear hv;go_wp2_with fail;refine hC.mono ?_;rintro _ w3 ⟨rfl,hb3⟩;have hb4:=aj hb hb3;clear hC;go_wp2
       go_ret2
       exact⟨rfl,hb4⟩
     · have hc:Ig.dX a b=0:=by subst heq;exact Ig.nR _
       rw[hc]at hO;clear hc heq hba
       go_enter Tryz.func162,Tryz.ntmps162
       go_wp2_with fail;refine hO.mono ?_;rintro _ w1 ⟨rfl,hb1⟩;have k1:=h1.call hb1;have k2:=h2.call hb1;replace hP:=hP _ k1 k2;clear hO h1 h2 k1 k2;go_wp2_with fail;refine hP.mono ?_;rintro _ w2 ⟨v,rfl,hv,hb2⟩;have hb:=aj hb1 hb2;clear hP;obtain ⟨A3,c3,rfl,-⟩:=id hv.out;have hC:=dN true (a-b) _ _ hv hl;clear hv;go_wp2_with fail;refine hC.mono ?_;rintro _ w3 ⟨rfl,hb3⟩;have hb4:=aj hb hb3;clear hC;go_wp2
       go_ret2
       exact⟨rfl,hb4⟩
   · have hz:dM true a+dM false b=dM false (b-a):=by simp only[dM];simp;omega
     rw[hz];have hl:(Dx.grp (b-a)).length<=1000000:=by have:=lI (show b-a<=b by omega);omega
     have hP:=fun w0 k1 k2=>mG b a (.slice A2 (Dx.grp b).length c2) (.slice A1 (Dx.grp a).length c1) w0 k1 k2 (by omega) lb
     have hc:Ig.dX a b= -1:=Ig.kK (by omega);rw [hc]at hO;clear hz hc
     go_enter Tryz.func162,Tryz.ntmps162
     go_wp2_with fail;refine hO.mono ?_;rintro _ w1 ⟨rfl,hb1⟩;have k1:=h1.call hb1;have k2:=h2.call hb1;replace hP:=hP _ k2 k1;clear hO h1 h2 k1 k2;go_wp2_with fail;refine hP.mono ?_;rintro _ w2 ⟨v,rfl,hv,hb2⟩;have hb:=aj hb1 hb2;clear hP;obtain ⟨A3,c3,rfl,-⟩:=id hv.out;have hC:=dN false (b-a) _ _ hv hl;clear hv;go_wp2_with fail;refine hC.mono ?_;rintro _ w3 ⟨rfl,hb3⟩;have hb4:=aj hb hb3;clear hC;go_wp2
     go_ret2
     exact⟨rfl,hb4⟩
 · have hz:dM true a+dM true b=dM true (a+b):=by simp only[dM];simp;try omega
   rw[hz];have hP:=wJ a b _ _ w h1 h2 la lb;have hl:(Dx.grp (a+b)).length<=1000000:=by have:=oU la lb;omega
   clear hz h1 h2
   go_enter Tryz.func162,Tryz.ntmps162
   go_wp2_with fail;refine hP.mono ?_;rintro _ w2 ⟨v,rfl,hv,hb⟩;clear hP;obtain ⟨A3,c3,rfl,-⟩:=id hv.out;have hC:=dN true (a+b) _ _ hv hl;clear hv;go_wp2_with fail;refine hC.mono ?_;rintro _ w3 ⟨rfl,hb3⟩;have hb4:=aj hb hb3;clear hC;go_wp2
   go_ret2
   exact⟨rfl,hb4⟩
theorem iQ {z:Int} (h:Ig.fits z):(Lib.decDigits z.natAbs).length<=200:=by
 rw[Ig.jC];exact (Ig.iF z).1 h
theorem iP {z:Int} (h:Ig.fits z):(Dx.grp z.natAbs).length<=200:=Dx.fG h
theorem Ji {z:Int} (h:Ig.fits z):(Lib.itoa z).length<=201:=by
 have:=iQ h;by_cases h0:z<0
 · rw[Ig.itoa_neg h0,List.length_cons];omega
 · rw[Ig.itoa_nonneg (by omega)];omega
theorem fP {z:Int} (h:Ig.fits z) (w:World):Calls Tryz.prog 114 #[.string ⟨(Lib.itoa z).toArray⟩] w fun e w'=>e=.returned (.bool true)/\w=w':=by
 have:=fZ (Lib.itoa z) w (by have:=Ji h;omega)
 rwa [Ig.bQ h]at this
theorem f_ (x y:Int) (w:World) (hx:Ig.fits x) (hy:Ig.fits y) :
 aW 115 #[.string ⟨(Lib.itoa x).toArray⟩,.string ⟨(Lib.itoa y).toArray⟩] w (.int .i64 (dA x y)):=by
 have hV1:=fun w0=>fP hx w0
 have hV2:=fun w0=>fP hy w0
 have hD1:=fun w0=>fQ x w0 (by have:=iQ hx;omega)
 have hD2:=fun w0=>fQ y w0 (by have:=iQ hy;omega)
 have la:=iP hx;have lb:=iP hy;have hc:=Kp.mk (Af x y);generalize dA x y=z at *;generalize decide (x<0)=nx at *;generalize decide (y<0)=ny at *;generalize x.natAbs=ax at *;generalize y.natAbs=ay at *;generalize Lib.itoa x=sx at *;generalize Lib.itoa y=sy at *;clear hx hy
 go_enter Tryz.func115,Tryz.ntmps115
 go_wp2_with fail;refine (hV1 _).mono ?_;rintro _ _ ⟨rfl,rfl⟩;go_wp2_with fail;refine (hV2 _).mono ?_;rintro _ _ ⟨rfl,rfl⟩;clear hV1 hV2;go_wp2_with fail;refine (hD1 _).mono ?_;rintro _ w1 ⟨v1,rfl,k1,hb1⟩;obtain ⟨A1,c1,rfl,-⟩:=id k1.out;clear hD1;go_wp2_with fail;refine (hD2 _).mono ?_;rintro _ w2 ⟨v2,rfl,k2,hb2⟩;obtain ⟨A2,c2,rfl,-⟩:=id k2.out;clear hD2;have k1':=k1.call hb2;have hb:=aj hb1 hb2;clear k1 hb1 hb2;cases nx <;> cases ny
 · have hz:z=Ig.dX ax ay:=hc.out;have hC:=mF ax ay _ _ _ k1' k2 (by omega) (by omega);rw [←hz]at hC;clear hz hc k1' k2;go_wp2_with fail;refine hC.mono ?_;rintro _ w3 ⟨rfl,hb3⟩;have hb4:=aj hb hb3;clear hC;go_wp2;go_ret;exact ⟨rfl,hb4⟩
 · have hz:z=1:=hc.out;subst hz;clear hc k1' k2;go_wp2;go_ret;exact ⟨rfl,hb⟩
 · have hz:z= -1:=hc.out;subst hz;clear hc k1' k2;go_wp2;go_ret;exact ⟨rfl,hb⟩
 · have hz:z=Ig.dX ay ax:=hc.out;have hC:=mF ay ax _ _ _ k2 k1' (by omega) (by omega);rw [←hz]at hC;clear hz hc k1' k2;go_wp2_with fail;refine hC.mono ?_;rintro _ w3 ⟨rfl,hb3⟩;have hb4:=aj hb hb3;clear hC;go_wp2;go_ret;exact ⟨rfl,hb4⟩
theorem Gn (x y:Int) (w:World) (hx:Ig.fits x) (hy:Ig.fits y) :
 aW 116 #[.string ⟨(Lib.itoa x).toArray⟩,.string ⟨(Lib.itoa y).toArray⟩] w (.tuple #[.string ⟨(Ig.iq (x-y)).toArray⟩,.int .i64 (Ig.resE (x-y))]):=by
 have hV1:=fun w0=>fP hx w0
 have hV2:=fun w0=>fP hy w0
 have hD1:=fun w0=>fQ x w0 (by have:=iQ hx;omega)
 have hD2:=fun w0=>fQ y w0 (by have:=iQ hy;omega)
 have la:=iP hx;have lb:=iP hy
 have hz:=Kp.mk (show dM (decide (x<0)) x.natAbs+dM (!decide (y<0)) y.natAbs=x-y by
  unfold dM
  by_cases h1:x<0 <;> by_cases h2:y<0 <;> simp[h1,h2] <;> omega)
 generalize x-y=z at *;generalize decide (x<0)=nx at *;generalize decide (y<0)=ny at *;generalize x.natAbs=ax at *;generalize y.natAbs=ay at *;generalize Lib.itoa x=sx at *;generalize Lib.itoa y=sy at *;clear hx hy;have hS:=fun b w0 (k1:eH w0 ax b) d (k2:eH w0 ay d)=>PI nx (!ny) ax ay _ _ w0 k1 k2 (by omega) (by omega)
 rw[hz.out]at hS;clear hz
 go_enter Tryz.func116,Tryz.ntmps116
 go_wp2_with fail;refine (hV1 _).mono ?_;rintro _ _ ⟨rfl,rfl⟩;go_wp2_with fail;refine (hV2 _).mono ?_;rintro _ _ ⟨rfl,rfl⟩;clear hV1 hV2;go_wp2_with fail;refine (hD1 _).mono ?_;rintro _ w1 ⟨v1,rfl,k1,hb1⟩;obtain ⟨A1,c1,rfl,-⟩:=id k1.out;clear hD1;go_wp2_with fail;refine (hD2 _).mono ?_;rintro _ w2 ⟨v2,rfl,k2,hb2⟩;obtain ⟨A2,c2,rfl,-⟩:=id k2.out;clear hD2;have k1':=k1.call hb2;have hb:=aj hb1 hb2;clear k1 hb1 hb2;replace hS:=hS _ _ k1' _ k2;clear k1' k2;cases ny <;> cases nx
 all_goals
  go_wp2_with fail;refine hS.mono ?_;rintro _ w3 ⟨rfl,hb3⟩;have hb4:=aj hb hb3;clear hS;go_wp2
  go_ret2
  exact⟨rfl,hb4⟩
theorem Dn {n:Nat} (h:n<=9223372036854775808):(Dx.grp n).length<=20:=Dx.fG (by omega)
theorem D9 (n:Nat) (w:World) (hn:n<=9223372036854775807) :
 aW 75 #[.int .i64 n] w (.string ⟨(Lib.itoa (dM false n)).toArray⟩):=by
 have NH:=Dn (n:=n) (by omega);have hT:=fun A c (w0:World) hA hc=>rO false n A c w0 hA hc (by omega)
 have hg:=Kp.mk (show Dx.grp n=[]++Dx.grp n from rfl);generalize decide (Lib.nDigits n<=200)=fit at *;generalize Lib.itoa (dM false n)=res at *
 have hlen:∀(o:List Int) (q:Nat),Dx.grp n=o++Dx.grp q->o.length<=20:=fun o q h=>by
  have:=congrArg List.length h;rw [List.length_append]at this;omega
 have kU:=World.ownsRow_nil w w.heap.size 3 1
 have hst:∀(o:List Int) (q:Nat),q≠0->Dx.grp n=o++Dx.grp q->Kp (Dx.grp n=(o++[(q:Int) % 10])++Dx.grp (q / 10)):=fun o q h0 h=>⟨by
  rw[h,Dx.dQ h0,List.append_assoc]
  congr 2⟩
 have t9:decide ((n:Int)<0)=false:=decide_eq_false (by omega);obtain ⟨L,hL⟩:=jH (Dx.grp n);rw [hL.out]at hT hlen hst NH;clear hg;have hg:Kp (L=[]++Dx.grp n):=⟨by rw[List.nil_append];exact hL.out.symm⟩
 clear hL
 go_enter Tryz.func75,Tryz.ntmps75
 go_wp2_with fail
 go_loopw [3,4,5] (fun s3 s4 s5 wr=>∃(q:Nat) (o:List Int),s4=.int .i64 ((q:Int))/\q<=9223372036854775807/\Kp (L=o++Dx.grp q)/\wr.ownsRow w.heap.size 3 1 s3 o.length (o.flatMap aO)/\Below w.heap.size w wr) (fun s3 s4 s5 wr=>(intOf s4).natAbs)
 case atStart=>exact⟨n,[],rfl,hn,hg,kU,Below.refl _ _⟩
 case round =>
  clear kU hg;obtain ⟨q,o,rfl,hq,ho,hown,hb⟩:=hrel;by_cases hq0:q=0
  · subst hq0;have e:L=o:=by have:=ho.out;rw[Dx.aP,List.append_nil]at this;exact this
    obtain⟨A,c,rfl,hA,hc,hm,-⟩:=wO hown;subst e;have hX:=hT A c _ hA hc;clear hT hst hlen hA hown ho;generalize L.length=k at *;go_wp2_with fail;refine hX.mono ?_;rintro _ w3 ⟨rfl,hb3⟩;have hb4:=aj hb hb3;clear hX;go_wp2;go_ret;exact ⟨rfl,hb4⟩
  · have ho20:=hlen o q ho.out;have hnx:=hst o q hq0 ho.out;have u1:decide (((q:Int))=0)=false:=decide_eq_false (by omega);have u2:(((q:Int)) != 0)=true:=by simp;omega
    have u3:decide ((q:Int) % 10<0)=false:=decide_eq_false (by omega);obtain ⟨i0,z0,hi,hz2,hs1,hz1,wX⟩:=wV;have hbn:=au wr (.cells #[.int .i64 ((q:Int) % 10)] 3);have hown1:=dG hown hbn;clear hT hst hlen ho
    go_wp2_with (at_builtin;refine wpList_append_own _ rfl (.tmp 19) (.tmp 21) 25 rfl w.heap.size 3 i0 z0 1 8 Tryz.underlying25 hi hz2 hs1 wX hz1 (by decide) _ _ _ rfl hown1 ⟨wr.heap.size,0,none⟩ 1 1 [.int .i64 ((q:Int) % 10)] rfl rfl ?_ ?_ ?_ ?_ ?_ ?_)
    all_goals first
     | (intro j u hj;rcases j with _|j <;> simp at hj <;> subst hj <;> simp[Addr.add])
     | (intro u hu;simp at hu;subst hu;rfl)
     | rfl
     | (unfold maxLen;omega)
     | omega
     | (have:=hbn.size;have:=hb.size;omega)
     | skip
    intro v' w2 hown' hgrow _;have hb':=(aj hb hbn).grown hgrow (by have:=hbn.size;have:=hb.size;omega) (fun k hk=>(hown1.lt k hk).1);clear hown1 hown hi hz2 hs1 hz1 wX hgrow;go_wp2;refine ⟨⟨q / 10,o++[(q:Int) % 10],congrArg (Value.int .i64) (by omega),by omega,hnx,?_,hb'⟩,by show ((q:Int) / 10).natAbs<((q:Int)).natAbs;omega⟩;rw [List.length_append,List.length_singleton,List.flatMap_append];exact hown'
theorem D_ (z:Int) (n:Nat) (hz:Kp (z= -(n:Int))) (hz0:z<0) (hz1: -9223372036854775808<=z) (w:World) (hn:n<=9223372036854775808) (h0:n≠0) :
 aW 75 #[.int .i64 z] w (.string ⟨(Lib.itoa (dM true n)).toArray⟩):=by
 have NH:=Dn (n:=n) (by omega);have hT:=fun A c (w0:World) hA hc=>rO true n A c w0 hA hc (by omega)
 have hg:=Kp.mk (show Dx.grp n=[]++Dx.grp n from rfl);generalize decide (Lib.nDigits n<=200)=fit at *;generalize Lib.itoa (dM true n)=res at *
 have hlen:∀(o:List Int) (q:Nat),Dx.grp n=o++Dx.grp q->o.length<=20:=fun o q h=>by
  have:=congrArg List.length h;rw [List.length_append]at this;omega
 have kU:=World.ownsRow_nil w w.heap.size 3 1
 have hst:∀(o:List Int) (q:Nat),q≠0->Dx.grp n=o++Dx.grp q->Kp (Dx.grp n=(o++[(q:Int) % 10])++Dx.grp (q / 10)):=fun o q h0 h=>⟨by
  rw[h,Dx.dQ h0,List.append_assoc]
  congr 2⟩
 have t9:decide (z<0)=true:=decide_eq_true hz0;obtain ⟨L,hL⟩:=jH (Dx.grp n);rw [hL.out]at hT hlen hst NH;clear hg;have hg:Kp (L=[]++Dx.grp n):=⟨by rw[List.nil_append];exact hL.out.symm⟩
 clear hL
 go_enter Tryz.func75,Tryz.ntmps75
 go_wp2_with fail
 go_loopw [3,4,5] (fun s3 s4 s5 wr=>∃(q:Nat) (m:Int) (o:List Int),Kp (m= -(q:Int))/\s4=.int .i64 m/\q<=9223372036854775808/\Kp (L=o++Dx.grp q)/\wr.ownsRow w.heap.size 3 1 s3 o.length (o.flatMap aO)/\Below w.heap.size w wr) (fun s3 s4 s5 wr=>(intOf s4).natAbs)
 case atStart=>exact⟨n,z,[],hz,rfl,hn,hg,kU,Below.refl _ _⟩
 case round =>
  clear kU hg;obtain ⟨q,m,o,hm,rfl,hq,ho,hown,hb⟩:=hrel;by_cases hq0:q=0
  · subst hq0;obtain rfl:m=0:=hm.out;clear hm;have e:L=o:=by have:=ho.out;rw[Dx.aP,List.append_nil]at this;exact this
    obtain⟨A,c,rfl,hA,hc,hm,-⟩:=wO hown;subst e;have hX:=hT A c _ hA hc;clear hT hst hlen hA hown ho;generalize L.length=k at *;go_wp2_with fail;refine hX.mono ?_;rintro _ w3 ⟨rfl,hb3⟩;have hb4:=aj hb hb3;clear hX;go_wp2;go_ret;exact ⟨rfl,hb4⟩
  · have ho20:=hlen o q ho.out;have hnx:=hst o q hq0 ho.out;have hr0:Kp (Int.tmod m 10= -((q:Int) % 10)):=⟨by rw[hm.out,Int.neg_tmod,Int.tmod_eq_emod_of_nonneg (by omega)]⟩
    have hd0:Kp (Int.tdiv m 10= -((q / 10:Nat):Int)):=⟨by rw[hm.out,Int.neg_tdiv,Int.tdiv_eq_ediv_of_nonneg (by omega)];rfl⟩
    have hm1:m<= -1:=by have:=hm.out;omega
    have hm2: -9223372036854775808<=m:=by have:=hm.out;omega
    have hmm:=hm;clear hm;have u2:(m != 0)=true:=by simp;omega
    have u1:decide (m=0)=false:=decide_eq_false (by omega);generalize hrr:Int.tmod m 10=r at *;generalize hdd:Int.tdiv m 10=m2 at *;have hr1: -9<=r/\r<=0:=by have:=hr0.out;omega
    have hd1: -9223372036854775808<=m2/\m2<=0:=by have:=hd0.out;omega
    obtain⟨i0,z0,hi,hz2,hs1,hz1,wX⟩:=wV;by_cases hneg:r<0
    · have u3:decide (r<0)=true:=decide_eq_true hneg;have hbn:=au wr (.cells #[.int .i64 (-r)] 3);have hown1:=dG hown hbn;clear hT hst hlen ho;have lu:=trivial
      go_wp2_with (at_builtin;refine wpList_append_own _ rfl (.tmp 19) (.tmp 21) 25 rfl w.heap.size 3 i0 z0 1 8 Tryz.underlying25 hi hz2 hs1 wX hz1 (by decide) _ _ _ rfl hown1 ⟨wr.heap.size,0,none⟩ 1 1 [.int .i64 (-r)] rfl rfl ?_ ?_ ?_ ?_ ?_ ?_)
      all_goals first
       | (intro j u hj;rcases j with _|j <;> simp at hj <;> subst hj <;> simp[Addr.add])
       | (intro u hu;simp at hu;subst hu;rfl)
       | rfl
       | (unfold maxLen;omega)
       | omega
       | (have:=hbn.size;have:=hb.size;omega)
       | skip
      intro v' w2 hown' hgrow _;have hb':=(aj hb hbn).grown hgrow (by have:=hbn.size;have:=hb.size;omega) (fun k hk=>(hown1.lt k hk).1);clear hown1 hown hi hz2 hs1 hz1 wX hgrow;go_wp2;refine ⟨⟨q / 10,m2,o++[-r],hd0,rfl,by omega,⟨?_⟩,?_,hb'⟩,by show m2.natAbs<m.natAbs;have h1:=hd0.out;have h2:=hmm.out;omega⟩
      · rw[hnx.out];have h1:=hr0.out
        congr 3
        omega
      · rw[List.length_append,List.length_singleton,List.flatMap_append];exact hown'
    · have u3:decide (r<0)=false:=decide_eq_false hneg;have hbn:=au wr (.cells #[.int .i64 (r)] 3);have hown1:=dG hown hbn;clear hT hst hlen ho;have lu:=trivial
      go_wp2_with (at_builtin;refine wpList_append_own _ rfl (.tmp 19) (.tmp 21) 25 rfl w.heap.size 3 i0 z0 1 8 Tryz.underlying25 hi hz2 hs1 wX hz1 (by decide) _ _ _ rfl hown1 ⟨wr.heap.size,0,none⟩ 1 1 [.int .i64 (r)] rfl rfl ?_ ?_ ?_ ?_ ?_ ?_)
      all_goals first
       | (intro j u hj;rcases j with _|j <;> simp at hj <;> subst hj <;> simp[Addr.add])
       | (intro u hu;simp at hu;subst hu;rfl)
       | rfl
       | (unfold maxLen;omega)
       | omega
       | (have:=hbn.size;have:=hb.size;omega)
       | skip
      intro v' w2 hown' hgrow _;have hb':=(aj hb hbn).grown hgrow (by have:=hbn.size;have:=hb.size;omega) (fun k hk=>(hown1.lt k hk).1);clear hown1 hown hi hz2 hs1 hz1 wX hgrow;go_wp2;refine ⟨⟨q / 10,m2,o++[r],hd0,rfl,by omega,⟨?_⟩,?_,hb'⟩,by show m2.natAbs<m.natAbs;have h1:=hd0.out;have h2:=hmm.out;omega⟩
      · rw[hnx.out];have h1:=hr0.out
        congr 3
        omega
      · rw[List.length_append,List.length_singleton,List.flatMap_append];exact hown'
theorem uQ (z:Int) (w:World) (h0: -9223372036854775808<=z) (h1:z<=9223372036854775807) :
 aW 75 #[.int .i64 z] w (.string ⟨(Lib.itoa z).toArray⟩):=by
 by_cases hz:z<0
 · have h:=D_ z z.natAbs ⟨by omega⟩ hz h0 w (by omega) (by omega)
   rwa [show dM true z.natAbs=z by simp only[dM];simp;omega]at h
 · have h:=D9 z.natAbs w (by omega)
   rwa [show dM false z.natAbs=z by simp only[dM];simp;omega,show ((z.natAbs:Nat):Int)=z by omega]at h
end Go.Proofs.YtelljijajgiabaaGreatDoor
namespace Dx
theorem EZ {l:List Int} {j:Nat} {v:Int} (h:j<l.length) (t:Nat):bW (l.set j v) t=if t=j then v else bW l t:=by
 unfold bW
 rw[List.getElem?_set];by_cases ht:j=t
 · subst ht;rw[if_pos rfl,if_pos h,if_pos rfl];rfl
 · rw[if_neg ht,if_neg (fun e=>ht e.symm)]
theorem G8:∀ {l:List Int} {j:Nat} {v:Int},j<l.length->aT (l.set j v)=aT l+10 ^ j*(v-bW l j)
 | [],j,v,h=>absurd h (Nat.not_lt_zero _)
 | a :: l,0,v,_=>by
  show v+10*aT l=a+10*aT l+10 ^ 0*(v-a)
  simp;omega
 | a :: l,j+1,v,h=>by
  have ih:=G8 (l:=l) (j:=j) (v:=v) (by simpa using h)
  show a+10*aT (l.set j v)=a+10*aT l+10 ^ (j+1)*(v-bW l j)
  rw[ih,Int.pow_succ,Int.mul_add,Int.mul_comm (10 ^ j) 10,Int.mul_assoc];omega
structure Y_ (C0 C:List Int) (i:Nat) (x:Int) (m:List Int) (k:Nat) (c:Int):Prop where
 len:C.length=C0.length
 gr:Gr C
 eq:aT C+10 ^ (i+k)*c=aT C0+10 ^ i*(x*aT (m.take k))
 same:∀t,i+k<=t->bW C t=bW C0 t
 c0:0<=c
 c9:c<=9
theorem JC {x y:Int} (hx:0<=x/\x<10) (hy:0<=y/\y<10):0<=x*y/\x*y<=81:=by
 refine⟨Int.mul_nonneg hx.1 hy.1,?_⟩;have h1:x*y<=9*y:=Int.mul_le_mul_of_nonneg_right (by omega) hy.1;omega
theorem Y_.start {C0:List Int} (h:Gr C0) (i:Nat) (x:Int) (m:List Int):Y_ C0 C0 i x m 0 0:=⟨rfl,h,by simp[aT],fun _ _=>rfl,by omega,by omega⟩
theorem Y_.step {C0 C m:List Int} {i k:Nat} {x c:Int} (h:Y_ C0 C i x m k c) (hx:0<=x/\x<10) (hm:Gr m) (hk:i+k<C.length):Y_ C0 (C.set (i+k) ((bW C (i+k)+c+x*bW m k) % 10)) i x m (k+1) ((bW C (i+k)+c+x*bW m k) / 10):=by
 have hC:=fK h.gr (i+k);have hy:=fK hm k;have hxy:=JC hx hy;have h0:=h.c0;have h9:=h.c9;refine ⟨by rw[List.length_set,h.len],fun g hg=>?_,?_,fun t ht=>?_,by omega,by omega⟩
 · rcases List.mem_or_eq_of_mem_set hg with h1|h1
   · exact h.gr g h1
   · subst h1;omega
 · rw[G8 hk,yO];have he:=h.eq;have e1:(10:Int) ^ (i+(k+1))=10 ^ (i+k)*10:=by rw[←Nat.add_assoc,Int.pow_succ]
   have e2:(10:Int) ^ (i+k)=10 ^ i*10 ^ k:=Int.pow_add _ _ _;generalize bW C (i+k)=u at *;generalize bW m k=y at *;have e3:(u+c+x*y) % 10-u+10*((u+c+x*y) / 10)=c+x*y:=by omega
   have e4:aT C+10 ^ (i+k)*((u+c+x*y) % 10-u)+10 ^ (i+(k+1))*((u+c+x*y) / 10)=aT C+10 ^ (i+k)*(c+x*y):=by
    rw[e1,Int.mul_assoc,Int.add_assoc,←Int.mul_add,e3]
   rw[e4,Int.mul_add,←Int.add_assoc,he,e2,Int.mul_add,Int.mul_add,Int.add_assoc]
   congr 2
   rw[Int.mul_assoc,Int.mul_left_comm x (10 ^ k) y]
 · rw[EZ hk,if_neg (by omega)];exact h.same t (by omega)
theorem Y_.stop {C0 C m:List Int} {i k:Nat} {x:Int} (h:Y_ C0 C i x m k 0) (hk:m.length<=k):aT C=aT C0+10 ^ i*(x*aT m):=by
 have:=h.eq;rw [List.take_of_length_le hk]at this;omega
end Dx
namespace Go.Proofs.YtelljijajgiabaaGreatDoor
open Go.RowKit Go.Shelf
theorem Ns (n:Nat) (hn:n<=1000000) (w:World):(Instr.makeSlice 25 (.int .i64 n) (.int .i64 n)).run Tryz.prog w=.ok (.slice (some ⟨w.heap.size,0,none⟩) n n) (w.alloc (.cells (madeCells #[.int .i64 0] n) 3)):=by
 obtain⟨i,h1,h2,h3,h4⟩:=ZU;have h:=run_make (P:=Tryz.prog) w 25 3 i (.int .i64 0) Tryz.underlying25 h1 h2 .i64 .i64 n n (by omega) (by omega) (by rw[h4];omega) (by omega);rw [h3,Nat.mul_one,Int.toNat_natCast]at h;exact h
def intCells (l:List Int):Array Value:=(l.map fun x=>Value.int .i64 x).toArray
theorem A_ (n:Nat):madeCells #[.int .i64 0] n=intCells (List.replicate n 0):=by
 apply Array.ext (by simp[madeCells,intCells])
 intro i h1 h2;simp [madeCells,intCells,Nat.mod_one]
theorem Et (l:List Int) (j:Nat) (x:Int):(intCells l).setIfInBounds j (.int .i64 x)=intCells (l.set j x):=by
 unfold intCells
 rw[List.setIfInBounds_toArray,List.map_set]
theorem at_bx {W:World} {g:Nat} {C:List Int} (h:Bx W g 3 (intCells C)):At 1 aO W W.heap.size (some ⟨g,0,none⟩) C:=fun _=>⟨g,0,rfl,h.lt,fun i c hi j u hj=>by
 match j,hj with
 | 0,hj =>
  have e:Value.int .i64 c=u:=by simpa [aO] using hj
  subst e;have:=h.cell i (v:=.int .i64 c) (by simp[intCells,hi])
  simpa using this⟩
end Go.Proofs.YtelljijajgiabaaGreatDoor
namespace Dx
def hi (l:List Int) (k:Nat):Nat:=(from_ l k).toNat
theorem Ez {l:List Int} (h:Gr l) {k:Nat} (hk:k<l.length):hi l k=(bW l k).toNat+10*hi l (k+1):=by
 have h1:=lT hk;have h2:=qQ h (k+1);have h3:=fK h k;rw [←dS hk]at h1
 unfold hi
 omega
theorem JG {l:List Int} {k:Nat} (hk:l.length<=k):hi l k=0:=by unfold hi;rw[qR hk];rfl
theorem LD (n:Nat):hi (grp n) 0=n:=by
 unfold hi;rw[oD,bY];exact Int.toNat_natCast n
structure AB (l C:List Int) (k b:Nat):Prop where
 len:C.length=l.length
 gr:Gr C
 low:∀t,t<k->bW C t=0
 val:hi C k=hi l k / b
structure Xm (l C:List Int) (k b t:Nat):Prop where
 len:C.length=l.length
 gr:Gr C
 low:∀u,u<k->bW C u=0
 here:bW C k=t
 val:hi C (k+1)=hi l (k+1) / b
theorem VF (n t:Nat):bW (List.replicate n 0) t=0:=by
 unfold bW
 rw[List.getElem?_replicate]
 split <;> rfl
theorem AB.start (l:List Int) (b:Nat):AB l (List.replicate l.length 0) l.length b:=by
 refine⟨by simp,fun g hg=>?_,fun t _=>VF _ _,?_⟩
 · obtain rfl:=List.eq_of_mem_replicate hg;omega
 · rw[JG (by simp),JG (Nat.le_refl _),Nat.zero_div]
theorem AB.inn {l C:List Int} {k b:Nat} (h:AB l C (k+1) b):Xm l C k b 0:=⟨h.len,h.gr,fun u hu=>h.low u (by omega),h.low k (by omega),h.val⟩
theorem Xm.step {l C:List Int} {k b t:Nat} (h:Xm l C k b t) (hk:k<C.length) (ht:t+1<10):Xm l (C.set k ((t:Int)+1)) k b (t+1):=by
 refine⟨by rw[List.length_set,h.len],fun g hg=>?_,fun u hu=>?_,?_,?_⟩
 · rcases List.mem_or_eq_of_mem_set hg with h1|h1
   · exact h.gr g h1
   · subst h1;omega
 · rw[EZ hk,if_neg (by omega)];exact h.low u hu
 · rw[EZ hk,if_pos rfl];omega
 · rw[←h.val]
   unfold hi from_
   rw[List.drop_set_of_lt (by omega)]
theorem Xm.stop {l C:List Int} {k b t:Nat} (h:Xm l C k b t) (hl:Gr l) (hk:k<l.length) (hb:0<b) (ht:t=((bW l k).toNat+10*(hi l (k+1) % b)) / b):AB l C k b:=by
 refine⟨h.len,h.gr,h.low,?_⟩;have hx:=fK hl k;have h1:=vM (g:=(bW l k).toNat) (R:=hi l (k+1)) hb (by omega);rw [Ez h.gr (by rw[h.len];exact hk),Ez hl hk,h.here,h.val,h1.2.1,ht];rw [Int.toNat_natCast]
theorem AB.fin {a:Nat} {C:List Int} {b:Nat} (h:AB (grp a) C 0 b):Ig.bf C=grp (a / b):=by
 have h1:=h.val;rw [LD]at h1;rw [←Cc,kN h.gr,←h1];rfl
theorem NT {l:List Int} (hl:Gr l) {k b:Nat} (hk:k<l.length) (hb:0<b):((bW l k).toNat+10*(hi l (k+1) % b)) % b=hi l k % b/\((bW l k).toNat+10*(hi l (k+1) % b)) / b<10:=by
 have hx:=fK hl k;have h1:=vM (g:=(bW l k).toNat) (R:=hi l (k+1)) hb (by omega);rw [Ez hl hk,h1.2.2];exact ⟨rfl,h1.1⟩
theorem SA {x:Int} (hx:0<=x/\x<10) (m:Nat):Ig.bf ([x]++grp m)=grp (x.toNat+10*m):=by
 have hG:Gr ([x]++grp m):=fun g hg=>by
  rcases List.mem_append.1 hg with h|h
  · obtain rfl:g=x:=by simpa using h
    exact hx
  · exact dn m g h
 rw[←Cc,kN hG,dF,bY]
 congr 1
 simp[aT]
 omega
theorem Yn {l:List Int} (hl:Gr l) (k b:Nat) (hb:0<b) {n:Nat} (hn:(grp b).length<=n):(grp (hi l k % b)).length<=n:=by
 have h1:=Nat.mod_lt (hi l k) hb;exact Nat.le_trans (fG (Nat.lt_trans h1 (iZ b))) hn
theorem Ph {R b t:Nat} (hb:0<b) (ht:t*b<=R) (hlt:R-t*b<b):t=R / b/\R-t*b=R % b:=by
 have h:=(Nat.div_mod_unique (a:=R) (b:=b) (c:=R-t*b) (d:=t) hb).2 ⟨by rw[Nat.mul_comm b t];omega,hlt⟩;exact ⟨h.1.symm,h.2.symm⟩
theorem Pj {R b t:Nat} (ht:t*b<=R) (hge:b<=R-t*b):(t+1)*b<=R/\R-(t+1)*b=R-t*b-b:=by
 rw[Nat.add_mul,Nat.one_mul];omega
theorem KI {R b t:Nat} (hb:0<b) (h9:R / b<10) (ht:(t+1)*b<=R):t+1<10:=by
 have:=(Nat.le_div_iff_mul_le hb).2 ht;omega
end Dx
namespace Go.Proofs.YtelljijajgiabaaGreatDoor
open Go.RowKit Go.Shelf
theorem tu {w:World} {ops:Array Oper} {rest:List Oper} {o:Oper} {a:Act} {Q:Exit->Act->World->Prop} (hgd:o.guard=none) (s y:Operand) (ho:o.op=.call { callee:=.builtin .append,args:=#[s,y],argTypes:=#[25,25] })
 (B cap n m:Nat) (flat news:List Value) (v x:Value) (hes:a.eval s=v) (EC:a.eval y=x) (hv:cO 3 1 B cap n flat v w) (hB:B<=w.heap.size) (hs:Src Tryz.prog 1 25 x m news w) (hcm:cap<=maxLen) (h63:n+m<=2000000)
 (h:∀v' w' cap',Below B w w'->(n=cap->Below w.heap.size w w')->cO 3 1 B cap' (n+m) (flat++news) v' w'->cap'<=maxLen->wpList Tryz.prog ops Q rest (a.put o.dst v') w'):wpList Tryz.prog ops Q (o :: rest) a w:=by
 obtain⟨i,z,hi,hz,hs1,hz1,hby⟩:=wV;exact gW hgd s y _ _ ho i z 1 B cap n m flat news v x Tryz.underlying25 hi hz hs1 hz1 hes EC hv hB hs hcm (by unfold maxLen;omega) (by rw[hby];omega) h
theorem U7:∀c:Int,∀u∈aO c,u.oneCell'=true:=fun c u hu=>by
 obtain rfl:u=Value.int .i64 c:=by simpa [aO] using hu
 rfl
theorem Vt (W:World):eH W 0 (.slice none 0 0):=⟨none,0,by rw[Dx.aP];rfl,by rw[Dx.aP];exact At.nil,by rw[Dx.aP];exact Nat.le_refl _,Nat.zero_le _⟩
theorem NY {W:World} {a b:Nat} {v:Value} (h:eH W a v) (k:eH W b v):a=b:=by
 obtain⟨A,c,rfl,hA,-,-⟩:=h.out;obtain ⟨A',c',e,hA',-,-⟩:=k.out;simp only[Value.slice.injEq]at e;obtain ⟨rfl,hl,rfl⟩:=e
 have:Dx.grp a=Dx.grp b:=by
  apply List.ext_getElem hl
  intro i h1 h2;obtain ⟨g,off,rfl,-,hc⟩:=hA (by omega);obtain ⟨g',off',e',-,hc'⟩:=hA' (by omega);simp only[Option.some.injEq,Addr.mk.injEq,and_true]at e';obtain ⟨rfl,rfl⟩:=e';have x1:=hc i _ (List.getElem?_eq_getElem h1) 0 _ rfl;have x2:=hc' i _ (List.getElem?_eq_getElem h2) 0 _ rfl;rw [x1]at x2;simpa using x2
 have h1:=Dx.bY a;rw [this,Dx.bY]at h1;omega
theorem EM {W:World} {a:Nat} {v:Value} (h:eH W a v):Classical.epsilon (fun k=>eH W k v)=a :=
 NY (Classical.epsilon_spec (p:=fun k=>eH W k v) ⟨a,h⟩) h
theorem Sl {W:World} {B cap m:Nat} {x:Int} {v:Value} (h:cO 3 1 B cap (1+(Dx.grp m).length) ([.int .i64 x]++(Dx.grp m).flatMap aO) v W) :
 ∃A,v=.slice A ([x]++Dx.grp m).length cap/\At 1 aO W W.heap.size A ([x]++Dx.grp m)/\([x]++Dx.grp m).length<=cap/\∀b off,A=some ⟨b,off,none⟩->B<=b:=by
 have e1:1+(Dx.grp m).length=([x]++Dx.grp m).length:=by simp[Nat.add_comm]
 have e2:([.int .i64 x]++(Dx.grp m).flatMap aO)=([x]++Dx.grp m).flatMap aO:=by simp[aO]
 rw[e1,e2]at h;obtain ⟨g,cells,hv,hg,-⟩:=id h;obtain ⟨A,e,hA,hc⟩:=cO.at (f:=aO) (size:=1) (fun _=>rfl) h;refine ⟨A,e,hA,hc,fun b off hb=>?_⟩;rw [hb,hv]at e;simp only[Value.slice.injEq,Option.some.injEq,Addr.mk.injEq]at e;omega
theorem UJ {n b:Nat} (h:b<=n):decide (Ig.dX n b ≥ 0)=true:=by
 refine decide_eq_true ?_
 rcases Nat.lt_or_eq_of_le h with h1|h1
 · rw[Ig.kL h1];decide
 · rw[h1,Ig.nR];decide
theorem UH {n b:Nat} (h:n<b):decide (Ig.dX n b ≥ 0)=false:=by
 refine decide_eq_false ?_;rw [Ig.kK h];decide
theorem uP (a b:Nat) (v1 v2:Value) (w:World) (h1:eH w a v1) (h2:eH w b v2) (hb0:0<b) (la:(Dx.grp a).length<=20000) (lb:(Dx.grp b).length<=20000) :
 Calls Tryz.prog 163 #[v1,v2] w fun e w'=>∃u v,e=.returned (.tuple #[u,v])/\eH w' (a / b) u/\eH w' (a % b) v/\Below w.heap.size w w':=by
 obtain⟨A1,c1,rfl,hA1,hn1,hm1⟩:=h1.out;obtain ⟨A2,c2,rfl,-⟩:=id h2.out;have ga:=Dx.dn a;have hfin:∀C,Dx.AB (Dx.grp a) C 0 b->Kp (Ig.bf C=Dx.grp (a / b)):=fun C h=>⟨h.fin⟩
 have hz0:=Kp.mk (Dx.LD a);have hrl:∀k,Kp ((Dx.grp (Dx.hi (Dx.grp a) k % b)).length<=20000):=fun k=>⟨Dx.Yn ga k b hb0 lb⟩
 generalize Dx.grp a=l at *;clear h1;have hmk:=Ns l.length (by omega) w;rw [A_]at hmk
 go_enter Tryz.func163,Tryz.ntmps163
 go_wp2_with fail
 go_loopw [7,8] (fun s7 s8 wr=>∃(k:Nat) (C:List Int),k<=l.length/\s8=.int .i64 ((k:Int)-1)/\eH wr (Dx.hi l k % b) s7/\Kp (Dx.AB l C k b)/\Bx wr w.heap.size 3 (intCells C)/\Below w.heap.size w wr) (fun s7 s8 wr=>(intOf s8+1).toNat)
 case atStart =>
  refine⟨l.length,List.replicate l.length 0,Nat.le_refl _,rfl,?_,⟨Dx.AB.start l b⟩,Bx.mk _ _ _,au _ _⟩;rw [Dx.JG (Nat.le_refl _),Nat.zero_mod];exact Vt _
 case round =>
  clear hmk;obtain ⟨k,C,hk,rfl,hr,hD,hB,hb⟩:=hrel
  cases k with
  | succ k =>
   rw[show (((k+1:Nat):Int)-1)=(k:Int) by omega];have hkl:k<l.length:=by omega
   have hx:=Dx.fK ga k;obtain ⟨b1,o1,rfl,hb1,hcc⟩:=(hA1.below hb) (by omega)
   have k1:wr.cell? ⟨b1,o1+k,none⟩=some (.int .i64 (Dx.bW l k)):=by
    have:=hcc k _ (List.getElem?_eq_getElem hkl) 0 _ rfl;rw [Dx.dS hkl];simpa using this
   have hds:=Dx.NT ga hkl hb0;have hstop:∀D t,Dx.Xm l D k b t->t=((Dx.bW l k).toNat+10*(Dx.hi l (k+1) % b)) / b->Kp (Dx.AB l D k b):=fun D t h ht=>⟨h.stop ga hkl hb0 ht⟩
   have hin:=Kp.mk hD.out.inn;have hap:=Kp.mk (Dx.SA hx (Dx.hi l (k+1) % b));have hml:=(hrl (k+1)).out;obtain ⟨m,hm⟩:=jH (Dx.hi l (k+1) % b);rw [hm.out]at hr hds hstop hap hml;obtain ⟨r9,xU⟩:=jH (Dx.hi l k % b);rw [xU.out]at hds;have Yc:=(hrl k).out;rw [xU.out]at Yc;obtain ⟨R,hR⟩:=jH ((Dx.bW l k).toNat+10*m);rw [hR.out]at hds hstop hap
   have hRl:(Dx.grp R).length<=20001:=by
    rw[←hap.out,←jQ,List.length_take,List.length_append,List.length_singleton];omega
   obtain⟨A7,c7,rfl,hA7,-,-⟩:=id hr.out;have t0:decide (k<l.length)=true:=decide_eq_true hkl
   have hrow:cO 3 1 w.heap.size 1 1 [.int .i64 (Dx.bW l k)] (.slice (some ⟨wr.heap.size,0,none⟩) 1 1) (wr.alloc (.cells #[.int .i64 (Dx.bW l k)] 3)) :=
    ⟨wr.heap.size,_,rfl,hb.size,Nat.le_refl _,Bx.mk _ _ _,rfl,rfl⟩
   have hsrc:Src Tryz.prog 1 25 (.slice A7 (Dx.grp m).length c7) (Dx.grp m).length ((Dx.grp m).flatMap aO) (wr.alloc (.cells #[.int .i64 (Dx.bW l k)] 3)) :=
    At.src (f:=aO) (size:=1) (fun _=>rfl) U7 Tryz.underlying25 (hA7.below (au wr _)) c7
   have hB1:=hB.new (.cells #[.int .i64 (Dx.bW l k)] 3);have hb1':=bNew hb (.cells #[.int .i64 (Dx.bW l k)] 3);have hsz:w.heap.size<=(wr.alloc (.cells #[.int .i64 (Dx.bW l k)] 3)).heap.size:=hb1'.size;clear hcc hA7 hr hB hD hrl hfin hz0;generalize Dx.bW l k=x at *
   go_wp2_with (at_builtin;refine tu rfl (.tmp 23) (.tmp 24) rfl w.heap.size 1 1 (Dx.grp m).length [.int .i64 x] ((Dx.grp m).flatMap aO) _ _ rfl rfl hrow hsz hsrc (by decide) (by omega) ?_;intro v' w' cap' e1 e2 e3 e4)
   obtain⟨A9,rfl,Fv,AP,hfr9⟩:=Sl e3;have hB2:=hB1.call (by first|exact e2 rfl|exact e2 trivial);have hb2:=aj hb1' (by first|exact e2 rfl|exact e2 trivial);have hT:=wI _ A9 cap' w' Fv AP (by rw[List.length_append,List.length_singleton];omega);have hN:=Sj Fv AP e4 hap;clear e1 e2 e3 Fv hfr9 hap hB1 hb1' hrow hsrc hsz k1;generalize (Ig.bf ([x]++Dx.grp m)).length=n6 at *;generalize ([x]++Dx.grp m).length=n5 at *;go_wp2_with fail;refine hT.mono ?_;rintro _ _ ⟨rfl,rfl⟩;clear hT;go_wp2_with fail
   go_loopw [7] (fun s7 wq=>∃(t:Nat) (D:List Int),t*b<=R/\eH wq (R-t*b) s7/\Kp (Dx.Xm l D k b t)/\Bx wq w.heap.size 3 (intCells D)/\Below w.heap.size w wq) (fun s7 wq=>Classical.epsilon (fun n=>eH wq n s7))
   case atStart=>exact⟨0,C,by omega,by rw[Nat.zero_mul,Nat.sub_zero];exact hN,hin,hB2,hb2⟩
   case round =>
    clear hN hin hB2 hb2;obtain ⟨t,D,htb,hs,hI,hBq,hbq⟩:=hrel;have hm0:=EM hs;have Lp:=fun h=>Dx.Ph (R:=R) (b:=b) (t:=t) hb0 htb h
    have hmore:=fun h=>Dx.Pj (R:=R) (b:=b) (t:=t) htb h
    obtain⟨n7,hn7⟩:=jH (R-t*b);rw [hn7.out]at hs hm0 Lp hmore;have Yg:n7<=R:=by rw[←hn7.out];exact Nat.sub_le _ _
    have hl7:(Dx.grp n7).length<=20001:=Nat.le_trans (lI Yg) hRl;obtain ⟨A8,c8,rfl,-⟩:=id hs.out;have h2q:=h2.call hbq;have hO:=mF n7 b _ _ _ hs h2q (by omega) (by omega);have hDl:D.length=l.length:=hI.out.len;by_cases hge:b<=n7
    · have t1:=UJ hge;have hM:=fun w5 hb5=>uO n7 b _ _ w5 (hs.call hb5) (h2q.call hb5) hge (by omega)
      obtain⟨hm1,hm2⟩:=hmore hge;have hstp:=Kp.mk (hI.out.step (by omega) (Dx.KI hb0 hds.2 hm1));have WR:Dx.bW D k=(t:Int):=hI.out.here;have hkD:k<D.length:=by omega
      generalize Ig.dX n7 b=cc at *;have hnb:=Kp.mk Yg;clear Lp hmore hn7 hs h2q hI hstop htb Yg;go_wp2_with fail;refine hO.mono ?_;rintro _ w5 ⟨rfl,hb5⟩;clear hO;go_wp2_with fail;refine (hM w5 hb5).mono ?_;rintro _ w6 ⟨v6,rfl,OO,hb6,hF6⟩;obtain ⟨A6,c6,rfl,-⟩:=id OO.out;have hb7:=aj (aj hbq hb5) hb6;have hB7:=(hBq.call hb5).call hb6
      have kD:w6.cell? ⟨w.heap.size,k,none⟩=some (.int .i64 (t:Int)):=by
       have:=hB7.cell k (v:=.int .i64 (Dx.bW D k)) (by rw[Dx.dS hkD];simp[intCells,hkD]);rw [WR]at this;exact this
      have hfz:=hB7.frozen k;have hN7:=OO.far hF6 (p:=⟨w.heap.size,k,none⟩) (hBq.call hb5).lt (.int .i64 ((t:Int)+1));have hB8:=hB7.set k (.int .i64 ((t:Int)+1));rw [Et]at hB8;have hb8:=aJ hb7 (p:=⟨w.heap.size,k,none⟩) (Nat.le_refl _) (.int .i64 ((t:Int)+1));have hm7:=EM hN7;have ht9:t<10:=by have:=Dx.KI hb0 hds.2 hm1;omega
      clear hM OO hF6 hb7 hB7 hBq hbq hb5 hb6 WR hkD;go_wp2;refine ⟨⟨t+1,D.set k ((t:Int)+1),hm1,by rw[hm2];exact hN7,hstp,hB8,hb8⟩,?_⟩;rw [hm0,hm7];omega
    · have t1:=UH (show n7<b by omega);obtain ⟨hq1,hq2⟩:=Lp (by omega);have hDo:=hstop D t hI.out hq1;generalize Ig.dX n7 b=cc at *;replace hq2:=Kp.mk hq2;clear Lp hmore hn7 h2q hI hstop hq1 hm0;go_wp2_with fail;refine hO.mono ?_;rintro _ w5 ⟨rfl,hb5⟩;clear hO;have hs5:=hs.call hb5;have hB5:=hBq.call hb5;have hb6:=aj hbq hb5;go_wp2;refine ⟨⟨k,D,by omega,by go_num,?_,hDo,hB5,hb6⟩,by simp[intOf]⟩;rw [xU.out,←hds.1,←hq2.out];exact hs5
  | zero =>
   rw[show (((0:Nat):Int)-1)= -1 from rfl];have hf:=hfin C hD.out;have hA:=at_bx hB;have hT:=wI C _ l.length wr hA (by rw[hD.out.len];exact Nat.le_refl _) (by rw[hD.out.len];omega);have hN:=Sj hA (by rw[hD.out.len];exact Nat.le_refl _) (by unfold maxLen;omega) hf;rw [hD.out.len]at hT;rw [hz0.out]at hr;obtain ⟨A7,c7,rfl,-⟩:=id hr.out;clear hf hA hfin hz0 hrl hD;generalize (Ig.bf C).length=n6 at *;go_wp2_with fail;refine hT.mono ?_;rintro _ _ ⟨rfl,rfl⟩;clear hT;go_wp2
   go_ret2
   exact⟨_,_,rfl,hN,hr,hb⟩
end Go.Proofs.YtelljijajgiabaaGreatDoor

import Derived.Test.YtelljijajgiabaaGreatDoorQ16
set_option linter.unusedVariables false
set_option linter.unusedSimpArgs false
set_option maxRecDepth 100000
set_option maxHeartbeats 8000000
namespace Go.Proofs.YtelljijajgiabaaGreatDoor
open Go.RowKit Go.Shelf
def RwS (g:Nat) (l:List (List UInt8)) (W:World):Prop:=g<W.heap.size/\∀(i:Nat) (s:List UInt8),l[i]? = some s->W.cell? ⟨g,i,none⟩=some (.string ⟨s.toArray⟩)
theorem RwS.call {g:Nat} {l:List (List UInt8)} {W W':World} (h:RwS g l W) (hb:Below W.heap.size W W'):RwS g l W':=⟨Nat.lt_of_lt_of_le h.1 hb.size,fun i s hs=>(hb.cell (p:=⟨g,i,none⟩) h.1).trans (h.2 i s hs)⟩
theorem RwS.of {B n:Nat} {l:List (List UInt8)} {v:Value} {W:World} (hl:l.length=n) (h:TM 9 1 B n (l.flatMap uK) v W):∃g cap,v=.slice (some ⟨g,0,none⟩) n cap/\Kp (RwS g l W):=by
 obtain⟨cap,⟨g,cells,rfl,-,-,hB,-,hf⟩,-⟩:=h;exact ⟨g,cap,rfl,hB.lt,fun i s hs=>PN hB hf hs (by rw[←hl];exact (List.getElem?_eq_some_iff.1 hs).1)⟩
theorem I5 {s:List UInt8} (h:¬s.length<=1000000):Ig.bF s=false:=by
 cases hv:Ig.bF s with
 | false=>rfl
 | true =>
  obtain⟨x,rfl,hx⟩:=Ig.jm hv;exact absurd (aV hx) h
theorem QF (s:List UInt8) (hs:s.length<=9223372036854775807) (w:World) :
 aW 134 #[.string ⟨s.toArray⟩] w (.bool (Ig.bF s)):=by
 by_cases hl:s.length<=1000000
 · exact nM s hl w
 · have hT:=fun w0=>nC s w0
   have hul:999999<=(Ig.iw s).length/\(Ig.iw s).length<=9223372036854775807:=by
    unfold Ig.iw
    split
    · rw[List.length_drop];omega
    · omega
   rw[I5 hl];generalize Ig.iw s=d at *;have h0:¬d=[]:=fun h=>by subst h;exact absurd hul.1 (by decide)
   have t1:decide ((d.length:Int) > 200)=true:=decide_eq_true (by omega)
   go_enter Tryz.func134,Tryz.ntmps134
   go_wp2_with (go_at_call 176;refine (hT _).mono ?_;rintro _ _ ⟨rfl,rfl⟩)
   go_ret;exact ⟨rfl,Below.refl _ _⟩
theorem Ko (s:List UInt8) (hs:s.length<=9223372036854775807) (w:World) :
 aW 94 #[.string ⟨s.toArray⟩] w (.bool (Ig.bF s)):=by
 have hV:=QF s hs w
 go_enter Tryz.func94,Tryz.ntmps94
 go_wp2_with fail;refine hV.mono ?_;rintro _ w9 ⟨rfl,aY⟩;clear hV;go_wp2;go_ret;exact ⟨rfl,aY⟩
theorem E8 (n d:List UInt8) (w:World) (hn:n.length<=9223372036854775807) (h:Ig.bF n=false) :
 aW 65 #[.agg #[.string ⟨n.toArray⟩,.string ⟨d.toArray⟩]] w (.bool false):=by
 have hV:=fun w0=>Ko n hn w0
 rw[h]at hV;have hb:=au w (.cells #[.string ⟨n.toArray⟩,.string ⟨d.toArray⟩] 51)
 go_enter Tryz.func65,Tryz.ntmps65
 go_wp2_with fail;refine (hV _).mono ?_;rintro _ w1 ⟨rfl,hb1⟩;have hb2:=aj hb hb1;clear hV;go_wp2;go_ret;exact ⟨rfl,hb2⟩
theorem E5 (n d:List UInt8) (w:World) (hn:n.length<=9223372036854775807) (hd:d.length<=9223372036854775807) (h:Ig.bF n=true) (h':Ig.bF d=false) :
 aW 65 #[.agg #[.string ⟨n.toArray⟩,.string ⟨d.toArray⟩]] w (.bool false):=by
 have hV:=fun w0=>Ko n hn w0
 have hV':=fun w0=>Ko d hd w0
 rw[h]at hV;rw [h']at hV';have hb:=au w (.cells #[.string ⟨n.toArray⟩,.string ⟨d.toArray⟩] 51);have hB:=Bx.mk w 51 #[.string ⟨n.toArray⟩,.string ⟨d.toArray⟩];have c1:=hB.cell 1 rfl
 go_enter Tryz.func65,Tryz.ntmps65
 go_wp2_with fail;refine (hV _).mono ?_;rintro _ w1 ⟨rfl,hb1⟩;replace hb:=aj hb hb1;replace hB:=hB.call hb1;have c1:=hB.cell 1 rfl;go_wp2_with fail;refine (hV' _).mono ?_;rintro _ w2 ⟨rfl,hb1⟩;replace hb:=aj hb hb1;clear hV hV';go_wp2;go_ret;exact ⟨rfl,hb⟩
theorem II (n d:List UInt8) (w:World) (hn:n.length<=9223372036854775807) (hd:d.length<=9223372036854775807) (hE:Env w) :
 aW 65 #[.agg #[.string ⟨n.toArray⟩,.string ⟨d.toArray⟩]] w (.bool (Rq.okB n d)):=by
 by_cases h1:Ig.bF n=true
 · by_cases h2:Ig.bF d=true
   · obtain⟨x,rfl,hx⟩:=Ig.jm h1;obtain ⟨y,rfl,hy⟩:=Ig.jm h2;have h:=Aw x y w hx hy hE;by_cases hq:0<y/\Nat.gcd x.natAbs y.natAbs=1
     · obtain⟨q,e1,e2⟩:=Rq.uG hq.1 hq.2;rw [Rq.qL ⟨q,⟨by rw[e1];exact hx,by rw[e2];exact hy⟩,by rw[e1],by rw[e2]⟩];rw [decide_eq_true hq.1,decide_eq_true hq.2]at h;exact h
     · have h3:¬Rq.IX (Lib.itoa x) (Lib.itoa y):=by
        rintro ⟨q,-,e1,e2⟩;have e1:=Ig.dH e1;have e2:=Ig.dH e2;subst e1;subst e2;exact hq ⟨Rq.iG q,Rq.KT q⟩
       rw[Rq.dV h3]
       have h4:(decide (0<y)&&decide (Nat.gcd x.natAbs y.natAbs=1))=false:=by
        by_cases h5:0<y
        · rw[decide_eq_false (fun h6=>hq ⟨h5,h6⟩),Bool.and_false]
        · rw[decide_eq_false h5,Bool.false_and]
       rw[h4]at h;exact h
   · have h3:¬Rq.IX n d:=by
      rintro ⟨q,hf,-,rfl⟩;exact h2 (Ig.bQ hf.den)
     rw[Rq.dV h3];exact E5 n d w hn hd h1 (by simpa using h2)
 · have h3:¬Rq.IX n d:=by
    rintro ⟨q,hf,rfl,-⟩;exact h1 (Ig.bQ hf.num)
   rw[Rq.dV h3];exact E8 n d w hn (by simpa using h1)
theorem Gl (d:List UInt8) (w:World) (hd:d≠[48]) (hs:d.length<=9223372036854775807) :
 Calls Tryz.prog 114 #[.string ⟨(45 :: d).toArray⟩] w fun e w'=>e=.returned (.bool (jc d))/\w=w':=by
 have q1:(d==[48])=false:=by simpa using hd
 have q2:(d != [48])=true:=by simpa using hd
 have hkd:=Kp.mk hd;clear hd;have hbad:=fun r (h:r<d.length) (hx:d[r].toNat<48∨57<d[r].toNat)=>Kp.mk (pJ h hx)
 have hgood:=fun (h:∀r (h:r<d.length),48<=d[r].toNat/\d[r].toNat<=57)=>Kp.mk (pK h)
 generalize jc d=ans at *
 go_enter Tryz.func114,Tryz.ntmps114
 go_wp2_with fail
 go_loopw [3] (fun s3 wr=>∃r:Nat,r<=d.length/\s3=.int .i64 r/\Kp (∀t (h:t<d.length),t<r->48<=d[t].toNat/\d[t].toNat<=57)/\wr=w) (fun s3 wr=>d.length-(intOf s3).toNat)
 case atStart=>exact⟨0,Nat.zero_le _,rfl,⟨fun t h h2=>absurd h2 (Nat.not_lt_zero _)⟩,rfl⟩
 case round =>
  obtain⟨r,hr,rfl,hall,rfl⟩:=hrel;by_cases hl:r<d.length
  · have hbd:=hbad r hl
    have hnx:48<=d[r].toNat->d[r].toNat<=57->Kp (∀t (h:t<d.length),t<r+1->48<=d[t].toNat/\d[t].toNat<=57):=fun h1 h2=>⟨fun t h ht=>by
     rcases (show t<r∨t=r by omega) with h3|h3
     · exact hall.out t h h3
     · subst h3;exact⟨h1,h2⟩⟩
    have hx256:=d[r].toNat_lt;have t0:decide ((r:Int)<(d.length:Int))=true:=decide_eq_true (by omega);clear hbad hgood hall;generalize hxx:d[r].toNat=x at *;by_cases h1:x<48
    · have t1:decide ((x:Int)<48)=true:=decide_eq_true (by omega);have hf:=hbd (.inl h1);clear hbd hnx;go_wp2;go_ret;exact ⟨aH hf.out.symm,rfl⟩
    · by_cases h2:57<x
      · have t1:decide ((x:Int)<48)=false:=decide_eq_false (by omega);have t2:decide ((x:Int) > 57)=true:=decide_eq_true (by omega);have hf:=hbd (.inr h2);clear hbd hnx;go_wp2;go_ret;exact ⟨aH hf.out.symm,rfl⟩
      · have t1:decide ((x:Int)<48)=false:=decide_eq_false (by omega);have t2:decide ((x:Int) > 57)=false:=decide_eq_false (by omega);have hn2:=hnx (by omega) (by omega);clear hbd hnx;go_wp2;exact ⟨⟨r+1,by omega,by go_num,hn2,trivial⟩,by simp[intOf];omega⟩
  · have hg:=hgood (fun t h=>hall.out t h (by omega));obtain rfl:r=d.length:=by omega
    clear hbad hgood hall;have t0:decide ((d.length:Int)<(d.length:Int))=false:=decide_eq_false (by omega);by_cases he:d=[]
    · subst he;have hf:Kp (ans=false):=⟨by rw[hg.out];rfl⟩
      clear hg;go_wp2;go_ret;exact ⟨aH hf.out.symm,rfl⟩
    have h0:0<d.length:=List.length_pos_iff.2 he;have hhd:d.head? = some d[0]:=by rw[List.head?_eq_getElem?,List.getElem?_eq_getElem h0]
    have hem:d.isEmpty=false:=by
     cases h:d.isEmpty
     · rfl
     · rw[List.isEmpty_iff]at h;rw[h]at h0;exact absurd h0 (Nat.lt_irrefl _)
    have u0:decide ((d.length:Int) > 0)=true:=decide_eq_true (by omega);rw [hhd,hem]at hg;clear hhd hem;by_cases zO:d.length<=200
    · have u1:decide ((d.length:Int)<=200)=true:=decide_eq_true (by omega);rw [q1,decide_eq_true zO]at hg;by_cases h48:d[0].toNat=48
      · have hf:Kp (ans=false):=⟨by rw[hg.out,UInt8.toNat_inj.1 (show d[0].toNat=(48:UInt8).toNat from h48)];rfl⟩
        clear hg;have u2:decide (((d[0].toNat:Nat):Int)=48)=true:=decide_eq_true (by omega);have Xv:(((d[0].toNat:Nat):Int) != 48)=false:=by simp;omega
        generalize XZ:d[0].toNat=y at *;go_wp2;go_ret;exact ⟨aH hf.out.symm,rfl⟩
      · have hne:¬d[0]=48:=fun e=>h48 (by rw[e];rfl)
        have hf:Kp (ans=true):=⟨by rw[hg.out];simp[hne]⟩
        clear hg hne;have u2:decide (((d[0].toNat:Nat):Int)=48)=false:=decide_eq_false (by omega);have Xv:(((d[0].toNat:Nat):Int) != 48)=true:=by simp;omega
        generalize XZ:d[0].toNat=y at *;go_wp2;go_ret;exact ⟨aH hf.out.symm,rfl⟩
    · have u1:decide ((d.length:Int)<=200)=false:=decide_eq_false (by omega);have hf:Kp (ans=false):=⟨by rw[hg.out,decide_eq_false zO];simp⟩
      clear hg;go_wp2;go_ret;exact ⟨aH hf.out.symm,rfl⟩
theorem Gj (s:List UInt8) (w:World) (h0:0<s.length) (hn:s.head? ≠ some 45) (hs:s.length<=9223372036854775807) :
 Calls Tryz.prog 114 #[.string ⟨s.toArray⟩] w fun e w'=>e=.returned (.bool (jc s))/\w=w':=by
 have hnm:¬s[0].toNat=45:=fun h=>hn (by
  rw[List.head?_eq_getElem?,List.getElem?_eq_getElem h0]
  congr 1
  exact UInt8.toNat_inj.1 h)
 clear hn;have t9:decide (((s[0].toNat:Nat):Int)=45)=false:=decide_eq_false (by omega);have t9':(((s[0].toNat:Nat):Int)==45)=false:=by simp;omega
 have t8:decide ((s.length:Int) > 0)=true:=decide_eq_true (by omega);have hbad:=fun r (h:r<s.length) (hx:s[r].toNat<48∨57<s[r].toNat)=>Kp.mk (pJ h hx)
 have hgood:=fun (h:∀r (h:r<s.length),48<=s[r].toNat/\s[r].toNat<=57)=>Kp.mk (pK h)
 generalize jc s=ans at *
 go_enter Tryz.func114,Tryz.ntmps114
 go_wp2_with fail
 go_loopw [3] (fun s3 wr=>∃r:Nat,r<=s.length/\s3=.int .i64 r/\Kp (∀t (h:t<s.length),t<r->48<=s[t].toNat/\s[t].toNat<=57)/\wr=w) (fun s3 wr=>s.length-(intOf s3).toNat)
 case atStart=>exact⟨0,Nat.zero_le _,rfl,⟨fun t h h2=>absurd h2 (Nat.not_lt_zero _)⟩,rfl⟩
 case round =>
  obtain⟨r,hr,rfl,hall,rfl⟩:=hrel;by_cases hl:r<s.length
  · have hbd:=hbad r hl
    have hnx:48<=s[r].toNat->s[r].toNat<=57->Kp (∀t (h:t<s.length),t<r+1->48<=s[t].toNat/\s[t].toNat<=57):=fun h1 h2=>⟨fun t h ht=>by
     rcases (show t<r∨t=r by omega) with h3|h3
     · exact hall.out t h h3
     · subst h3;exact⟨h1,h2⟩⟩
    have hx256:=s[r].toNat_lt;have t0:decide ((r:Int)<(s.length:Int))=true:=decide_eq_true (by omega);clear hbad hgood hall;generalize hxx:s[r].toNat=x at *;by_cases h1:x<48
    · have t1:decide ((x:Int)<48)=true:=decide_eq_true (by omega);have hf:=hbd (.inl h1);clear hbd hnx;go_wp2;go_ret;exact ⟨aH hf.out.symm,rfl⟩
    · by_cases h2:57<x
      · have t1:decide ((x:Int)<48)=false:=decide_eq_false (by omega);have t2:decide ((x:Int) > 57)=true:=decide_eq_true (by omega);have hf:=hbd (.inr h2);clear hbd hnx;go_wp2;go_ret;exact ⟨aH hf.out.symm,rfl⟩
      · have t1:decide ((x:Int)<48)=false:=decide_eq_false (by omega);have t2:decide ((x:Int) > 57)=false:=decide_eq_false (by omega);have hn2:=hnx (by omega) (by omega);clear hbd hnx;go_wp2;exact ⟨⟨r+1,by omega,by go_num,hn2,trivial⟩,by simp[intOf];omega⟩
  · have hg:=hgood (fun t h=>hall.out t h (by omega));obtain rfl:r=s.length:=by omega
    clear hbad hgood hall;have t0:decide ((s.length:Int)<(s.length:Int))=false:=decide_eq_false (by omega);have hhd:s.head? = some s[0]:=by rw[List.head?_eq_getElem?,List.getElem?_eq_getElem h0]
    have hem:s.isEmpty=false:=by
     cases h:s.isEmpty
     · rfl
     · rw[List.isEmpty_iff]at h;rw[h]at h0;exact absurd h0 (Nat.lt_irrefl _)
    have u0:decide ((s.length:Int) > 0)=true:=decide_eq_true (by omega);rw [hhd,hem]at hg;clear hhd hem;by_cases zO:s.length<=200
    · have u1:decide ((s.length:Int)<=200)=true:=decide_eq_true (by omega);by_cases hz:s=[48]
      · subst hz;have hf:Kp (ans=true):=⟨by rw[hg.out];rfl⟩
        clear hg;go_wp2;go_ret;exact ⟨aH hf.out.symm,rfl⟩
      have q1:(s==[48])=false:=by simpa using hz
      have q2:(s != [48])=true:=by simpa using hz
      have hkd:=Kp.mk hz;clear hz;rw [q1,decide_eq_true zO]at hg;by_cases h48:s[0].toNat=48
      · have hf:Kp (ans=false):=⟨by rw[hg.out,UInt8.toNat_inj.1 (show s[0].toNat=(48:UInt8).toNat from h48)];rfl⟩
        clear hg;have u2:decide (((s[0].toNat:Nat):Int)=48)=true:=decide_eq_true (by omega);have Xv:(((s[0].toNat:Nat):Int) != 48)=false:=by simp;omega
        generalize XZ:s[0].toNat=y at *;go_wp2;go_ret;exact ⟨aH hf.out.symm,rfl⟩
      · have hne:¬s[0]=48:=fun e=>h48 (by rw[e];rfl)
        have hf:Kp (ans=true):=⟨by rw[hg.out];simp[hne]⟩
        clear hg hne;have u2:decide (((s[0].toNat:Nat):Int)=48)=false:=decide_eq_false (by omega);have Xv:(((s[0].toNat:Nat):Int) != 48)=true:=by simp;omega
        generalize XZ:s[0].toNat=y at *;go_wp2;go_ret;exact ⟨aH hf.out.symm,rfl⟩
    · have u1:decide ((s.length:Int)<=200)=false:=decide_eq_false (by omega);have hf:Kp (ans=false):=⟨by rw[hg.out,decide_eq_false zO];simp⟩
      clear hg;go_wp2;go_ret;exact ⟨aH hf.out.symm,rfl⟩
theorem xO (s:List UInt8) (w:World) (hs:s.length<=9223372036854775807) :
 Calls Tryz.prog 114 #[.string ⟨s.toArray⟩] w fun e w'=>e=.returned (.bool (Ig.bF s))/\w=w':=by
 cases s with
 | nil=>exact zk w
 | cons a d =>
  by_cases ha:a=45
  · subst ha;by_cases hd:d=[48]
    · subst hd;have e:Ig.bF [45,48]=false:=by decide
      rw[e];exact sQ w
    · rw[BQ hd];exact Gl d w hd (by rw[List.length_cons]at hs;omega)
  · have hh:(a :: d).head? ≠ some 45:=by
     intro h;rw [List.head?_cons,Option.some.injEq]at h;exact ha h
    rw[BL hh];exact Gj (a :: d) w (by simp) hh hs
theorem vI (n d:List UInt8) (b1 b2:Bool) (w:World) (hn:n.length<=9223372036854775807) (hd:d.length<=9223372036854775807) (h1:Ig.bF n=b1) (h2:Ig.bF d=b2) (hb:b1=false∨b2=false) :
 aW 79 #[.agg #[.string ⟨n.toArray⟩,.string ⟨d.toArray⟩]] w (.bool false):=by
 have hV:=fun w0=>xO n w0 hn
 have hV':=fun w0=>xO d w0 hd
 rw[h1]at hV;rw [h2]at hV';have hb1:=au w (.cells #[.string ⟨n.toArray⟩,.string ⟨d.toArray⟩] 51);have hB:=Bx.mk w 51 #[.string ⟨n.toArray⟩,.string ⟨d.toArray⟩];have c0:=hB.cell 0 rfl;have c1:=hB.cell 1 rfl;clear h1 h2 hn hd
 go_enter Tryz.func79,Tryz.ntmps79
 go_wp2_with fail;refine (hV _).mono ?_;rintro _ _ ⟨rfl,rfl⟩;go_wp2_with fail;refine (hV' _).mono ?_;rintro _ _ ⟨rfl,rfl⟩;clear hV hV';cases b1
 · clear hb;go_wp2;go_ret;exact ⟨rfl,hb1⟩
 · cases b2
   · clear hb;go_wp2;go_ret;exact ⟨rfl,hb1⟩
   · rcases hb with h|h <;> cases h
theorem EG (n d:List UInt8) (w:World) (hn:n.length<=9223372036854775807) (hd:d.length<=9223372036854775807) :
 aW 79 #[.agg #[.string ⟨n.toArray⟩,.string ⟨d.toArray⟩]] w (.bool (Rq.okB n d)):=by
 by_cases h1:Ig.bF n=true
 · by_cases h2:Ig.bF d=true
   · obtain⟨x,rfl,hx⟩:=Ig.jm h1;obtain ⟨y,rfl,hy⟩:=Ig.jm h2;have h:=xZ x y w hx hy;by_cases hq:0<y/\Nat.gcd x.natAbs y.natAbs=1
     · obtain⟨q,e1,e2⟩:=Rq.uG hq.1 hq.2;rw [Rq.qL ⟨q,⟨by rw[e1];exact hx,by rw[e2];exact hy⟩,by rw[e1],by rw[e2]⟩];rw [decide_eq_true hq.1,decide_eq_true hq.2]at h;exact h
     · have h3:¬Rq.IX (Lib.itoa x) (Lib.itoa y):=by
        rintro ⟨q,-,e1,e2⟩;have e1:=Ig.dH e1;have e2:=Ig.dH e2;subst e1;subst e2;exact hq ⟨Rq.iG q,Rq.KT q⟩
       rw[Rq.dV h3]
       have h4:(decide (0<y)&&decide (Nat.gcd x.natAbs y.natAbs=1))=false:=by
        by_cases h5:0<y
        · rw[decide_eq_false (fun h6=>hq ⟨h5,h6⟩),Bool.and_false]
        · rw[decide_eq_false h5,Bool.false_and]
       rw[h4]at h;exact h
   · have h3:¬Rq.IX n d:=by
      rintro ⟨q,hf,-,rfl⟩;exact h2 (Ig.bQ hf.den)
     rw[Rq.dV h3];exact vI n d true false w hn hd h1 (by simpa using h2) (.inr rfl)
 · have h3:¬Rq.IX n d:=by
    rintro ⟨q,hf,rfl,-⟩;exact h1 (Ig.bQ hf.num)
   rw[Rq.dV h3];exact vI n d false (Ig.bF d) w hn hd (by simpa using h1) rfl (.inl rfl)
end Go.Proofs.YtelljijajgiabaaGreatDoor
namespace Tb
theorem Le.ex {n:Nat} {c d:Int} {q:Rat} (h0:0<=q):∃k,Le n c d q k:=by
 have h:∀m,(∃k,Le n c d q k)∨∀j,j<m->q<Pq n j c d:=fun m=>by
  induction m with
  | zero=>exact .inr fun j hj=>absurd hj (Nat.not_lt_zero _)
  | succ m ih =>
   rcases ih with ih|ih
   · exact .inl ih
   · by_cases h1:Pq n m c d<=q
     · exact .inl ⟨m,h1,ih⟩
     · refine .inr fun j hj=>?_
       rcases Nat.lt_or_ge j m with h2|h2
       · exact ih j h2
       · obtain rfl:j=m:=by omega
         exact Rat.not_le.1 h1
 rcases h (n+2) with h|h
 · exact h
 · have:=h (n+1) (by omega);rw [VL (Nat.lt_succ_self n)]at this;exact absurd h0 (Rat.not_le.2 this)
end Tb
namespace Go.Proofs.YtelljijajgiabaaGreatDoor
open Go.RowKit Go.Shelf
end Go.Proofs.YtelljijajgiabaaGreatDoor
namespace Tb
theorem UQ {q:Rat} {m k:Nat} (h0:0<=q) (h1:q<=(m:Rat)) (hm:m<=999) (hd:Rq.Sz k (q.den:Int)):Rq.Qz (k+3) (k+3) q:=by
 refine⟨?_,hd.mono (by omega)⟩;have h2:=Rat.num_nonneg.2 h0;have h3:q.num<=(m:Int)*q.den:=by have:=(Rat.le_iff _ _).1 h1;simpa using this
 unfold Rq.Sz at *
 rw[Int.natAbs_natCast]at hd;have h4:(m:Int)*q.den<=999*q.den:=Int.mul_le_mul_of_nonneg_right (by omega) (by omega);have e:10 ^ (k+3)=10 ^ k*1000:=by rw[Nat.pow_add]
 rw[e];omega
theorem XO {q:Rat} {k m:Nat} (h0:0<=q) (h1:q<=1) (hd:Rq.Sz k (q.den:Int)) (hm:m<=20):Rq.Qz (k+3) (k+3) (lG (List.replicate m q)):=by
 have hle:lG (List.replicate m q)<=(m:Rat):=by
  have:=KP (l:=List.replicate m q) fun r hr=>by rw[List.eq_of_mem_replicate hr];exact h1
  rwa [List.length_replicate]at this
 refine UQ (m:=m) (xK fun r hr=>by rw[List.eq_of_mem_replicate hr];exact h0) hle (by omega) ?_;rw [qK]
 have e:q*(m:Rat)=Rat.divInt (q.num*m) q.den:=by
  have h:=Rq.wQ q (m:Rat);rw [←h];simp
 rw[e];have:=z_ (n:=q.num*m) (d:=(q.den:Int)) (Rq.iG q);exact Pg (by omega) this hd
end Tb
namespace Go.Proofs.YtelljijajgiabaaGreatDoor
open Go.RowKit Go.Shelf
theorem vN {q:Rat} {k m:Nat} (hk:k<=90) (h0:0<=q) (h1:q<=1) (hd:Rq.Sz k (q.den:Int)) (hm:m<=20):comb (List.replicate m q)=some (Tb.lG (List.replicate m q)) :=
 Vw _ (j:=k+3) (k:=k) (by omega) (fun i hi=>by
  rw[List.length_replicate]at hi;rw [List.take_replicate,Nat.min_eq_left hi]
  exact Tb.XO h0 h1 hd (by omega)) fun r hr=>by rw[List.eq_of_mem_replicate hr];exact Tb.Eb h0 h1 hd
theorem LQ.ne {p q:Rat} {a b c d:List UInt8} (hp:LQ p a b) (hq:LQ q c d) (h:p≠q):¬(a=c/\b=d):=fun ⟨h1,h2⟩=>by
 subst h1 h2;have e1:=Ig.dH (hp.out.1.trans hq.out.1.symm);have e2:=Ig.dH (hp.out.2.trans hq.out.2.symm);exact h (Rat.ext e1 (by exact_mod_cast e2))
theorem bD.off {e:TypeId} {size B n:Nat} {fl:List Value} {v:Value} {W:World} (h:bD e size B n fl v W) {p:Addr} (hp:p.block<B) (u:Value):bD e size B n fl v (W.setCell p u):=by
 rcases h with h|⟨cap,⟨g,cells,e1,hg,hn,hB,hs,hf⟩,hm⟩
 · exact .inl h
 · exact .inr ⟨cap,⟨g,cells,e1,hg,hn,hB.far (by omega) u,hs,hf⟩,hm⟩
structure Zp (w wN:World) (gZ gR gS:Nat) (cz cr cs:Array Value) (C:Option Addr) (L:List Rat) (W:World):Prop where
 st:SE w W
 bz:Bx W gZ 80 cz
 br:Bx W gR 51 cr
 bs:Bx W gS 51 cs
 at_:At 2 qp W gS C L
 sz:wN.heap.size<=W.heap.size
section
variable {w wN W W':World} {gZ gR gS:Nat} {cz cr cs:Array Value} {C:Option Addr} {L:List Rat}
theorem Zp.up (h:Zp w wN gZ gR gS cz cr cs C L W) (o:gZ<gS/\gR<gS/\gS<wN.heap.size/\w.heap.size<=gS) (hE:Env w) (hb:Below wN.heap.size W W'):Zp w wN gZ gR gS cz cr cs C L W':=by
 obtain⟨o1,o2,o3,o4⟩:=o;have hbl:=h.st.bl.trans (hb.mono (by omega));exact ⟨⟨hbl,hE.below hbl⟩,h.bz.below hb (by omega),h.br.below hb (by omega),h.bs.below hb o3,h.at_.below (hb.mono (by omega)),Nat.le_trans h.sz hb.size⟩
theorem Zp.call (h:Zp w wN gZ gR gS cz cr cs C L W) (o:gZ<gS/\gR<gS/\gS<wN.heap.size/\w.heap.size<=gS) (hE:Env w) (hb:Below W.heap.size W W'):Zp w wN gZ gR gS cz cr cs C L W':=h.up o hE (hb.mono h.sz)
end
theorem XF {p:Pr} (h:Rq.okB p.1 p.2=true):∃q,Rq.Fq q/\p=iy q:=by
 obtain⟨p1,p2⟩:=p;by_cases hq:Rq.IX p1 p2
 · obtain⟨q,hf,e1,e2⟩:=hq;exact ⟨q,hf,by unfold iy;rw[e1,e2]⟩
 · rw[Rq.dV hq]at h;cases h
theorem Fj (qs:List Rat) (A:Option Addr) (cap:Nat) (w:World) (hA:At 2 nD w w.heap.size A (qs.map iy)) (hn:qs.length<=cap) (hl:qs.length<=20) (hq:∀q∈qs,Un q) (hc:Kp (comb qs=none)) (hE:Env w) :
 aW 60 #[.slice A qs.length cap] w (.tuple #[.agg #[.string ⟨#[]⟩,.string ⟨#[]⟩],.int .i64 350]):=by
 have hb0:=au w (.cells #[.string ⟨#[]⟩,.string ⟨#[]⟩] 51);have BR:=Bx.mk w 51 #[.string ⟨#[]⟩,.string ⟨#[]⟩];obtain ⟨za,zb,lz⟩:=LQ.ex (Wq 0);have hI:I64 0:=⟨by decide,by decide⟩
 have hcon:=Xa (qs.map iy) A cap (w.alloc (.cells #[.string ⟨#[]⟩,.string ⟨#[]⟩] 51)) ((hA.below hb0).more hb0.size) (by rw[List.length_map];exact hn) (by rw[List.length_map];omega) (fun p hp W hW=>by
  obtain⟨q,hqm,rfl⟩:=List.mem_map.1 hp
  exact Xd q _ _ W ⟨⟨rfl,rfl⟩⟩ (hq q hqm).1 ((hE.below hb0).below hW))
 rw[List.length_map]at hcon
 have hany:(qs.map iy).any (fun p=> !FD p)=false:=by
  rw[List.any_eq_false];intro p hp;obtain ⟨q,hqm,rfl⟩:=List.mem_map.1 hp;rw [Kz ⟨q,hq q hqm,rfl⟩];decide
 rw[hany]at hcon;have t0:decide ((qs.length:Int) > 20)=false:=by simp;omega
 have vO:VO (comb qs)=.agg #[.string ⟨#[]⟩,.string ⟨#[]⟩]:=by rw[hc.out];rfl
 have eO':eO (comb qs)=40:=by rw[hc.out];rfl
 have oK:∀W,Below w.heap.size w W->Env W:=fun W hW=>hE.below hW
 clear hany
 go_enter Tryz.func60,Tryz.ntmps60
 go_wp2_with (go_at_call 87;refine hcon.mono ?_;rintro _ w1 ⟨rfl,hb1⟩;clear hcon)
 replace hb0:=aj hb0 hb1;replace BR:=BR.call hb1;have JK:=bNew hb0 (.cells #[.int .i64 0] 54);have BE:=Bx.mk w1 54 #[.int .i64 0];replace BR:=BR.new (.cells #[.int .i64 0] 54);have lR:=BR.lt;have hw:=oL (w1.alloc (.cells #[.int .i64 0] 54)) hI lz (oK _ JK);have JH:=hb0.size;have hRlt:w.heap.size<w1.heap.size:=by have:=hb1.size;rw[ah]at this;omega
 refine hw.mono ?_;rintro _ w2 ⟨rfl,hb2⟩;clear hw;replace JK:=aj JK hb2;replace BE:=BE.call hb2;replace BR:=BR.call hb2;have hF:=Hr qs A cap w1.heap.size za zb w2 w.heap.size lz (hA.below JK) hn hl (fun q h=>(hq q h).1) BE JH (fun W hW=>oK W (JK.trans hW));rw [vO,eO']at hF;go_wp2_with fail;refine hF.mono ?_;rintro _ w3 ⟨rfl,BE3,hO⟩;clear hF;have BR3:=hO.bx BR (by omega);have hb3:=JK.trans (hO.to JH (Nat.le_trans JH (by have:=BE.lt;omega)));replace hb0:=bNew hb3 (.cells #[.string ⟨#[]⟩,.string ⟨#[]⟩] 51);have BE4:=BE3.new (.cells #[.string ⟨#[]⟩,.string ⟨#[]⟩] 51);replace BR:=BR3.new (.cells #[.string ⟨#[]⟩,.string ⟨#[]⟩] 51);have e0:=BE4.cell 0 rfl;clear BR3 BE3 hb3 JK BE hO hA oK hE hc;have c0:=BR.cell 0 rfl;have c1:=BR.cell 1 rfl;have f0:=BR.frozen 0;have f1:=BR.frozen 1;have B4:=(BR.set 0 (.string ⟨#[]⟩)).set 1 (.string ⟨#[]⟩);have hb4:=aJ (aJ hb0 (p:=⟨w.heap.size,0,none⟩) (Nat.le_refl _) (.string ⟨#[]⟩)) (p:=⟨w.heap.size,1,none⟩) (Nat.le_refl _) (.string ⟨#[]⟩);go_wp2;first|exact bodyPost_ret (aU rfl _ _ rfl rfl B4) rfl ⟨rfl,hb4⟩|exact bodyPost_ret (aU rfl _ _ rfl rfl BR) rfl ⟨rfl,hb0⟩
end Go.Proofs.YtelljijajgiabaaGreatDoor

import Derived.Test.YtohgjenaclfegaaGreatDoorD9
import Derived.Test.YtohgjenaclfegaaGreatDoorLS
import Derived.Test.YtohgjenaclfegaaGreatDoorCaK
set_option linter.unusedVariables false
set_option linter.unusedSimpArgs false
set_option maxRecDepth 100000
set_option maxHeartbeats 8000000
namespace Go.Proofs.YtohgjenaclfegaaGreatDoor
set_option linter.constructorNameAsVariable false
open Go.ChangeShapes Go.WideShapes Go.ChangeAt Go.RowKit
theorem sN (os:Os) (started:os.Started) (H:Type) (enc:TypeId × Value->H) :
 ReturnsInHanded {} Tryz.checked os 4 .any (fun w args=>(Rows.fraudCallsSpec.pre enc Tryz.prog Tryz.f4 Rows.fraudCallsRow.domain false w args/\laidMetH Tryz.prog Rows.fraudCallsRow.laid w)/\sizedMet enc Tryz.prog Tryz.f4 (OpenSpec.ofChange Rows.fraudCallsSpec) false w args)
  (Rows.fraudCallsSpec.post enc Tryz.prog Tryz.f4 false true false false):=by
 refine returnsInHanded_of_change_and (C:=Tryz.checked) (X:=fun w _=>laidMetH Tryz.prog Rows.fraudCallsRow.laid w) (fun _ _ _ hh h=>h.of_heap hh) own started (by kernel_rfl) Tryz.func4
  (ChangeSpec.witness_shaped (enc:=enc) (C:=Tryz.checked) (os:=os) (X:=fun w _=>laidMetH Tryz.prog Rows.fraudCallsRow.laid w) false (World.laidAll Tryz.prog os Rows.fraudCallsRow.laid) #[.slice none 0 0,.slice none 0 0,.int .i64 0,.int .i64 0] 8 (World.laidAll_os _ _ _)
   (World.shaped_of_ZipB (by kernel_rfl) (by kernel_rfl)) (by kernel_rfl) (by kernel_rfl) (by kernel_rfl) (CO os _)) ?_
 intro W base args ds gs before hval0 hW _ _ hL _;have hval:∀(j:Nat) t v,Tryz.f4.params[j]? = some t->args[j]? = some v->Value.okWide Tryz.prog W .any base t v:=hval0
 have hW':=hW;have hlt:=hW.lt;obtain ⟨p,q,hA0,hV,rfl,_,_⟩:=hW;have hA:DataW.TrodAll enc Tryz.prog W 0 (fun _=>true) true Tryz.f4.params.toList args.toList ds p:=hA0;obtain ⟨rfl,rfl⟩:=trodVars_none hV;have hstay:=UO (by kernel_rfl) hA (fun x hx=>hlt x (by simp[hx]));rw [Tryz.params4]at hA hval;obtain ⟨v0,vs0,d0,ds0,p0,q0,hargs,rfl,rfl,h0,hA⟩:=trodAll_cons hA;obtain ⟨v1,vs1,d1,ds1,p1,q1,rfl,rfl,rfl,h1,hA⟩:=trodAll_cons hA;obtain ⟨v2,vs2,d2,ds2,p2,q2,rfl,rfl,rfl,h2,hA⟩:=trodAll_cons hA;obtain ⟨v3,vs3,d3,ds3,p3,q3,rfl,rfl,rfl,h3,hA⟩:=trodAll_cons hA;obtain ⟨rfl,rfl,rfl⟩:=trodAll_nil hA;obtain rfl:args=#[v0,v1,v2,v3]:=by cases args;simp_all
 obtain⟨A0,x0,c0,rfl,at0,n0,m0,q0'⟩:=Px (hval 0 82 v0 rfl rfl) h0;obtain ⟨A1,x1,c1,rfl,at1,n1,m1,q1'⟩:=Pz (hval 1 23 v1 rfl rfl) h1;obtain ⟨z2,rfl,rfl,rfl,w2⟩:=open_int Tryz.underlying3 (hval 2 3 v2 rfl rfl) h2;obtain ⟨z3,rfl,rfl,rfl,w3⟩:=open_int Tryz.underlying3 (hval 3 3 v3 rfl rfl) h3;refine (yD x0 A0 c0 x1 A1 c1 z2 z3 W at0 n0 m0 q0' at1 n1 m1 q1' (mg w2) (mg w3) (RD hL) (Yx hL) (MO W (RD hL))).mono fun e W' ⟨he,hb⟩=>?_
 subst he;exact ⟨_,rfl,_,_,_,[],_,[],hW',trodAll_mk1 (shut_bool Tryz.underlying4 _),hstay W' hb,rfl,hb.frame _,fun h=>by cases h⟩
end Go.Proofs.YtohgjenaclfegaaGreatDoor

import Derived.Test.YtohgjenaclfegaaGreatDoorLT
import Derived.Test.YtohgjenaclfegaaGreatDoorCaK
set_option linter.unusedVariables false
set_option linter.unusedSimpArgs false
set_option maxRecDepth 100000
set_option maxHeartbeats 8000000
namespace Go.Proofs.YtohgjenaclfegaaGreatDoor
set_option linter.constructorNameAsVariable false
open Go.ChangeShapes Go.WideShapes Go.ChangeAt Go.RowKit
theorem zY:Rows.topTrustedRow.laid=Rows.fraudCallsRow.laid:=by kernel_rfl
theorem P9 {W:World} (h:laidMetH Tryz.prog Rows.topTrustedRow.laid W):Env W:=Ur (by rw[zY]at h;exact h)
theorem OX {W:World} (h:laidMetH Tryz.prog Rows.topTrustedRow.laid W):Rnd W:=SC (by rw[zY]at h;exact h)
theorem vI (os:Os) (args:Array Value):laidMetH Tryz.prog Rows.topTrustedRow.laid ((World.laidAll Tryz.prog os Rows.topTrustedRow.laid).forCall (fun _ _=>0) ⟨#[],args,[]⟩).memory:=by
 rw[MakeChecks.laidMetH_plain _ _ _ (by kernel_rfl)];exact laidMet_laidAll _ (by kernel_rfl) (by kernel_rfl)
theorem JO {H:Type} {enc:TypeId × Value->H} {W:World} {r:Reach} {b0:Nat} {v:Value} {d:DataW H} {ps:List MemPlace} (hval:Value.okWide Tryz.prog W r b0 26 v) (hd:DataW.Trod enc Tryz.prog W 0 (fun _=>true) true 26 v d ps) :
 ∃q:NX,v=.agg (Zl q).toArray/\NK q W:=by
 obtain⟨cs,rfl,hsz⟩:=okWide_struct (P:=Tryz.prog) Tryz.underlying26 hval;obtain ⟨fuel,hf⟩:=hd;obtain ⟨q,hq,hk⟩:=JQ _ _ _ hf;refine ⟨q,?_,hk⟩;have h9:cs.toList=Zl q:=hq;rw [←h9]
theorem Gw {H:Type} {enc:TypeId × Value->H} {W:World} {r:Reach} {b0:Nat} {v:Value} {d:DataW H} {ps:List MemPlace} (hval:Value.okWide Tryz.prog W r b0 27 v) (hd:DataW.Trod enc Tryz.prog W 0 (fun _=>true) true 27 v d ps) :
 ∃a b,v=.agg #[.int .i64 a,.int .i64 b]/\uY a/\uY b:=by
 obtain⟨zs,rfl,hl,hw⟩:=JR (P:=Tryz.prog) Tryz.underlying27 Tryz.underlying3 (by kernel_rfl) (by kernel_rfl) hval hd;obtain ⟨a,b,rfl⟩:=Pv hl;exact ⟨a,b,rfl,iP (hw a (by simp)),iP (hw b (by simp))⟩
theorem oG (os:Os) (started:os.Started) (H:Type) (enc:TypeId × Value->H) :
 ReturnsInHanded {} Tryz.checked os 3 .any (fun w args=>(Rows.topTrustedSpec.pre enc Tryz.prog Tryz.f3 Rows.topTrustedRow.domain false w args/\laidMetH Tryz.prog Rows.topTrustedRow.laid w)/\sizedMet enc Tryz.prog Tryz.f3 (OpenSpec.ofChange Rows.topTrustedSpec) false w args)
  (Rows.topTrustedSpec.post enc Tryz.prog Tryz.f3 false true false false):=by
 refine returnsInHanded_of_change_and (C:=Tryz.checked) (X:=fun w _=>laidMetH Tryz.prog Rows.topTrustedRow.laid w) (fun _ _ _ hh h=>h.of_heap hh) own started (by kernel_rfl) Tryz.func3
  (ChangeSpec.witness_shaped (enc:=enc) (C:=Tryz.checked) (os:=os) (X:=fun w _=>laidMetH Tryz.prog Rows.topTrustedRow.laid w) false (World.laidAll Tryz.prog os Rows.topTrustedRow.laid) #[.agg #[.int .i64 0,.int .i64 0,.int .i64 0,.int .i64 0,.int .i64 0,.slice none 0 0,.int .i64 0,.int .i64 0,.int .i64 0,.int .i64 0,.int .i64 0,.int .i64 0,.int .i64 0,.int .i64 0],.int .i64 0,.int .i64 0,.agg #[.int .i64 0,.int .i64 0]] 8 (World.laidAll_os _ _ _)
   (World.shaped_of_ZipB (by kernel_rfl) (by kernel_rfl)) (by kernel_rfl) (by kernel_rfl) (by kernel_rfl) (vI os _)) ?_
 intro W base args ds gs before hval0 hW _ _ hL _;have hval:∀(j:Nat) t v,Tryz.f3.params[j]? = some t->args[j]? = some v->Value.okWide Tryz.prog W .any base t v:=hval0
 have hW':=hW;have hlt:=hW.lt;obtain ⟨p,q,hA0,hV,rfl,_,_⟩:=hW;have hA:DataW.TrodAll enc Tryz.prog W 0 (fun _=>true) true Tryz.f3.params.toList args.toList ds p:=hA0;obtain ⟨rfl,rfl⟩:=trodVars_none hV;have V5:=OH (by kernel_rfl) hA (fun x hx=>hlt x (by simp[hx]));rw [Tryz.params3]at hA hval;obtain ⟨v0,vs0,d0,ds0,p0,q0,hargs,rfl,rfl,h0,hA⟩:=trodAll_cons hA;obtain ⟨v1,vs1,d1,ds1,p1,q1,rfl,rfl,rfl,h1,hA⟩:=trodAll_cons hA;obtain ⟨v2,vs2,d2,ds2,p2,q2,rfl,rfl,rfl,h2,hA⟩:=trodAll_cons hA;obtain ⟨v3,vs3,d3,ds3,p3,q3,rfl,rfl,rfl,h3,hA⟩:=trodAll_cons hA;obtain ⟨rfl,rfl,rfl⟩:=trodAll_nil hA;obtain rfl:args=#[v0,v1,v2,v3]:=by cases args;simp_all
 obtain⟨⟨x,xv⟩,rfl,hx,A,c,hv,hAt,hle,hcm⟩:=JO (hval 0 26 v0 rfl rfl) h0;obtain ⟨z1,rfl,rfl,rfl,w1⟩:=open_int Tryz.underlying3 (hval 1 3 v1 rfl rfl) h1;obtain ⟨z2,rfl,rfl,rfl,w2⟩:=open_int Tryz.underlying3 (hval 2 3 v2 rfl rfl) h2;obtain ⟨za,zb,rfl,wa,wb⟩:=Gw (hval 3 27 v3 rfl rfl) h3;dsimp only at hv hx hAt hle;subst hv;refine (sK x A c z1 z2 za zb W hAt hle hcm hx (iP w1) (iP w2) wa wb (P9 hL) (OX hL)).mono fun e W' ⟨he,hb⟩=>?_
 subst he;exact ⟨_,rfl,_,_,_,[],_,[],hW',trodAll_mk1 (shut_bool Tryz.underlying4 _),V5 W' hb,rfl,hb.frame _,fun h=>by cases h⟩
end Go.Proofs.YtohgjenaclfegaaGreatDoor

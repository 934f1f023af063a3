/- Written by shrink.py from texts of ours: comments struck, what is not reached left out, names short. -/
import Derived.Test.YtcpfebjhnbjfbaaGreatDoorTo
set_option linter.unusedSimpArgs false
set_option linter.unusedVariables false
set_option linter.unusedSectionVars false
set_option linter.defProp false
set_option maxRecDepth 100000
open Go.Proofs.Tryz
namespace Go.Proofs.YtcpfebjhnbjfbaaGreatDoor.laws
open Go Go.Am Go.ChangeShapes Go.WideShapes Go.ChangeAt Go.RowKit
theorem Bpw (D:Aeo)(H:Type)(enc:TypeId×Go.Value→H)(W:World)(base:Nat)(args:Array Go.Value)(ds gs:List (DataW H))(z:List MemPlace)
  (A:∀(j:Nat) t v,Tryz.f6.params[j]?=some t→args[j]?=some v→Go.Value.okWide prog W .any base t v)
  (U:DataW.Whole enc prog Tryz.f6.params.toList Rows.airspaceNamesSpec.vars false W args.toList ds gs z) (hk:Rows.uptoSmall H (ds++gs)=true) (hL:laidMetH prog Rows.airspaceNamesUptoRow.laid W):
  Calls prog 6 args W λe W'=>∃v,e=.returned v∧Rows.airspaceNamesSpec.post enc prog Tryz.f6 false true false false W args v W':=by
 refine Bcs (tb:=4) U A46 (by rw[Tryz.params6];exact(DV.2 ⟨B67,(λ_ h=>(BU h).elim)⟩)) rfl (by kernel_rfl) underlying4 (λds V=>?_) ?_
 ·rw[Tryz.params6]at V;match ds,V with
  |[x0],_=>rfl
 obtain⟨p,q,X,hV,rfl,hfz,aa⟩:=U
 rw[Tryz.params6]at X A
 obtain⟨Y,ab,Z,ac,p0,q0,O,rfl,rfl,h0,r0⟩:=trodAll_cons X
 obtain⟨rfl,rfl,rfl⟩:=trodAll_nil r0
 obtain rfl:args=#[Y]:=by cases args;simp_all
 obtain⟨rfl,rfl⟩:=trodVars_none hV
 have hb:Rows.uptoBulkAll [Z]≤1048576:=DK hk
 have R:=Bd9 (H:=H)
 simp only[R.cons,R.nil]at hb
 obtain⟨m0,h0⟩:=h0
 obtain⟨S,l0,g0,b0⟩:=B6j enc W _ _ m0 _ _ _ _ R h0 (by simp only[Bj];omega)
 replace b0:Ahm.bulk S≤Rows.uptoBulk Z:=b0
 obtain⟨c0,rfl,_⟩:=okWide_struct underlying31 (A 0 31 Y rfl rfl)
 have e0:=B17 l0
 exact Bbq (Bp0 S) (Bg4 hL) (D S g0 (by omega)) (IM e0)
theorem Byd (R:Aeo) (os:Os) (A:os.Started) (H:Type) (enc:TypeId×Go.Value→H) (F:Stop.Interp):
  ReturnsInHanded {} Tryz.checked os 6 .any ((Rows.OpenSpec.upto Rows.airspaceNamesSpec).preRow enc prog Tryz.f6 Rows.airspaceNamesUptoRow.domain false Rows.airspaceNamesUptoRow.laid) (((Rows.OpenSpec.upto Rows.airspaceNamesSpec).at F).post enc prog Tryz.f6 false true false false):=by
 have U:∃z,DataW.whole enc prog ((World.doorLaid prog 132 os).forCall (λ_ _=>0) ⟨#[],#[.agg #[.slice none 0 0,.slice none 0 0,.slice none 0 0,.slice none 0 0,.slice none 0 0,.slice none 0 0,.slice none 0 0,.slice none 0 0]],[]⟩).memory Tryz.f6.params.toList Rows.airspaceNamesSpec.vars false #[.agg #[.slice none 0 0,.slice none 0 0,.slice none 0 0,.slice none 0 0,.slice none 0 0,.slice none 0 0,.slice none 0 0,.slice none 0 0]].toList 8=some ([.agg [.nil,.nil,.nil,.nil,.nil,.nil,.nil,.nil]],[],z):=⟨[],by kernel_rfl⟩
 obtain⟨z,U⟩:=U
 refine returnsInHanded_of_row (C:=Tryz.checked) (s:=Rows.OpenSpec.upto Rows.airspaceNamesSpec) own A (by kernel_rfl) func6
  (Ap2 (enc:=enc) (C:=Tryz.checked) false (World.doorLaid prog 132 os) #[.agg #[.slice none 0 0,.slice none 0 0,.slice none 0 0,.slice none 0 0,.slice none 0 0,.slice none 0 0,.slice none 0 0,.slice none 0 0]] rfl (World.shaped_of_RefB (by kernel_rfl) (by kernel_rfl)) (by kernel_rfl) (OpenSpec.preRow_of_cond 8 U (by kernel_rfl) (λk hk=>by cases hk;kernel_rfl) (by kernel_rfl) (laidMetH_of_parts3 (fuel:=8) (laidMet_of_run' 8 (by kernel_rfl) (by kernel_rfl)) (by kernel_rfl) (by kernel_rfl)))) ?_
 intro W base args ds gs D S V _ O _ X _ _
 exact Bpw R H enc W base args ds gs D S V (O _ rfl) X
theorem jand {a b:Bool}(z:a=true)(A:b=true):(a&&b)=true:=by rw[z,A];rfl
theorem B0x:mapsRowed prog=true:=by kernel_rfl
theorem B00:(Rows.airspaceNamesUptoRow.inPlace==prog.inPlace 6)=true:=by kernel_rfl
theorem Bz8:(Rows.airspaceNamesUptoRow.unfollowed==prog.unfollowed 6)=true:=by kernel_rfl
theorem Bzz:(Rows.airspaceNamesUptoRow.recurses==prog.recurses 6)=true:=by kernel_rfl
theorem B0g:(Rows.airspaceNamesUptoRow.named==prog.varsNamed 6)=true:=by kernel_rfl
theorem B0s:(Rows.airspaceNamesUptoRow.plainKeys==prog.plainKeys)=true:=by kernel_rfl
theorem Bz3:prog.stopsHeard=true:=by kernel_rfl
theorem B0d:prog.mayEnter=true:=by kernel_rfl
theorem Bz0:(Rows.airspaceNamesUptoRow.lifted==prog.liftsFinal)=true:=by kernel_rfl
theorem Bzu:(prog.make==some Rows.airspaceNamesUptoRow.make)=true:=by kernel_rfl
theorem Byx:joinedFacts prog 6 Tryz.f6 (Rows.OpenSpec.upto Rows.airspaceNamesSpec).bare Rows.airspaceNamesUptoRow=true:=by unfold joinedFacts;exact jand (jand (jand (jand (jand (jand (jand (jand (jand (jand (jand (jand (jand (jand (jand (jand (jand (jand (jand (jand (jand (jand (jand (jand (jand (jand (jand (jand (jand (jand (jand (by kernel_rfl) A46) B0x) (by kernel_rfl)) (by kernel_rfl)) (by kernel_rfl)) (by kernel_rfl)) (by kernel_rfl)) (by kernel_rfl)) B00) Bz8) Bzz) B0g) (by kernel_rfl)) (by kernel_rfl)) (by kernel_rfl)) (by kernel_rfl)) (by kernel_rfl)) (by kernel_rfl)) (by kernel_rfl)) (by kernel_rfl)) (by kernel_rfl)) B0s) (by kernel_rfl)) Bz3) B0d) Bz0) Bzu) (by kernel_rfl)) (by kernel_rfl)) (by kernel_rfl)) (by kernel_rfl)
theorem B2p:prog.mainIs=some (Rows.airspaceNamesUptoCard.stood.harness.1,Rows.airspaceNamesUptoCard.stood.harness.2.toList):=by kernel_rfl
theorem B11:Rows.airspaceNamesUptoCard.stood.looks=prog.looks []:=by kernel_rfl
theorem B2u:false=Rows.airspaceNamesUptoRow.goesBy prog:=by kernel_rfl
theorem B0e:Tryz.f6.isInstance prog Rows.airspaceNamesUptoRow.origin Rows.airspaceNamesUptoRow.targs:=DK (by kernel_rfl)
theorem Bsm (A:Aeo):Rows.AirspaceNamesUptoSaid:=
 OpenClaim.holds_of_cond 6 Tryz.f6 rfl rfl rfl rfl rfl rfl rfl ⟨rfl,rfl,rfl,rfl,rfl⟩ rfl rfl rfl rfl rfl (by kernel_rfl) func6 Byx
  B0e (by unfold Func.isWrapper;first|(rw[if_pos (by decide+kernel)];kernel_rfl)|(rw[if_neg (by decide+kernel)];exact⟨rfl,rfl⟩))
  (λos z H enc _ F=>by rw[OpenClaim.pre_eq_preRow];exact Byd A os z H enc F)
theorem B0n (z:Aeo):Rows.AirspaceNamesUptoCardSaid:=
 Claim7.holds_tied_plain_at .later [] _ _ _ _ (Bsm z) (λ_ h=>by cases h) (by kernel_rfl) (λ_ h=>by cases h) airspaceNamesUpto_row_tie rfl ⟨rfl,rfl⟩ B2p rfl
  (λf fn hf A=>by
   obtain rfl:f=6:=AT ((show prog.funcNamed Rows.airspaceNamesUptoRow.func=some 6 by kernel_rfl).symm.trans hf)|>.symm;obtain rfl:fn=Tryz.f6:=(AT (func6.symm.trans A)).symm;refine⟨B11,λj t ht=>?_⟩;rw[Tryz.params6]at ht;exact match j,ht with
    |0,h=>by cases h;exact(show prog.wantsStandIn 31=false by kernel_rfl)
    |_+1,h=>by cases h)
  B2u
end Go.Proofs.YtcpfebjhnbjfbaaGreatDoor.laws

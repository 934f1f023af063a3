import Derived.Test.YtcpfebjhnbjfbaaGreatDoorRm
set_option linter.all false
set_option maxRecDepth 100000
open Go.Proofs.Tryz
namespace Go.Proofs.YtcpfebjhnbjfbaaGreatDoor.laws
open Go Go.Am Go.ChangeShapes Go.WideShapes Go.ChangeAt Go.RowKit
theorem Bon (D:Ac7)(H:Type)(enc:TypeId×Go.Value→H)(W:World)(base:Nat)(args:Array Go.Value)(ds gs:List (DataW H))(z:List MemPlace)
  (A:∀(j:Nat) t v,Tryz.f4.params[j]?=some t→args[j]?=some v→Go.Value.okWide prog W .any base t v)
  (T:DataW.Whole enc prog Tryz.f4.params.toList Rows.airspaceSpacesSpec.vars false W args.toList ds gs z) (hk:Rows.uptoSmall H (ds++gs)=true) (Z:laidMetH prog Rows.airspaceSpacesUptoRow.laid W):
  Calls prog 4 args W λe W'=>∃v,e=.returned v∧Rows.airspaceSpacesSpec.post enc prog Tryz.f4 false true false false W args v W':=by
 refine Bcs (tb:=4) T A46 (by rw[Tryz.params4];exact(DV.2 ⟨rd9,(λ_ h=>(BU h).elim)⟩)) rfl (by kernel_rfl) underlying4 (λds U=>?_) ?_
 ·rw[Tryz.params4]at U;match ds,U with
  |[x0],_=>rfl
 obtain⟨p,q,V,hV,rfl,hfz,aa⟩:=T
 rw[Tryz.params4]at V A
 obtain⟨X,ab,Y,ac,p0,q0,O,rfl,rfl,h0,r0⟩:=trodAll_cons V
 obtain⟨rfl,rfl,rfl⟩:=trodAll_nil r0
 obtain rfl:args=#[X]:=by cases args;simp_all
 obtain⟨rfl,rfl⟩:=trodVars_none hV
 have hb:Rows.uptoBulkAll [Y]≤1048576:=DK hk
 have R:=Bd9 (H:=H)
 simp only[R.cons,R.nil]at hb
 obtain⟨m0,h0⟩:=h0
 obtain⟨S,l0,g0,b0⟩:=on9 enc W _ _ m0 _ _ _ _ R h0 (by simp only[Bj];omega)
 replace b0:A1i.bulk S≤Rows.uptoBulk Y:=b0
 have e0:=Bif l0 (A2w underlying9 (by simp) (by simp) (A 0 9 X rfl rfl))
 exact Bbq (Bov S) (Bg4 Z) (D S g0 (by omega)) (IM e0)
theorem Bv7 (R:Ac7) (os:Os) (A:os.Started) (H:Type) (enc:TypeId×Go.Value→H) (F:Stop.Interp):
  ReturnsInHanded {} Tryz.checked os 4 .any ((Rows.OpenSpec.upto Rows.airspaceSpacesSpec).preRow enc prog Tryz.f4 Rows.airspaceSpacesUptoRow.domain false Rows.airspaceSpacesUptoRow.laid) (((Rows.OpenSpec.upto Rows.airspaceSpacesSpec).at F).post enc prog Tryz.f4 false true false false):=by
 have T:∃z,DataW.whole enc prog ((World.doorLaid prog 132 os).forCall (λ_ _=>0) ⟨#[],#[.string .empty],[]⟩).memory Tryz.f4.params.toList Rows.airspaceSpacesSpec.vars false #[.string .empty].toList 8=some ([.lit (.string [])],[],z):=⟨[],by kernel_rfl⟩
 obtain⟨z,T⟩:=T
 refine returnsInHanded_of_row (C:=Tryz.checked) (s:=Rows.OpenSpec.upto Rows.airspaceSpacesSpec) own A (by kernel_rfl) func4
  (Ap2 (enc:=enc) (C:=Tryz.checked) false (World.doorLaid prog 132 os) #[.string .empty] rfl (World.shaped_of_RefB (by kernel_rfl) (by kernel_rfl)) (by kernel_rfl) (OpenSpec.preRow_of_cond 8 T (by kernel_rfl) (λk hk=>by cases hk;kernel_rfl) (by kernel_rfl) (laidMetH_of_parts3 (fuel:=8) (laidMet_of_run' 8 (by kernel_rfl) (by kernel_rfl)) (by kernel_rfl) (by kernel_rfl)))) ?_
 intro W base args ds gs D S U _ O _ V _ _
 exact Bon R H enc W base args ds gs D S U (O _ rfl) V
theorem jand {a b:Bool}(z:a=true)(A:b=true):(a&&b)=true:=by rw[z,A];rfl
theorem B0p:mapsRowed prog=true:=by kernel_rfl
theorem B0c:(Rows.airspaceSpacesUptoRow.inPlace==prog.inPlace 4)=true:=by kernel_rfl
theorem Bzj:(Rows.airspaceSpacesUptoRow.unfollowed==prog.unfollowed 4)=true:=by kernel_rfl
theorem Bzs:(Rows.airspaceSpacesUptoRow.recurses==prog.recurses 4)=true:=by kernel_rfl
theorem Bzr:(Rows.airspaceSpacesUptoRow.named==prog.varsNamed 4)=true:=by kernel_rfl
theorem By4:(Rows.airspaceSpacesUptoRow.plainKeys==prog.plainKeys)=true:=by kernel_rfl
theorem Bzm:prog.stopsHeard=true:=by kernel_rfl
theorem Bza:prog.mayEnter=true:=by kernel_rfl
theorem Bze:(Rows.airspaceSpacesUptoRow.lifted==prog.liftsFinal)=true:=by kernel_rfl
theorem Bzi:(prog.make==some Rows.airspaceSpacesUptoRow.make)=true:=by kernel_rfl
theorem Bte:joinedFacts prog 4 Tryz.f4 (Rows.OpenSpec.upto Rows.airspaceSpacesSpec).bare Rows.airspaceSpacesUptoRow=true:=by unfold joinedFacts;exact jand (jand (jand (jand (jand (jand (jand (jand (jand (jand (jand (jand (jand (jand (jand (jand (jand (jand (jand (jand (jand (jand (jand (jand (jand (jand (jand (jand (jand (jand (jand (by kernel_rfl) A46) B0p) (by kernel_rfl)) (by kernel_rfl)) (by kernel_rfl)) (by kernel_rfl)) (by kernel_rfl)) (by kernel_rfl)) B0c) Bzj) Bzs) Bzr) (by kernel_rfl)) (by kernel_rfl)) (by kernel_rfl)) (by kernel_rfl)) (by kernel_rfl)) (by kernel_rfl)) (by kernel_rfl)) (by kernel_rfl)) (by kernel_rfl)) By4) (by kernel_rfl)) Bzm) Bza) Bze) Bzi) (by kernel_rfl)) (by kernel_rfl)) (by kernel_rfl)) (by kernel_rfl)
theorem B05:prog.mainIs=some (Rows.airspaceSpacesUptoCard.stood.harness.1,Rows.airspaceSpacesUptoCard.stood.harness.2.toList):=by kernel_rfl
theorem B07:Rows.airspaceSpacesUptoCard.stood.looks=prog.looks []:=by kernel_rfl
theorem B01:false=Rows.airspaceSpacesUptoRow.goesBy prog:=by kernel_rfl
theorem Bzl:Tryz.f4.isInstance prog Rows.airspaceSpacesUptoRow.origin Rows.airspaceSpacesUptoRow.targs:=DK (by kernel_rfl)
theorem Bqo (A:Ac7):Rows.AirspaceSpacesUptoSaid:=
 OpenClaim.holds_of_cond 4 Tryz.f4 rfl rfl rfl rfl rfl rfl rfl ⟨rfl,rfl,rfl,rfl,rfl⟩ rfl rfl rfl rfl rfl (by kernel_rfl) func4 Bte
  Bzl (by unfold Func.isWrapper;first|(rw[if_pos (by decide+kernel)];kernel_rfl)|(rw[if_neg (by decide+kernel)];exact⟨rfl,rfl⟩))
  (λos z H enc _ F=>by rw[OpenClaim.pre_eq_preRow];exact Bv7 A os z H enc F)
theorem Bzp (z:Ac7):Rows.AirspaceSpacesUptoCardSaid:=
 Claim7.holds_tied_plain_at .later [] _ _ _ _ (Bqo z) (λ_ h=>by cases h) (by kernel_rfl) (λ_ h=>by cases h) airspaceSpacesUpto_row_tie rfl ⟨rfl,rfl⟩ B05 rfl
  (λf fn hf A=>by
   obtain rfl:f=4:=AT ((show prog.funcNamed Rows.airspaceSpacesUptoRow.func=some 4 by kernel_rfl).symm.trans hf)|>.symm;obtain rfl:fn=Tryz.f4:=(AT (func4.symm.trans A)).symm;refine⟨B07,λj t ht=>?_⟩;rw[Tryz.params4]at ht;exact match j,ht with
    |0,h=>by cases h;exact(show prog.wantsStandIn 9=false by kernel_rfl)
    |_+1,h=>by cases h)
  B01
end Go.Proofs.YtcpfebjhnbjfbaaGreatDoor.laws

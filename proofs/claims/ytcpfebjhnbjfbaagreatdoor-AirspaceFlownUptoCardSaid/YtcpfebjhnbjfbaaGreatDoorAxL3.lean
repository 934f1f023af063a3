/- Written by shrink.py from texts of ours: comments struck, what is not reached left out, names short. -/
import Derived.Test.YtcpfebjhnbjfbaaGreatDoorTl
set_option linter.unusedSimpArgs false
set_option linter.unusedVariables false
set_option linter.unusedSectionVars false
set_option linter.defProp false
set_option maxRecDepth 100000
open Go.Proofs.Tryz
namespace Go.Proofs.YtcpfebjhnbjfbaaGreatDoor.laws
open Go Go.Am Go.ChangeShapes Go.WideShapes Go.ChangeAt Go.RowKit
theorem Bqw (D:Aeg)(H:Type)(enc:TypeId×Go.Value→H)(W:World)(base:Nat)(args:Array Go.Value)(ds gs:List (DataW H))(z:List MemPlace)
  (A:∀(j:Nat) t v,Tryz.f3.params[j]?=some t→args[j]?=some v→Go.Value.okWide prog W .any base t v)
  (U:DataW.Whole enc prog Tryz.f3.params.toList Rows.airspaceFlownSpec.vars false W args.toList ds gs z) (hk:Rows.uptoSmall H (ds++gs)=true) (hL:laidMetH prog Rows.airspaceFlownUptoRow.laid W):
  Calls prog 3 args W λe W'=>∃v,e=.returned v∧Rows.airspaceFlownSpec.post enc prog Tryz.f3 false true false false W args v W':=by
 refine Bcs (tb:=4) U A46 (by rw[Tryz.params3];exact(DV.2 ⟨B67,(λ_ h=>(BU h).elim)⟩)) rfl (by kernel_rfl) underlying4 (λds V=>?_) ?_
 ·rw[Tryz.params3]at V;match ds,V with
  |[x0],_=>rfl
 obtain⟨p,q,X,hV,rfl,hfz,aa⟩:=U
 rw[Tryz.params3]at X A
 obtain⟨Y,ab,Z,ac,p0,q0,O,rfl,rfl,h0,r0⟩:=trodAll_cons X
 obtain⟨rfl,rfl,rfl⟩:=trodAll_nil r0
 obtain rfl:args=#[Y]:=by cases args;simp_all
 obtain⟨rfl,rfl⟩:=trodVars_none hV
 have hb:Rows.uptoBulkAll [Z]≤1048576:=DK hk
 have R:=Bd9 (H:=H)
 simp only[R.cons,R.nil]at hb
 obtain⟨m0,h0⟩:=h0
 obtain⟨S,l0,g0,b0⟩:=B6j enc W _ _ m0 _ _ _ _ R h0 (by simp only[Bj];omega)
 replace b0:Ahm.bulk S≤Rows.uptoBulk Z:=b0
 obtain⟨c0,rfl,_⟩:=okWide_struct underlying31 (A 0 31 Y rfl rfl)
 have e0:=B17 l0
 exact Bbq (Bpp S) (Bg4 hL) (D S g0 (by omega)) (IM e0)
theorem By1 (R:Aeg) (os:Os) (A:os.Started) (H:Type) (enc:TypeId×Go.Value→H) (F:Stop.Interp):
  ReturnsInHanded {} Tryz.checked os 3 .any ((Rows.OpenSpec.upto Rows.airspaceFlownSpec).preRow enc prog Tryz.f3 Rows.airspaceFlownUptoRow.domain false Rows.airspaceFlownUptoRow.laid) (((Rows.OpenSpec.upto Rows.airspaceFlownSpec).at F).post enc prog Tryz.f3 false true false false):=by
 have U:∃z,DataW.whole enc prog ((World.doorLaid prog 132 os).forCall (λ_ _=>0) ⟨#[],#[.agg #[.slice none 0 0,.slice none 0 0,.slice none 0 0,.slice none 0 0,.slice none 0 0,.slice none 0 0,.slice none 0 0,.slice none 0 0]],[]⟩).memory Tryz.f3.params.toList Rows.airspaceFlownSpec.vars false #[.agg #[.slice none 0 0,.slice none 0 0,.slice none 0 0,.slice none 0 0,.slice none 0 0,.slice none 0 0,.slice none 0 0,.slice none 0 0]].toList 8=some ([.agg [.nil,.nil,.nil,.nil,.nil,.nil,.nil,.nil]],[],z):=⟨[],by kernel_rfl⟩
 obtain⟨z,U⟩:=U
 refine returnsInHanded_of_row (C:=Tryz.checked) (s:=Rows.OpenSpec.upto Rows.airspaceFlownSpec) own A (by kernel_rfl) func3
  (Ap2 (enc:=enc) (C:=Tryz.checked) false (World.doorLaid prog 132 os) #[.agg #[.slice none 0 0,.slice none 0 0,.slice none 0 0,.slice none 0 0,.slice none 0 0,.slice none 0 0,.slice none 0 0,.slice none 0 0]] rfl (World.shaped_of_RefB (by kernel_rfl) (by kernel_rfl)) (by kernel_rfl) (OpenSpec.preRow_of_cond 8 U (by kernel_rfl) (λk hk=>by cases hk;kernel_rfl) (by kernel_rfl) (laidMetH_of_parts3 (fuel:=8) (laidMet_of_run' 8 (by kernel_rfl) (by kernel_rfl)) (by kernel_rfl) (by kernel_rfl)))) ?_
 intro W base args ds gs D S V _ O _ X _ _
 exact Bqw R H enc W base args ds gs D S V (O _ rfl) X
theorem jand {a b:Bool}(z:a=true)(A:b=true):(a&&b)=true:=by rw[z,A];rfl
theorem B0y:mapsRowed prog=true:=by kernel_rfl
theorem B0v:(Rows.airspaceFlownUptoRow.inPlace==prog.inPlace 3)=true:=by kernel_rfl
theorem Bz2:(Rows.airspaceFlownUptoRow.unfollowed==prog.unfollowed 3)=true:=by kernel_rfl
theorem B0k:(Rows.airspaceFlownUptoRow.recurses==prog.recurses 3)=true:=by kernel_rfl
theorem B0h:(Rows.airspaceFlownUptoRow.named==prog.varsNamed 3)=true:=by kernel_rfl
theorem B0o:(Rows.airspaceFlownUptoRow.plainKeys==prog.plainKeys)=true:=by kernel_rfl
theorem B0b:prog.stopsHeard=true:=by kernel_rfl
theorem Bz4:prog.mayEnter=true:=by kernel_rfl
theorem Bz9:(Rows.airspaceFlownUptoRow.lifted==prog.liftsFinal)=true:=by kernel_rfl
theorem B0l:(prog.make==some Rows.airspaceFlownUptoRow.make)=true:=by kernel_rfl
theorem By0:joinedFacts prog 3 Tryz.f3 (Rows.OpenSpec.upto Rows.airspaceFlownSpec).bare Rows.airspaceFlownUptoRow=true:=by unfold joinedFacts;exact jand (jand (jand (jand (jand (jand (jand (jand (jand (jand (jand (jand (jand (jand (jand (jand (jand (jand (jand (jand (jand (jand (jand (jand (jand (jand (jand (jand (jand (jand (jand (by kernel_rfl) A46) B0y) (by kernel_rfl)) (by kernel_rfl)) (by kernel_rfl)) (by kernel_rfl)) (by kernel_rfl)) (by kernel_rfl)) B0v) Bz2) B0k) B0h) (by kernel_rfl)) (by kernel_rfl)) (by kernel_rfl)) (by kernel_rfl)) (by kernel_rfl)) (by kernel_rfl)) (by kernel_rfl)) (by kernel_rfl)) (by kernel_rfl)) B0o) (by kernel_rfl)) B0b) Bz4) Bz9) B0l) (by kernel_rfl)) (by kernel_rfl)) (by kernel_rfl)) (by kernel_rfl)
theorem B13:prog.mainIs=some (Rows.airspaceFlownUptoCard.stood.harness.1,Rows.airspaceFlownUptoCard.stood.harness.2.toList):=by kernel_rfl
theorem B1x:Rows.airspaceFlownUptoCard.stood.looks=prog.looks []:=by kernel_rfl
theorem B1o:false=Rows.airspaceFlownUptoRow.goesBy prog:=by kernel_rfl
theorem B0a:Tryz.f3.isInstance prog Rows.airspaceFlownUptoRow.origin Rows.airspaceFlownUptoRow.targs:=DK (by kernel_rfl)
theorem Btr (A:Aeg):Rows.AirspaceFlownUptoSaid:=
 OpenClaim.holds_of_cond 3 Tryz.f3 rfl rfl rfl rfl rfl rfl rfl ⟨rfl,rfl,rfl,rfl,rfl⟩ rfl rfl rfl rfl rfl (by kernel_rfl) func3 By0
  B0a (by unfold Func.isWrapper;first|(rw[if_pos (by decide+kernel)];kernel_rfl)|(rw[if_neg (by decide+kernel)];exact⟨rfl,rfl⟩))
  (λos z H enc _ F=>by rw[OpenClaim.pre_eq_preRow];exact By1 A os z H enc F)
theorem Bz6 (z:Aeg):Rows.AirspaceFlownUptoCardSaid:=
 Claim7.holds_tied_plain_at .later [] _ _ _ _ (Btr z) (λ_ h=>by cases h) (by kernel_rfl) (λ_ h=>by cases h) airspaceFlownUpto_row_tie rfl ⟨rfl,rfl⟩ B13 rfl
  (λf fn hf A=>by
   obtain rfl:f=3:=AT ((show prog.funcNamed Rows.airspaceFlownUptoRow.func=some 3 by kernel_rfl).symm.trans hf)|>.symm;obtain rfl:fn=Tryz.f3:=(AT (func3.symm.trans A)).symm;refine⟨B1x,λj t ht=>?_⟩;rw[Tryz.params3]at ht;exact match j,ht with
    |0,h=>by cases h;exact(show prog.wantsStandIn 31=false by kernel_rfl)
    |_+1,h=>by cases h)
  B1o
end Go.Proofs.YtcpfebjhnbjfbaaGreatDoor.laws

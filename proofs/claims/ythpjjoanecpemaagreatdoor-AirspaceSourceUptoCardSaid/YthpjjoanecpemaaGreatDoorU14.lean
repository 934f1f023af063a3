/- Written by shrink.py from texts of ours: comments struck, what is not reached left out, names short. -/
import Derived.Test.YthpjjoanecpemaaGreatDoorU13
set_option linter.unusedSimpArgs false
set_option linter.unusedVariables false
set_option linter.unusedSectionVars false
set_option linter.defProp false
set_option maxRecDepth 100000
open Go.Proofs.Tryz
namespace Go.Proofs.YthpjjoanecpemaaGreatDoor.laws
open Go Go.Am Go.ChangeShapes Go.WideShapes Go.ChangeAt Go.RowKit
theorem Akn (D:O3)(H:Type)(enc:TypeId×Go.Value→H)(W:World)(base:Nat)(args:Array Go.Value)(ds gs:List (DataW H))(z:List MemPlace)
  (A:∀(j:Nat) t v,Tryz.f3.params[j]?=some t→args[j]?=some v→Go.Value.okWide prog W .any base t v)
  (T:DataW.Whole enc prog Tryz.f3.params.toList Rows.airspaceSourceSpec.vars false W args.toList ds gs z) (hk:Rows.uptoSmall H (ds++gs)=true) (Z:laidMetH prog Rows.airspaceSourceUptoRow.laid W):
  Calls prog 3 args W λe W'=>∃v,e=.returned v∧Rows.airspaceSourceSpec.post enc prog Tryz.f3 false true false false W args v W':=by
 refine Bcs (tb:=4) T A46 (by rw[Tryz.params3];exact(List.forall_mem_cons.2 ⟨rd9,(λ_ h=>(CK h).elim)⟩)) rfl (by kernel_rfl) underlying4 (λds U=>?_) ?_
 ·rw[Tryz.params3]at U;match ds,U with
  |[x0],_=>rfl
 obtain⟨p,q,V,hV,rfl,hfz,aa⟩:=T
 rw[Tryz.params3]at V A
 obtain⟨X,ab,Y,ac,p0,q0,O,rfl,rfl,h0,r0⟩:=trodAll_cons V
 obtain⟨rfl,rfl,rfl⟩:=trodAll_nil r0
 obtain rfl:args=#[X]:=by cases args;simp_all
 obtain⟨rfl,rfl⟩:=trodVars_none hV
 have hb:Rows.uptoBulkAll [Y]≤1048576:=of_decide_eq_true hk
 have R:=Bd9 (H:=H)
 simp only[R.cons,R.nil]at hb
 obtain⟨m0,h0⟩:=h0
 obtain⟨S,l0,g0,b0⟩:=on9 enc W _ _ m0 _ _ _ _ R h0 (by simp only[Bj];omega)
 replace b0:A1i.bulk S≤Rows.uptoBulk Y:=b0
 have e0:=Bif l0 (A2w underlying9 (by simp) (by simp) (A 0 9 X rfl rfl))
 exact Bbq (Akq S) (Bg4 Z) (D S g0 (by omega)) (LR.one e0)
theorem Amh (R:O3) (os:Os) (A:os.Started) (H:Type) (enc:TypeId×Go.Value→H) (F:Stop.Interp):
  ReturnsInHanded {} Tryz.checked os 3 .any ((Rows.OpenSpec.upto Rows.airspaceSourceSpec).preRow enc prog Tryz.f3 Rows.airspaceSourceUptoRow.domain false Rows.airspaceSourceUptoRow.laid) (((Rows.OpenSpec.upto Rows.airspaceSourceSpec).at F).post enc prog Tryz.f3 false true false false):=by
 have T:∃z,DataW.whole enc prog ((World.doorLaid prog 132 os).forCall (λ_ _=>0) ⟨#[],#[.string .empty],[]⟩).memory Tryz.f3.params.toList Rows.airspaceSourceSpec.vars false #[.string .empty].toList 8=some ([.lit (.string [])],[],z):=⟨[],by kernel_rfl⟩
 obtain⟨z,T⟩:=T
 refine returnsInHanded_of_row (C:=Tryz.checked) (s:=Rows.OpenSpec.upto Rows.airspaceSourceSpec) own A (by kernel_rfl) func3
  (Ap2 (enc:=enc) (C:=Tryz.checked) false (World.doorLaid prog 132 os) #[.string .empty] rfl (World.shaped_of_RefB (by kernel_rfl) (by kernel_rfl)) (by kernel_rfl) (OpenSpec.preRow_of_cond 8 T (by kernel_rfl) (λk hk=>by cases hk;kernel_rfl) (by kernel_rfl) (laidMetH_of_parts3 (fuel:=8) (laidMet_of_run' 8 (by kernel_rfl) (by kernel_rfl)) (by kernel_rfl) (by kernel_rfl)))) ?_
 intro W base args ds gs D S U _ O _ V _ _
 exact Akn R H enc W base args ds gs D S U (O _ rfl) V
theorem Kt {a b:Bool}(z:a=true)(A:b=true):(a&&b)=true:=by rw[z,A];rfl
theorem Aq8:mapsRowed prog=true:=by kernel_rfl
theorem Aq2:(Rows.airspaceSourceUptoRow.inPlace==prog.inPlace 3)=true:=by kernel_rfl
theorem Ao9:(Rows.airspaceSourceUptoRow.unfollowed==prog.unfollowed 3)=true:=by kernel_rfl
theorem Apk:(Rows.airspaceSourceUptoRow.recurses==prog.recurses 3)=true:=by kernel_rfl
theorem Apj:(Rows.airspaceSourceUptoRow.named==prog.varsNamed 3)=true:=by kernel_rfl
theorem Apm:(Rows.airspaceSourceUptoRow.plainKeys==prog.plainKeys)=true:=by kernel_rfl
theorem Apa:prog.stopsHeard=true:=by kernel_rfl
theorem Aph:prog.mayEnter=true:=by kernel_rfl
theorem Ape:(Rows.airspaceSourceUptoRow.lifted==prog.liftsFinal)=true:=by kernel_rfl
theorem Apc:(prog.make==some Rows.airspaceSourceUptoRow.make)=true:=by kernel_rfl
theorem Al9:joinedFacts prog 3 Tryz.f3 (Rows.OpenSpec.upto Rows.airspaceSourceSpec).bare Rows.airspaceSourceUptoRow=true:=by unfold joinedFacts;exact Kt (Kt (Kt (Kt (Kt (Kt (Kt (Kt (Kt (Kt (Kt (Kt (Kt (Kt (Kt (Kt (Kt (Kt (Kt (Kt (Kt (Kt (Kt (Kt (Kt (Kt (Kt (Kt (Kt (Kt (Kt (by kernel_rfl) A46) Aq8) (by kernel_rfl)) (by kernel_rfl)) (by kernel_rfl)) (by kernel_rfl)) (by kernel_rfl)) (by kernel_rfl)) Aq2) Ao9) Apk) Apj) (by kernel_rfl)) (by kernel_rfl)) (by kernel_rfl)) (by kernel_rfl)) (by kernel_rfl)) (by kernel_rfl)) (by kernel_rfl)) (by kernel_rfl)) (by kernel_rfl)) Apm) (by kernel_rfl)) Apa) Aph) Ape) Apc) (by kernel_rfl)) (by kernel_rfl)) (by kernel_rfl)) (by kernel_rfl)
theorem Apd:Tryz.f3.isInstance prog Rows.airspaceSourceUptoRow.origin Rows.airspaceSourceUptoRow.targs:=of_decide_eq_true (by kernel_rfl)
theorem Alq (A:O3):Rows.AirspaceSourceUptoSaid:=
 OpenClaim.holds_of_cond 3 Tryz.f3 rfl rfl rfl rfl rfl rfl rfl ⟨rfl,rfl,rfl,rfl,rfl⟩ rfl rfl rfl rfl rfl (by kernel_rfl) func3 Al9
  Apd (by unfold Func.isWrapper;first|(rw[if_pos (by decide+kernel)];kernel_rfl)|(rw[if_neg (by decide+kernel)];exact⟨rfl,rfl⟩))
  (λos z H enc _ F=>by rw[OpenClaim.pre_eq_preRow];exact Amh A os z H enc F)
theorem Apf (z:O3):Rows.AirspaceSourceUptoCardSaid:=
 Claim7.holds_tied_plain_at .later [] _ _ _ _ (Alq z) (λ_ h=>by cases h) (by kernel_rfl) (λ_ h=>by cases h) airspaceSourceUpto_row_tie rfl ⟨rfl,rfl⟩ (by kernel_rfl) rfl
  (λf fn hf A=>by
   obtain rfl:f=3:=AP ((show prog.funcNamed Rows.airspaceSourceUptoRow.func=some 3 by kernel_rfl).symm.trans hf)|>.symm;obtain rfl:fn=Tryz.f3:=(AP (func3.symm.trans A)).symm;refine⟨by kernel_rfl,λj t ht=>?_⟩;rw[Tryz.params3]at ht;exact match j,ht with
    |0,h=>by cases h;exact(show prog.wantsStandIn 9=false by kernel_rfl)
    |_+1,h=>by cases h)
  (by kernel_rfl)
end Go.Proofs.YthpjjoanecpemaaGreatDoor.laws

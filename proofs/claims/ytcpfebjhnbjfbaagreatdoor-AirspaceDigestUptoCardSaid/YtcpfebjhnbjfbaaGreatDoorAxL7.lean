/- Written by shrink.py from texts of ours: comments struck, what is not reached left out, names short. -/
import Derived.Test.YtcpfebjhnbjfbaaGreatDoorTp
set_option linter.unusedSimpArgs false
set_option linter.unusedVariables false
set_option linter.unusedSectionVars false
set_option linter.defProp false
set_option maxRecDepth 100000
open Go.Proofs.Tryz
namespace Go.Proofs.YtcpfebjhnbjfbaaGreatDoor.laws
open Go Go.Am Go.ChangeShapes Go.WideShapes Go.ChangeAt Go.RowKit
theorem Bom (D:Acg)(H:Type)(enc:TypeId×Go.Value→H)(W:World)(base:Nat)(args:Array Go.Value)(ds gs:List (DataW H))(A:List MemPlace)
  (z:∀(j:Nat) t v,Tryz.f7.params[j]?=some t→args[j]?=some v→Go.Value.okWide prog W .any base t v)
  (U:DataW.Whole enc prog Tryz.f7.params.toList Rows.airspaceDigestSpec.vars false W args.toList ds gs A) (hk:Rows.uptoSmall H (ds++gs)=true) (hL:laidMetH prog Rows.airspaceDigestUptoRow.laid W):
  Calls prog 7 args W λe W'=>∃v,e=.returned v∧Rows.airspaceDigestSpec.post enc prog Tryz.f7 false true false false W args v W':=by
 refine Bcs (tb:=4) U A46 (by rw[Tryz.params7];exact(DV.2 ⟨B99,(DV.2 ⟨rd9,(λ_ h=>(BU h).elim)⟩)⟩)) rfl (by kernel_rfl) underlying4 (λds V=>?_) ?_
 ·rw[Tryz.params7]at V;match ds,V with
  |[x0,x1],_=>rfl
 obtain⟨p,q,X,hV,rfl,hfz,aa⟩:=U
 rw[Tryz.params7]at X z
 obtain⟨Y,ab,Z,ac,p0,q0,R,rfl,rfl,h0,r0⟩:=trodAll_cons X
 obtain⟨v1,ad,d1,ae,p1,q1,rfl,rfl,rfl,h1,r1⟩:=trodAll_cons r0
 obtain⟨rfl,rfl,rfl⟩:=trodAll_nil r1
 obtain rfl:args=#[Y,v1]:=by cases args;simp_all
 obtain⟨rfl,rfl⟩:=trodVars_none hV
 have hb:Rows.uptoBulkAll [Z,d1]≤1048576:=DK hk
 have O:=Bd9 (H:=H)
 simp only[O.cons,O.nil]at hb
 obtain⟨m0,h0⟩:=h0
 obtain⟨S,l0,g0,b0⟩:=Cad enc W _ _ m0 _ _ _ _ O h0 (by simp only[Bj];omega)
 replace b0:B0t.bulk S≤Rows.uptoBulk Z:=b0
 obtain⟨c0,rfl,_⟩:=okWide_struct underlying38 (z 0 38 Y rfl rfl)
 have e0:=B17 l0
 obtain⟨m1,h1⟩:=h1
 obtain⟨a1,l1,g1,b1⟩:=on9 enc W _ _ m1 _ _ _ _ O h1 (by simp only[Bj];omega)
 replace b1:A1i.bulk a1≤Rows.uptoBulk d1:=b1
 have e1:=Bif l1 (A2w underlying9 (by simp) (by simp) (z 1 9 v1 rfl rfl))
 exact Bbq (Bo8 S a1) (Bg4 hL) (D S a1 g0 g1 (by omega)) (LR.cons e0 (IM e1))
theorem Bw1 (R:Acg) (os:Os) (A:os.Started) (H:Type) (enc:TypeId×Go.Value→H) (F:Stop.Interp):
  ReturnsInHanded {} Tryz.checked os 7 .any ((Rows.OpenSpec.upto Rows.airspaceDigestSpec).preRow enc prog Tryz.f7 Rows.airspaceDigestUptoRow.domain false Rows.airspaceDigestUptoRow.laid) (((Rows.OpenSpec.upto Rows.airspaceDigestSpec).at F).post enc prog Tryz.f7 false true false false):=by
 have U:∃z,DataW.whole enc prog ((World.doorLaid prog 132 os).forCall (λ_ _=>0) ⟨#[],#[.agg #[.int .i64 0,.slice none 0 0,.slice none 0 0,.slice none 0 0,.slice none 0 0,.slice none 0 0],.string .empty],[]⟩).memory Tryz.f7.params.toList Rows.airspaceDigestSpec.vars false #[.agg #[.int .i64 0,.slice none 0 0,.slice none 0 0,.slice none 0 0,.slice none 0 0,.slice none 0 0],.string .empty].toList 8=some ([.agg [.lit (.int .i64 0),.nil,.nil,.nil,.nil,.nil],.lit (.string [])],[],z):=⟨[],by kernel_rfl⟩
 obtain⟨z,U⟩:=U
 refine returnsInHanded_of_row (C:=Tryz.checked) (s:=Rows.OpenSpec.upto Rows.airspaceDigestSpec) own A (by kernel_rfl) func7
  (Ap2 (enc:=enc) (C:=Tryz.checked) false (World.doorLaid prog 132 os) #[.agg #[.int .i64 0,.slice none 0 0,.slice none 0 0,.slice none 0 0,.slice none 0 0,.slice none 0 0],.string .empty] rfl (World.shaped_of_RefB (by kernel_rfl) (by kernel_rfl)) (by kernel_rfl) (OpenSpec.preRow_of_cond 8 U (by kernel_rfl) (λk hk=>by cases hk;kernel_rfl) (by kernel_rfl) (laidMetH_of_parts3 (fuel:=8) (laidMet_of_run' 8 (by kernel_rfl) (by kernel_rfl)) (by kernel_rfl) (by kernel_rfl)))) ?_
 intro W base args ds gs D S V _ O _ X _ _
 exact Bom R H enc W base args ds gs D S V (O _ rfl) X
theorem jand {a b:Bool}(z:a=true)(A:b=true):(a&&b)=true:=by rw[z,A];rfl
theorem B0i:mapsRowed prog=true:=by kernel_rfl
theorem Bzv:(Rows.airspaceDigestUptoRow.inPlace==prog.inPlace 7)=true:=by kernel_rfl
theorem Bzq:(Rows.airspaceDigestUptoRow.unfollowed==prog.unfollowed 7)=true:=by kernel_rfl
theorem By5:(Rows.airspaceDigestUptoRow.recurses==prog.recurses 7)=true:=by kernel_rfl
theorem Bzk:(Rows.airspaceDigestUptoRow.named==prog.varsNamed 7)=true:=by kernel_rfl
theorem Bzh:(Rows.airspaceDigestUptoRow.plainKeys==prog.plainKeys)=true:=by kernel_rfl
theorem Bzb:prog.stopsHeard=true:=by kernel_rfl
theorem By8:prog.mayEnter=true:=by kernel_rfl
theorem Bzc:(Rows.airspaceDigestUptoRow.lifted==prog.liftsFinal)=true:=by kernel_rfl
theorem Bzg:(prog.make==some Rows.airspaceDigestUptoRow.make)=true:=by kernel_rfl
theorem Bwr:joinedFacts prog 7 Tryz.f7 (Rows.OpenSpec.upto Rows.airspaceDigestSpec).bare Rows.airspaceDigestUptoRow=true:=by unfold joinedFacts;exact jand (jand (jand (jand (jand (jand (jand (jand (jand (jand (jand (jand (jand (jand (jand (jand (jand (jand (jand (jand (jand (jand (jand (jand (jand (jand (jand (jand (jand (jand (jand (by kernel_rfl) A46) B0i) (by kernel_rfl)) (by kernel_rfl)) (by kernel_rfl)) (by kernel_rfl)) (by kernel_rfl)) (by kernel_rfl)) Bzv) Bzq) By5) Bzk) (by kernel_rfl)) (by kernel_rfl)) (by kernel_rfl)) (by kernel_rfl)) (by kernel_rfl)) (by kernel_rfl)) (by kernel_rfl)) (by kernel_rfl)) (by kernel_rfl)) Bzh) (by kernel_rfl)) Bzb) By8) Bzc) Bzg) (by kernel_rfl)) (by kernel_rfl)) (by kernel_rfl)) (by kernel_rfl)
theorem B0z:prog.mainIs=some (Rows.airspaceDigestUptoCard.stood.harness.1,Rows.airspaceDigestUptoCard.stood.harness.2.toList):=by kernel_rfl
theorem B1l:Rows.airspaceDigestUptoCard.stood.looks=prog.looks []:=by kernel_rfl
theorem B09:false=Rows.airspaceDigestUptoRow.goesBy prog:=by kernel_rfl
theorem By7:Tryz.f7.isInstance prog Rows.airspaceDigestUptoRow.origin Rows.airspaceDigestUptoRow.targs:=DK (by kernel_rfl)
theorem Bpx (A:Acg):Rows.AirspaceDigestUptoSaid:=
 OpenClaim.holds_of_cond 7 Tryz.f7 rfl rfl rfl rfl rfl rfl rfl ⟨rfl,rfl,rfl,rfl,rfl⟩ rfl rfl rfl rfl rfl (by kernel_rfl) func7 Bwr
  By7 (by unfold Func.isWrapper;first|(rw[if_pos (by decide+kernel)];kernel_rfl)|(rw[if_neg (by decide+kernel)];exact⟨rfl,rfl⟩))
  (λos z H enc _ F=>by rw[OpenClaim.pre_eq_preRow];exact Bw1 A os z H enc F)
theorem Bzf (z:Acg):Rows.AirspaceDigestUptoCardSaid:=
 Claim7.holds_tied_plain_at .later [] _ _ _ _ (Bpx z) (λ_ h=>by cases h) (by kernel_rfl) (λ_ h=>by cases h) airspaceDigestUpto_row_tie rfl ⟨rfl,rfl⟩ B0z rfl
  (λf fn hf A=>by
   obtain rfl:f=7:=AT ((show prog.funcNamed Rows.airspaceDigestUptoRow.func=some 7 by kernel_rfl).symm.trans hf)|>.symm;obtain rfl:fn=Tryz.f7:=(AT (func7.symm.trans A)).symm;refine⟨B1l,λj t ht=>?_⟩;rw[Tryz.params7]at ht;exact match j,ht with
    |0,h=>by cases h;exact(show prog.wantsStandIn 38=false by kernel_rfl)
    |1,h=>by cases h;exact(show prog.wantsStandIn 9=false by kernel_rfl)
    |_+2,h=>by cases h)
  B09
end Go.Proofs.YtcpfebjhnbjfbaaGreatDoor.laws

/- Written by shrink.py from texts of ours: comments struck, what is not reached left out, names short. -/
import Derived.Test.YtcpfebjhnbjfbaaGreatDoorTn
set_option linter.unusedSimpArgs false
set_option linter.unusedVariables false
set_option linter.unusedSectionVars false
set_option linter.defProp false
set_option maxRecDepth 100000
open Go.Proofs.Tryz
namespace Go.Proofs.YtcpfebjhnbjfbaaGreatDoor.laws
open Go Go.Am Go.ChangeShapes Go.WideShapes Go.ChangeAt Go.RowKit
theorem Bnl (D:Zq)(H:Type)(enc:TypeId×Go.Value→H)(W:World)(base:Nat)(args:Array Go.Value)(ds gs:List (DataW H))(A:List MemPlace)
  (z:∀(j:Nat) t v,Tryz.f5.params[j]?=some t→args[j]?=some v→Go.Value.okWide prog W .any base t v)
  (U:DataW.Whole enc prog Tryz.f5.params.toList Rows.airspaceSectorsSpec.vars false W args.toList ds gs A) (hk:Rows.uptoSmall H (ds++gs)=true) (hL:laidMetH prog Rows.airspaceSectorsUptoRow.laid W):
  Calls prog 5 args W λe W'=>∃v,e=.returned v∧Rows.airspaceSectorsSpec.post enc prog Tryz.f5 false true false false W args v W':=by
 refine Bcs (tb:=4) U A46 (by rw[Tryz.params5];exact(DV.2 ⟨B67,(DV.2 ⟨rd3,(DV.2 ⟨rd3,(λ_ h=>(BU h).elim)⟩)⟩)⟩)) rfl (by kernel_rfl) underlying4 (λds V=>?_) ?_
 ·rw[Tryz.params5]at V;match ds,V with
  |[x0,x1,x2],_=>rfl
 obtain⟨p,q,X,hV,rfl,hfz,aa⟩:=U
 rw[Tryz.params5]at X z
 obtain⟨Y,ab,Z,ac,p0,q0,R,rfl,rfl,h0,r0⟩:=trodAll_cons X
 obtain⟨v1,ad,d1,ae,p1,q1,rfl,rfl,rfl,h1,r1⟩:=trodAll_cons r0
 obtain⟨v2,af,d2,ag,p2,q2,rfl,rfl,rfl,h2,r2⟩:=trodAll_cons r1
 obtain⟨rfl,rfl,rfl⟩:=trodAll_nil r2
 obtain rfl:args=#[Y,v1,v2]:=by cases args;simp_all
 obtain⟨rfl,rfl⟩:=trodVars_none hV
 have hb:Rows.uptoBulkAll [Z,d1,d2]≤1048576:=DK hk
 have O:=Bd9 (H:=H)
 simp only[O.cons,O.nil]at hb
 obtain⟨m0,h0⟩:=h0
 obtain⟨S,l0,g0,b0⟩:=B6j enc W _ _ m0 _ _ _ _ O h0 (by simp only[Bj];omega)
 replace b0:Ahm.bulk S≤Rows.uptoBulk Z:=b0
 obtain⟨c0,rfl,_⟩:=okWide_struct underlying31 (z 0 31 Y rfl rfl)
 have e0:=B17 l0
 obtain⟨m1,h1⟩:=h1
 obtain⟨a1,l1,g1,b1⟩:=Qz enc W _ _ m1 _ _ _ _ O h1 (by simp only[Bj];omega)
 replace b1:(Cj .i64).bulk a1≤Rows.uptoBulk d1:=b1
 have e1:=Bif l1 (A2w underlying3 (by simp) (by simp) (z 1 3 v1 rfl rfl))
 obtain⟨m2,h2⟩:=h2
 obtain⟨a2,l2,g2,b2⟩:=Qz enc W _ _ m2 _ _ _ _ O h2 (by simp only[Bj];omega)
 replace b2:(Cj .i64).bulk a2≤Rows.uptoBulk d2:=b2
 have e2:=Bif l2 (A2w underlying3 (by simp) (by simp) (z 2 3 v2 rfl rfl))
 exact Bbq (Bof S a1 a2) (Bg4 hL) (D S a1 a2 g0 g1 g2 (by omega)) (LR.cons e0 (LR.cons e1 (IM e2)))
theorem Bq7 (R:Zq) (os:Os) (A:os.Started) (H:Type) (enc:TypeId×Go.Value→H) (F:Stop.Interp):
  ReturnsInHanded {} Tryz.checked os 5 .any ((Rows.OpenSpec.upto Rows.airspaceSectorsSpec).preRow enc prog Tryz.f5 Rows.airspaceSectorsUptoRow.domain false Rows.airspaceSectorsUptoRow.laid) (((Rows.OpenSpec.upto Rows.airspaceSectorsSpec).at F).post enc prog Tryz.f5 false true false false):=by
 have U:∃z,DataW.whole enc prog ((World.doorLaid prog 132 os).forCall (λ_ _=>0) ⟨#[],#[.agg #[.slice none 0 0,.slice none 0 0,.slice none 0 0,.slice none 0 0,.slice none 0 0,.slice none 0 0,.slice none 0 0,.slice none 0 0],.int .i64 0,.int .i64 0],[]⟩).memory Tryz.f5.params.toList Rows.airspaceSectorsSpec.vars false #[.agg #[.slice none 0 0,.slice none 0 0,.slice none 0 0,.slice none 0 0,.slice none 0 0,.slice none 0 0,.slice none 0 0,.slice none 0 0],.int .i64 0,.int .i64 0].toList 8=some ([.agg [.nil,.nil,.nil,.nil,.nil,.nil,.nil,.nil],.lit (.int .i64 0),.lit (.int .i64 0)],[],z):=⟨[],by kernel_rfl⟩
 obtain⟨z,U⟩:=U
 refine returnsInHanded_of_row (C:=Tryz.checked) (s:=Rows.OpenSpec.upto Rows.airspaceSectorsSpec) own A (by kernel_rfl) func5
  (Ap2 (enc:=enc) (C:=Tryz.checked) false (World.doorLaid prog 132 os) #[.agg #[.slice none 0 0,.slice none 0 0,.slice none 0 0,.slice none 0 0,.slice none 0 0,.slice none 0 0,.slice none 0 0,.slice none 0 0],.int .i64 0,.int .i64 0] rfl (World.shaped_of_RefB (by kernel_rfl) (by kernel_rfl)) (by kernel_rfl) (OpenSpec.preRow_of_cond 8 U (by kernel_rfl) (λk hk=>by cases hk;kernel_rfl) (by kernel_rfl) (laidMetH_of_parts3 (fuel:=8) (laidMet_of_run' 8 (by kernel_rfl) (by kernel_rfl)) (by kernel_rfl) (by kernel_rfl)))) ?_
 intro W base args ds gs D S V _ O _ X _ _
 exact Bnl R H enc W base args ds gs D S V (O _ rfl) X
theorem jand {a b:Bool}(z:a=true)(A:b=true):(a&&b)=true:=by rw[z,A];rfl
theorem By9:mapsRowed prog=true:=by kernel_rfl
theorem Bzo:(Rows.airspaceSectorsUptoRow.inPlace==prog.inPlace 5)=true:=by kernel_rfl
theorem Bxr:(Rows.airspaceSectorsUptoRow.unfollowed==prog.unfollowed 5)=true:=by kernel_rfl
theorem Bxz:(Rows.airspaceSectorsUptoRow.recurses==prog.recurses 5)=true:=by kernel_rfl
theorem Bw5:(Rows.airspaceSectorsUptoRow.named==prog.varsNamed 5)=true:=by kernel_rfl
theorem Byk:(Rows.airspaceSectorsUptoRow.plainKeys==prog.plainKeys)=true:=by kernel_rfl
theorem Byz:prog.stopsHeard=true:=by kernel_rfl
theorem Bx5:prog.mayEnter=true:=by kernel_rfl
theorem By3:(Rows.airspaceSectorsUptoRow.lifted==prog.liftsFinal)=true:=by kernel_rfl
theorem Bx4:(prog.make==some Rows.airspaceSectorsUptoRow.make)=true:=by kernel_rfl
theorem Bqh:joinedFacts prog 5 Tryz.f5 (Rows.OpenSpec.upto Rows.airspaceSectorsSpec).bare Rows.airspaceSectorsUptoRow=true:=by unfold joinedFacts;exact jand (jand (jand (jand (jand (jand (jand (jand (jand (jand (jand (jand (jand (jand (jand (jand (jand (jand (jand (jand (jand (jand (jand (jand (jand (jand (jand (jand (jand (jand (jand (by kernel_rfl) A46) By9) (by kernel_rfl)) (by kernel_rfl)) (by kernel_rfl)) (by kernel_rfl)) (by kernel_rfl)) (by kernel_rfl)) Bzo) Bxr) Bxz) Bw5) (by kernel_rfl)) (by kernel_rfl)) (by kernel_rfl)) (by kernel_rfl)) (by kernel_rfl)) (by kernel_rfl)) (by kernel_rfl)) (by kernel_rfl)) (by kernel_rfl)) Byk) (by kernel_rfl)) Byz) Bx5) By3) Bx4) (by kernel_rfl)) (by kernel_rfl)) (by kernel_rfl)) (by kernel_rfl)
theorem B0w:prog.mainIs=some (Rows.airspaceSectorsUptoCard.stood.harness.1,Rows.airspaceSectorsUptoCard.stood.harness.2.toList):=by kernel_rfl
theorem By2:Rows.airspaceSectorsUptoCard.stood.looks=prog.looks []:=by kernel_rfl
theorem B0q:false=Rows.airspaceSectorsUptoRow.goesBy prog:=by kernel_rfl
theorem Bxs:Tryz.f5.isInstance prog Rows.airspaceSectorsUptoRow.origin Rows.airspaceSectorsUptoRow.targs:=DK (by kernel_rfl)
theorem Boo (A:Zq):Rows.AirspaceSectorsUptoSaid:=
 OpenClaim.holds_of_cond 5 Tryz.f5 rfl rfl rfl rfl rfl rfl rfl ⟨rfl,rfl,rfl,rfl,rfl⟩ rfl rfl rfl rfl rfl (by kernel_rfl) func5 Bqh
  Bxs (by unfold Func.isWrapper;first|(rw[if_pos (by decide+kernel)];kernel_rfl)|(rw[if_neg (by decide+kernel)];exact⟨rfl,rfl⟩))
  (λos z H enc _ F=>by rw[OpenClaim.pre_eq_preRow];exact Bq7 A os z H enc F)
theorem Byv (z:Zq):Rows.AirspaceSectorsUptoCardSaid:=
 Claim7.holds_tied_plain_at .later [] _ _ _ _ (Boo z) (λ_ h=>by cases h) (by kernel_rfl) (λ_ h=>by cases h) airspaceSectorsUpto_row_tie rfl ⟨rfl,rfl⟩ B0w rfl
  (λf fn hf A=>by
   obtain rfl:f=5:=AT ((show prog.funcNamed Rows.airspaceSectorsUptoRow.func=some 5 by kernel_rfl).symm.trans hf)|>.symm;obtain rfl:fn=Tryz.f5:=(AT (func5.symm.trans A)).symm;refine⟨By2,λj t ht=>?_⟩;rw[Tryz.params5]at ht;exact match j,ht with
    |0,h=>by cases h;exact(show prog.wantsStandIn 31=false by kernel_rfl)
    |1,h=>by cases h;exact(show prog.wantsStandIn 3=false by kernel_rfl)
    |2,h=>by cases h;exact(show prog.wantsStandIn 3=false by kernel_rfl)
    |_+3,h=>by cases h)
  B0q
end Go.Proofs.YtcpfebjhnbjfbaaGreatDoor.laws

import Derived.Test.YtjajmhcejacahaaGreatDoorU15
set_option linter.all false
set_option maxRecDepth 100000
open Go.Proofs.Tryz
namespace Go.Proofs.YtjajmhcejacahaaGreatDoor.laws
open Go Go.Am Go.ChangeShapes Go.WideShapes Go.ChangeAt Go.RowKit
abbrev GQ:=@List.forall_mem_cons
def Apa (D:P5)(H:Type)(enc:TypeId×Go.Value->H)(W:World)(base:Nat)(args:Array Go.Value)(ds gs:List (DataW H))(z:List MemPlace)
  (A:∀(j:Nat) t v,Tryz.f3.params[j]?=some t->args[j]?=some v->Go.Value.okWide prog W .any base t v)
  (U:DataW.Whole enc prog Tryz.f3.params.toList Rows.airspaceLowerSpecSpec.vars false W args.toList ds gs z) (hk:Rows.uptoSmall H (ds++gs)=true) (hL:laidMetH prog Rows.airspaceLowerSpecUptoRow.laid W):
  Calls prog 3 args W λe W'=>∃v,e=.returned v/\Rows.airspaceLowerSpecSpec.post enc prog Tryz.f3 false true false false W args v W':=by
 refine Bcs (tb:=4) U A46 (by rw[Tryz.params3];exact(GQ.2 ⟨Bqe,(λ_ h=>(BW h).elim)⟩)) rfl (by kernel_rfl) underlying4 (λds V=>?_) ?_
 .rw[Tryz.params3]at V;match ds,V with
  |[x0],_=>rfl
 obtain⟨p,q,X,hV,rfl,hfz,aa⟩:=U
 rw[Tryz.params3]at X A
 obtain⟨Y,ab,Z,ac,p0,q0,G,rfl,rfl,h0,r0⟩:=trodAll_cons X
 obtain⟨rfl,rfl,rfl⟩:=trodAll_nil r0
 obtain rfl:args=#[Y]:=by cases args;simp_all
 obtain⟨rfl,rfl⟩:=trodVars_none hV
 have hb:Rows.uptoBulkAll [Z]<=1048576:=of_decide_eq_true hk
 have O:=Bd9 (H:=H)
 simp only[O.cons,O.nil]at hb
 obtain⟨m0,h0⟩:=h0
 obtain⟨S,l0,g0,b0⟩:=Bp7 enc W _ _ m0 _ _ _ _ O h0 (by simp only[Bj];omega)
 replace b0:Asj.bulk S<=Rows.uptoBulk Z:=b0
 obtain⟨c0,rfl,_⟩:=okWide_struct underlying31 (A 0 31 Y rfl rfl)
 have e0:=B17 l0
 exact Bbq (Ape S) (Bg4 hL) (D S g0 (by omega)) (LR.one e0)
theorem Aqk (O:P5) (os:Os) (A:os.Started) (H:Type) (enc:TypeId×Go.Value→H) (F:Stop.Interp):
  ReturnsInHanded {} Tryz.checked os 3 .any ((Rows.OpenSpec.upto Rows.airspaceLowerSpecSpec).preRow enc prog Tryz.f3 Rows.airspaceLowerSpecUptoRow.domain false Rows.airspaceLowerSpecUptoRow.laid) (((Rows.OpenSpec.upto Rows.airspaceLowerSpecSpec).at F).post enc prog Tryz.f3 false true false false):=by
 have U:∃z,DataW.whole enc prog ((World.doorLaid prog 132 os).forCall (λ_ _=>0) ⟨#[],#[.agg #[.slice none 0 0,.slice none 0 0,.slice none 0 0,.slice none 0 0,.slice none 0 0,.slice none 0 0,.slice none 0 0,.slice none 0 0]],[]⟩).memory Tryz.f3.params.toList Rows.airspaceLowerSpecSpec.vars false #[.agg #[.slice none 0 0,.slice none 0 0,.slice none 0 0,.slice none 0 0,.slice none 0 0,.slice none 0 0,.slice none 0 0,.slice none 0 0]].toList 8=some ([.agg [.nil,.nil,.nil,.nil,.nil,.nil,.nil,.nil]],[],z):=⟨[],by kernel_rfl⟩
 obtain⟨z,U⟩:=U
 refine returnsInHanded_of_row (C:=Tryz.checked) (s:=Rows.OpenSpec.upto Rows.airspaceLowerSpecSpec) own A (by kernel_rfl) func3
  (Ap2 (enc:=enc) (C:=Tryz.checked) false (World.doorLaid prog 132 os) #[.agg #[.slice none 0 0,.slice none 0 0,.slice none 0 0,.slice none 0 0,.slice none 0 0,.slice none 0 0,.slice none 0 0,.slice none 0 0]] rfl (World.shaped_of_RefB (by kernel_rfl) (by kernel_rfl)) (by kernel_rfl) (OpenSpec.preRow_of_cond 8 U (by kernel_rfl) (λk hk=>by cases hk;kernel_rfl) (by kernel_rfl) (laidMetH_of_parts3 (fuel:=8) (laidMet_of_run' 8 (by kernel_rfl) (by kernel_rfl)) (by kernel_rfl) (by kernel_rfl)))) ?_
 intro W base args ds gs D S V _ G _ X _ _
 exact Apa O H enc W base args ds gs D S V (G _ rfl) X
def M5 {a b:Bool}(z:a=true)(A:b=true):(a&&b)=true:=by rw[z,A];rfl
def Auj:mapsRowed prog=true:=by kernel_rfl
def Auo:(Rows.airspaceLowerSpecUptoRow.inPlace==prog.inPlace 3)=true:=by kernel_rfl
def Atx:(Rows.airspaceLowerSpecUptoRow.unfollowed==prog.unfollowed 3)=true:=by kernel_rfl
def Att:(Rows.airspaceLowerSpecUptoRow.recurses==prog.recurses 3)=true:=by kernel_rfl
def Aty:(Rows.airspaceLowerSpecUptoRow.named==prog.varsNamed 3)=true:=by kernel_rfl
def As9:(Rows.airspaceLowerSpecUptoRow.plainKeys==prog.plainKeys)=true:=by kernel_rfl
theorem Ato:prog.stopsHeard=true:=by kernel_rfl
def Atg:prog.mayEnter=true:=by kernel_rfl
def As6:(Rows.airspaceLowerSpecUptoRow.lifted==prog.liftsFinal)=true:=by kernel_rfl
def Atf:(prog.make==some Rows.airspaceLowerSpecUptoRow.make)=true:=by kernel_rfl
def Ap9:joinedFacts prog 3 Tryz.f3 (Rows.OpenSpec.upto Rows.airspaceLowerSpecSpec).bare Rows.airspaceLowerSpecUptoRow=true:=by unfold joinedFacts;exact M5 (M5 (M5 (M5 (M5 (M5 (M5 (M5 (M5 (M5 (M5 (M5 (M5 (M5 (M5 (M5 (M5 (M5 (M5 (M5 (M5 (M5 (M5 (M5 (M5 (M5 (M5 (M5 (M5 (M5 (M5 (by kernel_rfl) A46) Auj) (by kernel_rfl)) (by kernel_rfl)) (by kernel_rfl)) (by kernel_rfl)) (by kernel_rfl)) (by kernel_rfl)) Auo) Atx) Att) Aty) (by kernel_rfl)) (by kernel_rfl)) (by kernel_rfl)) (by kernel_rfl)) (by kernel_rfl)) (by kernel_rfl)) (by kernel_rfl)) (by kernel_rfl)) (by kernel_rfl)) As9) (by kernel_rfl)) Ato) Atg) As6) Atf) (by kernel_rfl)) (by kernel_rfl)) (by kernel_rfl)) (by kernel_rfl)
theorem Aur:prog.mainIs=some (Rows.airspaceLowerSpecUptoCard.stood.harness.1,Rows.airspaceLowerSpecUptoCard.stood.harness.2.toList):=by kernel_rfl
theorem At7:Rows.airspaceLowerSpecUptoCard.stood.looks=prog.looks []:=by kernel_rfl
def Aug:false=Rows.airspaceLowerSpecUptoRow.goesBy prog:=by kernel_rfl
def At5:Tryz.f3.isInstance prog Rows.airspaceLowerSpecUptoRow.origin Rows.airspaceLowerSpecUptoRow.targs:=of_decide_eq_true (by kernel_rfl)
theorem Apn (A:P5):Rows.AirspaceLowerSpecUptoSaid:=
 OpenClaim.holds_of_cond 3 Tryz.f3 rfl rfl rfl rfl rfl rfl rfl ⟨rfl,rfl,rfl,rfl,rfl⟩ rfl rfl rfl rfl rfl (by kernel_rfl) func3 Ap9
  At5 (by unfold Func.isWrapper;first|(rw[if_pos (by decide+kernel)];kernel_rfl)|(rw[if_neg (by decide+kernel)];exact⟨rfl,rfl⟩))
  (λos z H enc _ F=>by rw[OpenClaim.pre_eq_preRow];exact Aqk A os z H enc F)
def Atp (z:P5):Rows.AirspaceLowerSpecUptoCardSaid:=
 Claim7.holds_tied_plain_at .later [] _ _ _ _ (Apn z) (λ_ h=>by cases h) (by kernel_rfl) (λ_ h=>by cases h) airspaceLowerSpecUpto_row_tie rfl ⟨rfl,rfl⟩ Aur rfl
  (λf fn hf A=>by
   obtain rfl:f=3:=AS ((show prog.funcNamed Rows.airspaceLowerSpecUptoRow.func=some 3 by kernel_rfl).symm.trans hf)|>.symm;obtain rfl:fn=Tryz.f3:=(AS (func3.symm.trans A)).symm;refine⟨At7,λj t ht=>?_⟩;rw[Tryz.params3]at ht;exact match j,ht with
    |0,h=>by cases h;exact(show prog.wantsStandIn 31=false by kernel_rfl)
    |_+1,h=>by cases h)
  Aug
end Go.Proofs.YtjajmhcejacahaaGreatDoor.laws

import Derived.Test.YtpijakedfmencaaGreatDoorU14
set_option linter.all false
set_option maxRecDepth 100000
open Go.Proofs.Tryz
namespace Go.Proofs.YtpijakedfmencaaGreatDoor.laws
open Go Go.Am Go.ChangeShapes Go.WideShapes Go.ChangeAt Go.RowKit
abbrev GQ:=@List.forall_mem_cons
def An6 (G:M7)(H:Type)(enc:TypeId×Go.Value->H)(W:World)(base:Nat)(args:Array Go.Value)(ds V:List (DataW H))(D:List MemPlace)
  (z:∀(j:Nat) t v,Tryz.f3.params[j]?=some t->args[j]?=some v->Go.Value.okWide prog W .any base t v)
  (X:DataW.Whole enc prog Tryz.f3.params.toList Rows.airspaceCheckSpecSpec.vars false W args.toList ds V D) (hk:Rows.uptoSmall H (ds++V)=true) (hL:laidMetH prog Rows.airspaceCheckSpecUptoRow.laid W):
  Calls prog 3 args W λe W'=>∃v,e=.returned v/\Rows.airspaceCheckSpecSpec.post enc prog Tryz.f3 false true false false W args v W':=by
 refine Bcs (tb:=4) X A46 (by rw[Tryz.params3];exact(GQ.2 ⟨Bkl,(GQ.2 ⟨rd3,(GQ.2 ⟨rd3,(λ_ h=>(BW h).elim)⟩)⟩)⟩)) rfl (by kernel_rfl) underlying4 (λds Y=>?_) ?_
 .rw[Tryz.params3]at Y;match ds,Y with
  |[x0,x1,x2],_=>rfl
 obtain⟨p,q,hA,hV,rfl,hfz,aa⟩:=X
 rw[Tryz.params3]at hA z
 obtain⟨v0,ab,d0,ac,p0,q0,R,rfl,rfl,h0,r0⟩:=trodAll_cons hA
 obtain⟨v1,ad,d1,ae,p1,q1,rfl,rfl,rfl,h1,r1⟩:=trodAll_cons r0
 obtain⟨v2,af,d2,ag,p2,q2,rfl,rfl,rfl,h2,r2⟩:=trodAll_cons r1
 obtain⟨rfl,rfl,rfl⟩:=trodAll_nil r2
 obtain rfl:args=#[v0,v1,v2]:=by cases args;simp_all
 obtain⟨rfl,rfl⟩:=trodVars_none hV
 have hb:Rows.uptoBulkAll [d0,d1,d2]<=1048576:=of_decide_eq_true hk
 have O:=Bd9 (H:=H)
 simp only[O.cons,O.nil]at hb
 obtain⟨m0,h0⟩:=h0
 obtain⟨S,l0,g0,b0⟩:=B98 enc W _ _ m0 _ _ _ _ O h0 (by simp only[Bj];omega)
 replace b0:B0t.bulk S<=Rows.uptoBulk d0:=b0
 obtain⟨c0,rfl,_⟩:=okWide_struct underlying28 (z 0 28 v0 rfl rfl)
 have e0:=B17 l0
 obtain⟨m1,h1⟩:=h1
 obtain⟨a1,l1,g1,b1⟩:=Qz enc W _ _ m1 _ _ _ _ O h1 (by simp only[Bj];omega)
 replace b1:(Cj .i64).bulk a1<=Rows.uptoBulk d1:=b1
 have e1:=Bif l1 (A2w underlying3 (by simp) (by simp) (z 1 3 v1 rfl rfl))
 obtain⟨m2,h2⟩:=h2
 obtain⟨U,l2,g2,b2⟩:=Qz enc W _ _ m2 _ _ _ _ O h2 (by simp only[Bj];omega)
 replace b2:(Cj .i64).bulk U<=Rows.uptoBulk d2:=b2
 have e2:=Bif l2 (A2w underlying3 (by simp) (by simp) (z 2 3 v2 rfl rfl))
 exact Bbq (Aoe S a1 U) (Bg4 hL) (G S a1 U g0 g1 g2 (by omega)) (LR.cons e0 (LR.cons e1 (LR.one e2)))
theorem Apn (R:M7) (os:Os) (D:os.Started) (H:Type) (enc:TypeId×Go.Value→H) (F:Stop.Interp):
  ReturnsInHanded {} Tryz.checked os 3 .any ((Rows.OpenSpec.upto Rows.airspaceCheckSpecSpec).preRow enc prog Tryz.f3 Rows.airspaceCheckSpecUptoRow.domain false Rows.airspaceCheckSpecUptoRow.laid) (((Rows.OpenSpec.upto Rows.airspaceCheckSpecSpec).at F).post enc prog Tryz.f3 false true false false):=by
 have U:∃z,DataW.whole enc prog ((World.doorLaid prog 132 os).forCall (λ_ _=>0) ⟨#[],#[.agg #[.int .i64 0,.slice none 0 0,.slice none 0 0,.slice none 0 0,.slice none 0 0,.slice none 0 0],.int .i64 0,.int .i64 0],[]⟩).memory Tryz.f3.params.toList Rows.airspaceCheckSpecSpec.vars false #[.agg #[.int .i64 0,.slice none 0 0,.slice none 0 0,.slice none 0 0,.slice none 0 0,.slice none 0 0],.int .i64 0,.int .i64 0].toList 8=some ([.agg [.lit (.int .i64 0),.nil,.nil,.nil,.nil,.nil],.lit (.int .i64 0),.lit (.int .i64 0)],[],z):=⟨[],by kernel_rfl⟩
 obtain⟨z,U⟩:=U
 refine returnsInHanded_of_row (C:=Tryz.checked) (s:=Rows.OpenSpec.upto Rows.airspaceCheckSpecSpec) own D (by kernel_rfl) func3
  (Ap2 (enc:=enc) (C:=Tryz.checked) false (World.doorLaid prog 132 os) #[.agg #[.int .i64 0,.slice none 0 0,.slice none 0 0,.slice none 0 0,.slice none 0 0,.slice none 0 0],.int .i64 0,.int .i64 0] rfl (World.shaped_of_RefB (by kernel_rfl) (by kernel_rfl)) (by kernel_rfl) (OpenSpec.preRow_of_cond 8 U (by kernel_rfl) (λk hk=>by cases hk;kernel_rfl) (by kernel_rfl) (laidMetH_of_parts3 (fuel:=8) (laidMet_of_run' 8 (by kernel_rfl) (by kernel_rfl)) (by kernel_rfl) (by kernel_rfl)))) ?_
 intro W base args ds V G S X _ O _ Y _ _
 exact An6 R H enc W base args ds V G S X (O _ rfl) Y
def M5 {a b:Bool}(z:a=true)(D:b=true):(a&&b)=true:=by rw[z,D];rfl
def Asd:mapsRowed prog=true:=by kernel_rfl
def Ase:(Rows.airspaceCheckSpecUptoRow.inPlace==prog.inPlace 3)=true:=by kernel_rfl
def Aq1:(Rows.airspaceCheckSpecUptoRow.unfollowed==prog.unfollowed 3)=true:=by kernel_rfl
def Aqr:(Rows.airspaceCheckSpecUptoRow.recurses==prog.recurses 3)=true:=by kernel_rfl
def Aqi:(Rows.airspaceCheckSpecUptoRow.named==prog.varsNamed 3)=true:=by kernel_rfl
def Aqt:(Rows.airspaceCheckSpecUptoRow.plainKeys==prog.plainKeys)=true:=by kernel_rfl
def Aq3:prog.stopsHeard=true:=by kernel_rfl
def Aql:prog.mayEnter=true:=by kernel_rfl
def Aq2:(Rows.airspaceCheckSpecUptoRow.lifted==prog.liftsFinal)=true:=by kernel_rfl
def Aq8:(prog.make==some Rows.airspaceCheckSpecUptoRow.make)=true:=by kernel_rfl
def Apl:joinedFacts prog 3 Tryz.f3 (Rows.OpenSpec.upto Rows.airspaceCheckSpecSpec).bare Rows.airspaceCheckSpecUptoRow=true:=by unfold joinedFacts;exact M5 (M5 (M5 (M5 (M5 (M5 (M5 (M5 (M5 (M5 (M5 (M5 (M5 (M5 (M5 (M5 (M5 (M5 (M5 (M5 (M5 (M5 (M5 (M5 (M5 (M5 (M5 (M5 (M5 (M5 (M5 (by kernel_rfl) A46) Asd) (by kernel_rfl)) (by kernel_rfl)) (by kernel_rfl)) (by kernel_rfl)) (by kernel_rfl)) (by kernel_rfl)) Ase) Aq1) Aqr) Aqi) (by kernel_rfl)) (by kernel_rfl)) (by kernel_rfl)) (by kernel_rfl)) (by kernel_rfl)) (by kernel_rfl)) (by kernel_rfl)) (by kernel_rfl)) (by kernel_rfl)) Aqt) (by kernel_rfl)) Aq3) Aql) Aq2) Aq8) (by kernel_rfl)) (by kernel_rfl)) (by kernel_rfl)) (by kernel_rfl)
def Ari:prog.mainIs=some (Rows.airspaceCheckSpecUptoCard.stood.harness.1,Rows.airspaceCheckSpecUptoCard.stood.harness.2.toList):=by kernel_rfl
def Arp:Rows.airspaceCheckSpecUptoCard.stood.looks=prog.looks []:=by kernel_rfl
def Ar7:false=Rows.airspaceCheckSpecUptoRow.goesBy prog:=by kernel_rfl
def Aq5:Tryz.f3.isInstance prog Rows.airspaceCheckSpecUptoRow.origin Rows.airspaceCheckSpecUptoRow.targs:=of_decide_eq_true (by kernel_rfl)
def Ape (D:M7):Rows.AirspaceCheckSpecUptoSaid:=
 OpenClaim.holds_of_cond 3 Tryz.f3 rfl rfl rfl rfl rfl rfl rfl ⟨rfl,rfl,rfl,rfl,rfl⟩ rfl rfl rfl rfl rfl (by kernel_rfl) func3 Apl
  Aq5 (by unfold Func.isWrapper;first|(rw[if_pos (by decide+kernel)];kernel_rfl)|(rw[if_neg (by decide+kernel)];exact⟨rfl,rfl⟩))
  (λos z H enc _ F=>by rw[OpenClaim.pre_eq_preRow];exact Apn D os z H enc F)
def Aqk (z:M7):Rows.AirspaceCheckSpecUptoCardSaid:=
 Claim7.holds_tied_plain_at .later [] _ _ _ _ (Ape z) (λ_ h=>by cases h) (by kernel_rfl) (λ_ h=>by cases h) airspaceCheckSpecUpto_row_tie rfl ⟨rfl,rfl⟩ Ari rfl
  (λf fn hf D=>by
   obtain rfl:f=3:=AS ((show prog.funcNamed Rows.airspaceCheckSpecUptoRow.func=some 3 by kernel_rfl).symm.trans hf)|>.symm;obtain rfl:fn=Tryz.f3:=(AS (func3.symm.trans D)).symm;refine⟨Arp,λj t ht=>?_⟩;rw[Tryz.params3]at ht;exact match j,ht with
    |0,h=>by cases h;exact(show prog.wantsStandIn 28=false by kernel_rfl)
    |1,h=>by cases h;exact(show prog.wantsStandIn 3=false by kernel_rfl)
    |2,h=>by cases h;exact(show prog.wantsStandIn 3=false by kernel_rfl)
    |_+3,h=>by cases h)
  Ar7
end Go.Proofs.YtpijakedfmencaaGreatDoor.laws

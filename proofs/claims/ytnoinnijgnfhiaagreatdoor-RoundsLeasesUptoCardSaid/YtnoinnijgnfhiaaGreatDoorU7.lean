/- Written by shrink.py from texts of ours: comments struck, what is not reached left out, names short. -/
import Derived.Test.YtnoinnijgnfhiaaGreatDoorU6
namespace Go.Proofs.YtnoinnijgnfhiaaGreatDoor.laws
open Go Go.Am Go.ChangeShapes Go.WideShapes Go.ChangeAt Go.RowKit
set_option maxRecDepth 100000
set_option linter.unusedVariables false
set_option linter.unusedSimpArgs false
theorem Ac6 (hlaw:Ok)(H:Type)(enc:TypeId×Value→H)(W:World)(base:Nat)(args:Array Value)(ds gs:List (DataW H))(before:List MemPlace)
  (hval : ∀ (j:Nat) t v,Tryz.f7.params[j]? = some t→args[j]? = some v→Value.okWide Tryz.prog W .any base t v)
  (hW:DataW.Whole enc Tryz.prog Tryz.f7.params.toList Rows.roundsLeasesSpec.vars false W args.toList ds gs before) (hk:Rows.uptoSmall H (ds++gs)=true) (hL:laidMetH Tryz.prog Rows.roundsLeasesUptoRow.laid W) :
  Calls Tryz.prog 7 args W fun e W' => ∃ v,e=.returned v∧Rows.roundsLeasesSpec.post enc Tryz.prog Tryz.f7 false true false false W args v W':=by
 refine Auj (tb:=4) hW Awm (by rw [Tryz.params7]; exact(List.forall_mem_cons.2 ⟨A1b,(List.forall_mem_cons.2 ⟨A1c,(fun _ h=>(List.not_mem_nil h).elim)⟩)⟩)) rfl (by kernel_rfl) Tryz.underlying4 (fun ds hd=>?_) ?_
 ·rw [Tryz.params7] at hd
  match ds,hd with
  | [x0,x1],_=>rfl
 obtain⟨p,q,hA,hV,rfl,hfz,hnd⟩:=hW
 rw [Tryz.params7] at hA hval
 obtain⟨v0,vs0,d0,ds0,p0,q0,hargs,rfl,rfl,h0,r0⟩:=trodAll_cons hA
 obtain⟨v1,vs1,d1,ds1,p1,q1,rfl,rfl,rfl,h1,r1⟩:=trodAll_cons r0
 obtain⟨rfl,rfl,rfl⟩:=trodAll_nil r1
 obtain rfl:args = #[v0,v1]:=by cases args; simp_all
 obtain⟨rfl,rfl⟩:=trodVars_none hV
 have hb:Rows.uptoBulkAll [d0,d1]≤1048576:=of_decide_eq_true hk
 have hB:=Aum (H:=H)
 simp only [hB.cons,hB.nil] at hb
 obtain⟨m0,h0⟩:=h0
 obtain⟨a0,l0,g0,b0⟩:=A0y enc W _ _ m0 _ _ _ _ hB h0 (by simp only [Bz]; omega)
 replace b0:Ab0.bulk a0≤Rows.uptoBulk d0:=b0
 obtain⟨c0,rfl,_⟩:=okWide_struct Tryz.underlying35 (hval 0 35 v0 rfl rfl)
 have e0:=Atm l0
 obtain⟨m1,h1⟩:=h1
 obtain⟨a1,l1,g1,b1⟩:=A0n enc W _ _ m1 _ _ _ _ hB h1 (by simp only [Bz]; omega)
 replace b1:Ahg.bulk a1≤Rows.uptoBulk d1:=b1
 obtain⟨c1,rfl,_⟩:=okWide_struct Tryz.underlying76 (hval 1 76 v1 rfl rfl)
 have e1:=Atm l1
 exact Atf (Adf a0 a1) (Aw1 hL) (hlaw a0 a1 g0 g1 (by omega)) (LR.cons e0 (LR.one e1))
set_option maxRecDepth 100000 in
theorem Afb (hlaw : Ok) (os : Os) (started : os.Started) (H : Type) (enc : TypeId × Value → H) (F : Stop.Interp) :
  ReturnsInHanded {} Tryz.checked os 7 .any ((Rows.OpenSpec.upto Rows.roundsLeasesSpec).preRow enc Tryz.prog Tryz.f7 Rows.roundsLeasesUptoRow.domain false Rows.roundsLeasesUptoRow.laid) (((Rows.OpenSpec.upto Rows.roundsLeasesSpec).at F).post enc Tryz.prog Tryz.f7 false true false false) := by
 have hx : ∃ places, DataW.whole enc Tryz.prog ((World.doorLaid Tryz.prog 24 os).forCall (fun _ _ => 0) ⟨#[], #[.agg #[.int .i64 0, .int .i64 0, .int .i64 0, .slice none 0 0, .slice none 0 0, .slice none 0 0, .slice none 0 0, .slice none 0 0], .agg #[.int .i64 0, .slice none 0 0]], []⟩).memory Tryz.f7.params.toList Rows.roundsLeasesSpec.vars false #[.agg #[.int .i64 0, .int .i64 0, .int .i64 0, .slice none 0 0, .slice none 0 0, .slice none 0 0, .slice none 0 0, .slice none 0 0], .agg #[.int .i64 0, .slice none 0 0]].toList 8 = some ([.agg [.lit (.int .i64 0), .lit (.int .i64 0), .lit (.int .i64 0), .nil, .nil, .nil, .nil, .nil], .agg [.lit (.int .i64 0), .nil]], [], places) := ⟨[], by kernel_rfl⟩
 obtain ⟨places, hx⟩ := hx
 refine returnsInHanded_of_row (C := Tryz.checked) (s := Rows.OpenSpec.upto Rows.roundsLeasesSpec) own started (by kernel_rfl) Tryz.func7
  (Afm (enc := enc) (C := Tryz.checked) false (World.doorLaid Tryz.prog 24 os) #[.agg #[.int .i64 0, .int .i64 0, .int .i64 0, .slice none 0 0, .slice none 0 0, .slice none 0 0, .slice none 0 0, .slice none 0 0], .agg #[.int .i64 0, .slice none 0 0]] rfl (World.shaped_of_RefB (by kernel_rfl) (by kernel_rfl)) (by kernel_rfl)
   (OpenSpec.preRow_of_cond 8 hx (by kernel_rfl) (fun k hk => by cases hk; kernel_rfl) (by kernel_rfl) (laidMetH_of_parts3 (fuel := 8) (laidMet_of_run' 8 (by kernel_rfl) (by kernel_rfl)) (by kernel_rfl) (by kernel_rfl)))) ?_
 intro W base args ds gs before hval hW _ hcond _ hL _ _
 exact Ac6 hlaw H enc W base args ds gs before hval hW (hcond _ rfl) hL
theorem Adx (hlaw:Ok):Rows.RoundsLeasesUptoSaid:=
 OpenClaim.holds_of_cond 7 Tryz.f7 rfl rfl rfl rfl rfl rfl rfl ⟨rfl,rfl,rfl,rfl,rfl⟩ rfl rfl rfl rfl rfl (by kernel_rfl) Tryz.func7 (by kernel_rfl)
  (of_decide_eq_true (by kernel_rfl)) (by unfold Func.isWrapper; first | (rw [if_pos (by decide +kernel)]; kernel_rfl) | (rw [if_neg (by decide +kernel)]; exact⟨rfl,rfl⟩))
  (fun os started H enc _ F=>by rw [OpenClaim.pre_eq_preRow]; exact Afb hlaw os started H enc F)
theorem Ahu (hlaw:Ok):Rows.RoundsLeasesUptoCardSaid:=
 Claim7.holds_tied_plain_at .later [] _ _ _ _ (Adx hlaw) (fun _ h=>by cases h) (by kernel_rfl) (fun _ h=>by cases h) roundsLeasesUpto_row_tie rfl ⟨rfl,rfl⟩ (by kernel_rfl) rfl
  (fun f fn hf hfn=>by
   obtain rfl:f=7:=Option.some.inj ((show Tryz.prog.funcNamed Rows.roundsLeasesUptoRow.func=some 7 by kernel_rfl).symm.trans hf) |>.symm
   obtain rfl:fn=Tryz.f7:=(Option.some.inj (Tryz.func7.symm.trans hfn)).symm
   refine⟨by kernel_rfl,fun j t ht=>?_⟩
   rw [Tryz.params7] at ht
   exact match j,ht with
    | 0,h=>by cases h; exact(show Tryz.prog.wantsStandIn 35=false by kernel_rfl)
    | 1,h=>by cases h; exact(show Tryz.prog.wantsStandIn 76=false by kernel_rfl)
    | _+2,h=>by cases h)
  (by kernel_rfl)
end Go.Proofs.YtnoinnijgnfhiaaGreatDoor.laws

/- Written by shrink.py from texts of ours: comments struck, what is not reached left out, names short. -/
import Derived.Test.YtnoinnijgnfhiaaGreatDoorU6
namespace Go.Proofs.YtnoinnijgnfhiaaGreatDoor.laws
open Go Go.Am Go.ChangeShapes Go.WideShapes Go.ChangeAt Go.RowKit
set_option maxRecDepth 100000
set_option linter.unusedVariables false
set_option linter.unusedSimpArgs false
theorem Aar (hlaw:O1)(H:Type)(enc:TypeId×Value→H)(W:World)(base:Nat)(args:Array Value)(ds gs:List (DataW H))(before:List MemPlace)
  (hval : ∀ (j:Nat) t v,Tryz.f3.params[j]? = some t→args[j]? = some v→Value.okWide Tryz.prog W .any base t v)
  (hW:DataW.Whole enc Tryz.prog Tryz.f3.params.toList Rows.roundsFairSpec.vars false W args.toList ds gs before) (hk:Rows.uptoSmall H (ds++gs)=true) (hL:laidMetH Tryz.prog Rows.roundsFairUptoRow.laid W) :
  Calls Tryz.prog 3 args W fun e W' => ∃ v,e=.returned v∧Rows.roundsFairSpec.post enc Tryz.prog Tryz.f3 false true false false W args v W':=by
 refine Arm (tb:=4) hW Atc (by rw [Tryz.params3]; exact(List.forall_mem_cons.2 ⟨Axl,(fun _ h=>(List.not_mem_nil h).elim)⟩)) rfl (by kernel_rfl) Tryz.underlying4 (fun ds hd=>?_) ?_
 ·rw [Tryz.params3] at hd
  match ds,hd with
  | [x0],_=>rfl
 obtain⟨p,q,hA,hV,rfl,hfz,hnd⟩:=hW
 rw [Tryz.params3] at hA hval
 obtain⟨v0,vs0,d0,ds0,p0,q0,hargs,rfl,rfl,h0,r0⟩:=trodAll_cons hA
 obtain⟨rfl,rfl,rfl⟩:=trodAll_nil r0
 obtain rfl:args = #[v0]:=by cases args; simp_all
 obtain⟨rfl,rfl⟩:=trodVars_none hV
 have hb:Rows.uptoBulkAll [d0]≤1048576:=of_decide_eq_true hk
 have hB:=Arl (H:=H)
 simp only [hB.cons,hB.nil] at hb
 obtain⟨m0,h0⟩:=h0
 obtain⟨a0,l0,g0,b0⟩:=Axs enc W _ _ m0 _ _ _ _ hB h0 (by simp only [Bs]; omega)
 replace b0:Agk.bulk a0≤Rows.uptoBulk d0:=b0
 obtain⟨c0,rfl,_⟩:=okWide_struct Tryz.underlying26 (hval 0 26 v0 rfl rfl)
 have e0:=Aup l0
 exact Aor (Aav a0) (Atu hL) (hlaw a0 g0 (by omega)) (LR.one e0)
set_option maxRecDepth 100000 in
theorem Ac2 (hlaw : O1) (os : Os) (started : os.Started) (H : Type) (enc : TypeId × Value → H) (F : Stop.Interp) :
  ReturnsInHanded {} Tryz.checked os 3 .any ((Rows.OpenSpec.upto Rows.roundsFairSpec).preRow enc Tryz.prog Tryz.f3 Rows.roundsFairUptoRow.domain false Rows.roundsFairUptoRow.laid) (((Rows.OpenSpec.upto Rows.roundsFairSpec).at F).post enc Tryz.prog Tryz.f3 false true false false) := by
 have hx : ∃ places, DataW.whole enc Tryz.prog ((World.doorLaid Tryz.prog 24 os).forCall (fun _ _ => 0) ⟨#[], #[.agg #[.slice none 0 0, .int .u8 0, .slice none 0 0, .slice none 0 0, .slice none 0 0]], []⟩).memory Tryz.f3.params.toList Rows.roundsFairSpec.vars false #[.agg #[.slice none 0 0, .int .u8 0, .slice none 0 0, .slice none 0 0, .slice none 0 0]].toList 8 = some ([.agg [.nil, .lit (.int .u8 0), .nil, .nil, .nil]], [], places) := ⟨[], by kernel_rfl⟩
 obtain ⟨places, hx⟩ := hx
 refine returnsInHanded_of_row (C := Tryz.checked) (s := Rows.OpenSpec.upto Rows.roundsFairSpec) own started (by kernel_rfl) Tryz.func3
  (Ab3 (enc := enc) (C := Tryz.checked) false (World.doorLaid Tryz.prog 24 os) #[.agg #[.slice none 0 0, .int .u8 0, .slice none 0 0, .slice none 0 0, .slice none 0 0]] rfl (World.shaped_of_RefB (by kernel_rfl) (by kernel_rfl)) (by kernel_rfl)
   (OpenSpec.preRow_of_cond 8 hx (by kernel_rfl) (fun k hk => by cases hk; kernel_rfl) (by kernel_rfl) (laidMetH_of_parts3 (fuel := 8) (laidMet_of_run' 8 (by kernel_rfl) (by kernel_rfl)) (by kernel_rfl) (by kernel_rfl)))) ?_
 intro W base args ds gs before hval hW _ hcond _ hL _ _
 exact Aar hlaw H enc W base args ds gs before hval hW (hcond _ rfl) hL
theorem Aa6 (hlaw:O1):Rows.RoundsFairUptoSaid:=
 OpenClaim.holds_of_cond 3 Tryz.f3 rfl rfl rfl rfl rfl rfl rfl ⟨rfl,rfl,rfl,rfl,rfl⟩ rfl rfl rfl rfl rfl (by kernel_rfl) Tryz.func3 (by kernel_rfl)
  (of_decide_eq_true (by kernel_rfl)) (by unfold Func.isWrapper; first | (rw [if_pos (by decide +kernel)]; kernel_rfl) | (rw [if_neg (by decide +kernel)]; exact⟨rfl,rfl⟩))
  (fun os started H enc _ F=>by rw [OpenClaim.pre_eq_preRow]; exact Ac2 hlaw os started H enc F)
theorem Afj (hlaw:O1):Rows.RoundsFairUptoCardSaid:=
 Claim7.holds_tied_plain_at .later [] _ _ _ _ (Aa6 hlaw) (fun _ h=>by cases h) (by kernel_rfl) (fun _ h=>by cases h) roundsFairUpto_row_tie rfl ⟨rfl,rfl⟩ (by kernel_rfl) rfl
  (fun f fn hf hfn=>by
   obtain rfl:f=3:=Option.some.inj ((show Tryz.prog.funcNamed Rows.roundsFairUptoRow.func=some 3 by kernel_rfl).symm.trans hf) |>.symm
   obtain rfl:fn=Tryz.f3:=(Option.some.inj (Tryz.func3.symm.trans hfn)).symm
   refine⟨by kernel_rfl,fun j t ht=>?_⟩
   rw [Tryz.params3] at ht
   exact match j,ht with
    | 0,h=>by cases h; exact(show Tryz.prog.wantsStandIn 26=false by kernel_rfl)
    | _+1,h=>by cases h)
  (by kernel_rfl)
end Go.Proofs.YtnoinnijgnfhiaaGreatDoor.laws

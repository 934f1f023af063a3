/- Written by shrink.py from texts of ours: comments struck, what is not reached left out, names short. -/
import Derived.Test.YtjidhdlbojmlfaaGreatDoorU7
namespace Go.Proofs.YtjidhdlbojmlfaaGreatDoor.laws
open Go Go.Am Go.ChangeShapes Go.WideShapes Go.ChangeAt Go.RowKit
set_option maxRecDepth 100000
set_option linter.unusedVariables false
set_option linter.unusedSimpArgs false
theorem Aax (hlaw:Oz)(H:Type)(enc:TypeId×Value→H)(W:World)(base:Nat)(args:Array Value)(ds gs:List (DataW H))(before:List MemPlace)
  (hval : ∀ (j:Nat) t v,Tryz.f5.params[j]? = some t→args[j]? = some v→Value.okWide Tryz.prog W .any base t v)
  (hW:DataW.Whole enc Tryz.prog Tryz.f5.params.toList Rows.syntaxAgainSpec.vars false W args.toList ds gs before) (hk:Rows.uptoSmall H (ds++gs)=true) (hL:laidMetH Tryz.prog Rows.syntaxAgainUptoRow.laid W) :
  Calls Tryz.prog 5 args W fun e W' => ∃ v,e=.returned v∧Rows.syntaxAgainSpec.post enc Tryz.prog Tryz.f5 false true false false W args v W':=by
 refine Ao7 (tb:=4) hW Aqd (by rw [Tryz.params5]; exact(List.forall_mem_cons.2 ⟨rd9,(fun _ h=>(List.not_mem_nil h).elim)⟩)) rfl (by kernel_rfl) Tryz.underlying4 (fun ds hd=>?_) ?_
 ·rw [Tryz.params5] at hd
  match ds,hd with
  | [x0],_=>rfl
 obtain⟨p,q,hA,hV,rfl,hfz,hnd⟩:=hW
 rw [Tryz.params5] at hA hval
 obtain⟨v0,vs0,d0,ds0,p0,q0,hargs,rfl,rfl,h0,r0⟩:=trodAll_cons hA
 obtain⟨rfl,rfl,rfl⟩:=trodAll_nil r0
 obtain rfl:args = #[v0]:=by cases args; simp_all
 obtain⟨rfl,rfl⟩:=trodVars_none hV
 have hb:Rows.uptoBulkAll [d0]≤1048576:=of_decide_eq_true hk
 have hB:=Aos (H:=H)
 simp only [hB.cons,hB.nil] at hb
 obtain⟨m0,h0⟩:=h0
 obtain⟨a0,l0,g0,b0⟩:=on9 enc W _ _ m0 _ _ _ _ hB h0 (by simp only [Eo]; omega)
 replace b0:Ah9.bulk a0≤Rows.uptoBulk d0:=b0
 have e0:=Ar3 l0 (Ai7 Tryz.underlying9 (by simp) (by simp) (hval 0 9 v0 rfl rfl))
 exact Am2 (Aau a0) (Ash hL) (hlaw a0 g0 (by omega)) (LR.one e0)
set_option maxRecDepth 100000 in
theorem Abg (hlaw : Oz) (os : Os) (started : os.Started) (H : Type) (enc : TypeId × Value → H) (F : Stop.Interp) :
  ReturnsInHanded {} Tryz.checked os 5 .any ((Rows.OpenSpec.upto Rows.syntaxAgainSpec).preRow enc Tryz.prog Tryz.f5 Rows.syntaxAgainUptoRow.domain false Rows.syntaxAgainUptoRow.laid) (((Rows.OpenSpec.upto Rows.syntaxAgainSpec).at F).post enc Tryz.prog Tryz.f5 false true false false) := by
 have hx : ∃ places, DataW.whole enc Tryz.prog ((World.doorLaid Tryz.prog 122 os).forCall (fun _ _ => 0) ⟨#[], #[.string .empty], []⟩).memory Tryz.f5.params.toList Rows.syntaxAgainSpec.vars false #[.string .empty].toList 8 = some ([.lit (.string [])], [], places) := ⟨[], by kernel_rfl⟩
 obtain ⟨places, hx⟩ := hx
 refine returnsInHanded_of_row (C := Tryz.checked) (s := Rows.OpenSpec.upto Rows.syntaxAgainSpec) own started (by kernel_rfl) Tryz.func5
  (Abv (enc := enc) (C := Tryz.checked) false (World.doorLaid Tryz.prog 122 os) #[.string .empty] rfl (World.shaped_of_RefB (by kernel_rfl) (by kernel_rfl)) (by kernel_rfl)
   (OpenSpec.preRow_of_cond 8 hx (by kernel_rfl) (fun k hk => by cases hk; kernel_rfl) (by kernel_rfl) (laidMetH_of_parts3 (fuel := 8) (laidMet_of_run' 8 (by kernel_rfl) (by kernel_rfl)) (by kernel_rfl) (by kernel_rfl)))) ?_
 intro W base args ds gs before hval hW _ hcond _ hL _ _
 exact Aax hlaw H enc W base args ds gs before hval hW (hcond _ rfl) hL
theorem Aba (hlaw:Oz):Rows.SyntaxAgainUptoSaid:=
 OpenClaim.holds_of_cond 5 Tryz.f5 rfl rfl rfl rfl rfl rfl rfl ⟨rfl,rfl,rfl,rfl,rfl⟩ rfl rfl rfl rfl rfl (by kernel_rfl) Tryz.func5 (by kernel_rfl)
  (of_decide_eq_true (by kernel_rfl)) (by unfold Func.isWrapper; first | (rw [if_pos (by decide +kernel)]; kernel_rfl) | (rw [if_neg (by decide +kernel)]; exact⟨rfl,rfl⟩))
  (fun os started H enc _ F=>by rw [OpenClaim.pre_eq_preRow]; exact Abg hlaw os started H enc F)
theorem Adg (hlaw:Oz):Rows.SyntaxAgainUptoCardSaid:=
 Claim7.holds_tied_plain_at .later [] _ _ _ _ (Aba hlaw) (fun _ h=>by cases h) (by kernel_rfl) (fun _ h=>by cases h) syntaxAgainUpto_row_tie rfl ⟨rfl,rfl⟩ (by kernel_rfl) rfl
  (fun f fn hf hfn=>by
   obtain rfl:f=5:=Option.some.inj ((show Tryz.prog.funcNamed Rows.syntaxAgainUptoRow.func=some 5 by kernel_rfl).symm.trans hf) |>.symm
   obtain rfl:fn=Tryz.f5:=(Option.some.inj (Tryz.func5.symm.trans hfn)).symm
   refine⟨by kernel_rfl,fun j t ht=>?_⟩
   rw [Tryz.params5] at ht
   exact match j,ht with
    | 0,h=>by cases h; exact(show Tryz.prog.wantsStandIn 9=false by kernel_rfl)
    | _+1,h=>by cases h)
  (by kernel_rfl)
end Go.Proofs.YtjidhdlbojmlfaaGreatDoor.laws

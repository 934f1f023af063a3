/- Written by shrink.py from texts of ours: comments struck, what is not reached left out, names short. -/
import Derived.Test.YtjidhdlbojmlfaaGreatDoorU7
namespace Go.Proofs.YtjidhdlbojmlfaaGreatDoor.laws
open Go Go.Am Go.ChangeShapes Go.WideShapes Go.ChangeAt Go.RowKit
set_option maxRecDepth 100000
set_option linter.unusedVariables false
set_option linter.unusedSimpArgs false
theorem Wb (hlaw:Mg)(H:Type)(enc:TypeId×Value→H)(W:World)(base:Nat)(args:Array Value)(ds gs:List (DataW H))(before:List MemPlace)
  (hval : ∀ (j:Nat) t v,Tryz.f7.params[j]? = some t→args[j]? = some v→Value.okWide Tryz.prog W .any base t v)
  (hW:DataW.Whole enc Tryz.prog Tryz.f7.params.toList Rows.syntaxPlacesSpec.vars false W args.toList ds gs before) (hk:Rows.uptoSmall H (ds++gs)=true) (hL:laidMetH Tryz.prog Rows.syntaxPlacesUptoRow.laid W) :
  Calls Tryz.prog 7 args W fun e W' => ∃ v,e=.returned v∧Rows.syntaxPlacesSpec.post enc Tryz.prog Tryz.f7 false true false false W args v W':=by
 refine Aic (tb:=4) hW Akj (by rw [Tryz.params7]; exact(List.forall_mem_cons.2 ⟨rd9,(fun _ h=>(List.not_mem_nil h).elim)⟩)) rfl (by kernel_rfl) Tryz.underlying4 (fun ds hd=>?_) ?_
 ·rw [Tryz.params7] at hd
  match ds,hd with
  | [x0],_=>rfl
 obtain⟨p,q,hA,hV,rfl,hfz,hnd⟩:=hW
 rw [Tryz.params7] at hA hval
 obtain⟨v0,vs0,d0,ds0,p0,q0,hargs,rfl,rfl,h0,r0⟩:=trodAll_cons hA
 obtain⟨rfl,rfl,rfl⟩:=trodAll_nil r0
 obtain rfl:args = #[v0]:=by cases args; simp_all
 obtain⟨rfl,rfl⟩:=trodVars_none hV
 have hb:Rows.uptoBulkAll [d0]≤1048576:=of_decide_eq_true hk
 have hB:=Ai7 (H:=H)
 simp only [hB.cons,hB.nil] at hb
 obtain⟨m0,h0⟩:=h0
 obtain⟨a0,l0,g0,b0⟩:=on9 enc W _ _ m0 _ _ _ _ hB h0 (by simp only [Ek]; omega)
 replace b0:Ab7.bulk a0≤Rows.uptoBulk d0:=b0
 have e0:=Alj l0 (Aec Tryz.underlying9 (by simp) (by simp) (hval 0 9 v0 rfl rfl))
 exact Agp (Vq a0) (Ak0 hL) (hlaw a0 g0 (by omega)) (LR.one e0)
set_option maxRecDepth 100000 in
theorem Xe (hlaw : Mg) (os : Os) (started : os.Started) (H : Type) (enc : TypeId × Value → H) (F : Stop.Interp) :
  ReturnsInHanded {} Tryz.checked os 7 .any ((Rows.OpenSpec.upto Rows.syntaxPlacesSpec).preRow enc Tryz.prog Tryz.f7 Rows.syntaxPlacesUptoRow.domain false Rows.syntaxPlacesUptoRow.laid) (((Rows.OpenSpec.upto Rows.syntaxPlacesSpec).at F).post enc Tryz.prog Tryz.f7 false true false false) := by
 have hx : ∃ places, DataW.whole enc Tryz.prog ((World.doorLaid Tryz.prog 122 os).forCall (fun _ _ => 0) ⟨#[], #[.string .empty], []⟩).memory Tryz.f7.params.toList Rows.syntaxPlacesSpec.vars false #[.string .empty].toList 8 = some ([.lit (.string [])], [], places) := ⟨[], by kernel_rfl⟩
 obtain ⟨places, hx⟩ := hx
 refine returnsInHanded_of_row (C := Tryz.checked) (s := Rows.OpenSpec.upto Rows.syntaxPlacesSpec) own started (by kernel_rfl) Tryz.func7
  (Xj (enc := enc) (C := Tryz.checked) false (World.doorLaid Tryz.prog 122 os) #[.string .empty] rfl (World.shaped_of_RefB (by kernel_rfl) (by kernel_rfl)) (by kernel_rfl)
   (OpenSpec.preRow_of_cond 8 hx (by kernel_rfl) (fun k hk => by cases hk; kernel_rfl) (by kernel_rfl) (laidMetH_of_parts3 (fuel := 8) (laidMet_of_run' 8 (by kernel_rfl) (by kernel_rfl)) (by kernel_rfl) (by kernel_rfl)))) ?_
 intro W base args ds gs before hval hW _ hcond _ hL _ _
 exact Wb hlaw H enc W base args ds gs before hval hW (hcond _ rfl) hL
theorem Wt (hlaw:Mg):Rows.SyntaxPlacesUptoSaid:=
 OpenClaim.holds_of_cond 7 Tryz.f7 rfl rfl rfl rfl rfl rfl rfl ⟨rfl,rfl,rfl,rfl,rfl⟩ rfl rfl rfl rfl rfl (by kernel_rfl) Tryz.func7 (by kernel_rfl)
  (of_decide_eq_true (by kernel_rfl)) (by unfold Func.isWrapper; first | (rw [if_pos (by decide +kernel)]; kernel_rfl) | (rw [if_neg (by decide +kernel)]; exact⟨rfl,rfl⟩))
  (fun os started H enc _ F=>by rw [OpenClaim.pre_eq_preRow]; exact Xe hlaw os started H enc F)
theorem Yp (hlaw:Mg):Rows.SyntaxPlacesUptoCardSaid:=
 Claim7.holds_tied_plain_at .later [] _ _ _ _ (Wt hlaw) (fun _ h=>by cases h) (by kernel_rfl) (fun _ h=>by cases h) syntaxPlacesUpto_row_tie rfl ⟨rfl,rfl⟩ (by kernel_rfl) rfl
  (fun f fn hf hfn=>by
   obtain rfl:f=7:=Option.some.inj ((show Tryz.prog.funcNamed Rows.syntaxPlacesUptoRow.func=some 7 by kernel_rfl).symm.trans hf) |>.symm
   obtain rfl:fn=Tryz.f7:=(Option.some.inj (Tryz.func7.symm.trans hfn)).symm
   refine⟨by kernel_rfl,fun j t ht=>?_⟩
   rw [Tryz.params7] at ht
   exact match j,ht with
    | 0,h=>by cases h; exact(show Tryz.prog.wantsStandIn 9=false by kernel_rfl)
    | _+1,h=>by cases h)
  (by kernel_rfl)
end Go.Proofs.YtjidhdlbojmlfaaGreatDoor.laws

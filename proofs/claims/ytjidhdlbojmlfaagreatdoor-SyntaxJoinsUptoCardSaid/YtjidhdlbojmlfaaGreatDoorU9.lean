/- Written by shrink.py from texts of ours: comments struck, what is not reached left out, names short. -/
import Derived.Test.YtjidhdlbojmlfaaGreatDoorU8
namespace Go.Proofs.YtjidhdlbojmlfaaGreatDoor.laws
open Go Go.Am Go.ChangeShapes Go.WideShapes Go.ChangeAt Go.RowKit
set_option maxRecDepth 100000
set_option linter.unusedVariables false
set_option linter.unusedSimpArgs false
theorem X6 (hlaw:Nl)(H:Type)(enc:TypeId×Value→H)(W:World)(base:Nat)(args:Array Value)(ds gs:List (DataW H))(before:List MemPlace)
  (hval : ∀ (j:Nat) t v,Tryz.f8.params[j]? = some t→args[j]? = some v→Value.okWide Tryz.prog W .any base t v)
  (hW:DataW.Whole enc Tryz.prog Tryz.f8.params.toList Rows.syntaxJoinsSpec.vars false W args.toList ds gs before) (hk:Rows.uptoSmall H (ds++gs)=true) (hL:laidMetH Tryz.prog Rows.syntaxJoinsUptoRow.laid W) :
  Calls Tryz.prog 8 args W fun e W' => ∃ v,e=.returned v∧Rows.syntaxJoinsSpec.post enc Tryz.prog Tryz.f8 false true false false W args v W':=by
 refine Aj6 (tb:=4) hW Ame (by rw [Tryz.params8]; exact(List.forall_mem_cons.2 ⟨rd9,(List.forall_mem_cons.2 ⟨rd9,(fun _ h=>(List.not_mem_nil h).elim)⟩)⟩)) rfl (by kernel_rfl) Tryz.underlying4 (fun ds hd=>?_) ?_
 ·rw [Tryz.params8] at hd
  match ds,hd with
  | [x0,x1],_=>rfl
 obtain⟨p,q,hA,hV,rfl,hfz,hnd⟩:=hW
 rw [Tryz.params8] at hA hval
 obtain⟨v0,vs0,d0,ds0,p0,q0,hargs,rfl,rfl,h0,r0⟩:=trodAll_cons hA
 obtain⟨v1,vs1,d1,ds1,p1,q1,rfl,rfl,rfl,h1,r1⟩:=trodAll_cons r0
 obtain⟨rfl,rfl,rfl⟩:=trodAll_nil r1
 obtain rfl:args = #[v0,v1]:=by cases args; simp_all
 obtain⟨rfl,rfl⟩:=trodVars_none hV
 have hb:Rows.uptoBulkAll [d0,d1]≤1048576:=of_decide_eq_true hk
 have hB:=Ajh (H:=H)
 simp only [hB.cons,hB.nil] at hb
 obtain⟨m0,h0⟩:=h0
 obtain⟨a0,l0,g0,b0⟩:=on9 enc W _ _ m0 _ _ _ _ hB h0 (by simp only [D2]; omega)
 replace b0:V9.bulk a0≤Rows.uptoBulk d0:=b0
 have e0:=Agr l0 (Z3 Tryz.underlying9 (by simp) (by simp) (hval 0 9 v0 rfl rfl))
 obtain⟨m1,h1⟩:=h1
 obtain⟨a1,l1,g1,b1⟩:=on9 enc W _ _ m1 _ _ _ _ hB h1 (by simp only [D2]; omega)
 replace b1:V9.bulk a1≤Rows.uptoBulk d1:=b1
 have e1:=Agr l1 (Z3 Tryz.underlying9 (by simp) (by simp) (hval 1 9 v1 rfl rfl))
 exact Aio (Xv a0 a1) (Al9 hL) (hlaw a0 a1 g0 g1 (by omega)) (LR.cons e0 (LR.one e1))
set_option maxRecDepth 100000 in
theorem Y8 (hlaw : Nl) (os : Os) (started : os.Started) (H : Type) (enc : TypeId × Value → H) (F : Stop.Interp) :
  ReturnsInHanded {} Tryz.checked os 8 .any ((Rows.OpenSpec.upto Rows.syntaxJoinsSpec).preRow enc Tryz.prog Tryz.f8 Rows.syntaxJoinsUptoRow.domain false Rows.syntaxJoinsUptoRow.laid) (((Rows.OpenSpec.upto Rows.syntaxJoinsSpec).at F).post enc Tryz.prog Tryz.f8 false true false false) := by
 have hx : ∃ places, DataW.whole enc Tryz.prog ((World.doorLaid Tryz.prog 122 os).forCall (fun _ _ => 0) ⟨#[], #[.string .empty, .string .empty], []⟩).memory Tryz.f8.params.toList Rows.syntaxJoinsSpec.vars false #[.string .empty, .string .empty].toList 8 = some ([.lit (.string []), .lit (.string [])], [], places) := ⟨[], by kernel_rfl⟩
 obtain ⟨places, hx⟩ := hx
 refine returnsInHanded_of_row (C := Tryz.checked) (s := Rows.OpenSpec.upto Rows.syntaxJoinsSpec) own started (by kernel_rfl) Tryz.func8
  (Yy (enc := enc) (C := Tryz.checked) false (World.doorLaid Tryz.prog 122 os) #[.string .empty, .string .empty] rfl (World.shaped_of_RefB (by kernel_rfl) (by kernel_rfl)) (by kernel_rfl)
   (OpenSpec.preRow_of_cond 8 hx (by kernel_rfl) (fun k hk => by cases hk; kernel_rfl) (by kernel_rfl) (laidMetH_of_parts3 (fuel := 8) (laidMet_of_run' 8 (by kernel_rfl) (by kernel_rfl)) (by kernel_rfl) (by kernel_rfl)))) ?_
 intro W base args ds gs before hval hW _ hcond _ hL _ _
 exact X6 hlaw H enc W base args ds gs before hval hW (hcond _ rfl) hL
theorem Yk (hlaw:Nl):Rows.SyntaxJoinsUptoSaid:=
 OpenClaim.holds_of_cond 8 Tryz.f8 rfl rfl rfl rfl rfl rfl rfl ⟨rfl,rfl,rfl,rfl,rfl⟩ rfl rfl rfl rfl rfl (by kernel_rfl) Tryz.func8 (by kernel_rfl)
  (of_decide_eq_true (by kernel_rfl)) (by unfold Func.isWrapper; first | (rw [if_pos (by decide +kernel)]; kernel_rfl) | (rw [if_neg (by decide +kernel)]; exact⟨rfl,rfl⟩))
  (fun os started H enc _ F=>by rw [OpenClaim.pre_eq_preRow]; exact Y8 hlaw os started H enc F)
theorem Z7 (hlaw:Nl):Rows.SyntaxJoinsUptoCardSaid:=
 Claim7.holds_tied_plain_at .later [] _ _ _ _ (Yk hlaw) (fun _ h=>by cases h) (by kernel_rfl) (fun _ h=>by cases h) syntaxJoinsUpto_row_tie rfl ⟨rfl,rfl⟩ (by kernel_rfl) rfl
  (fun f fn hf hfn=>by
   obtain rfl:f=8:=Option.some.inj ((show Tryz.prog.funcNamed Rows.syntaxJoinsUptoRow.func=some 8 by kernel_rfl).symm.trans hf) |>.symm
   obtain rfl:fn=Tryz.f8:=(Option.some.inj (Tryz.func8.symm.trans hfn)).symm
   refine⟨by kernel_rfl,fun j t ht=>?_⟩
   rw [Tryz.params8] at ht
   exact match j,ht with
    | 0,h=>by cases h; exact(show Tryz.prog.wantsStandIn 9=false by kernel_rfl)
    | 1,h=>by cases h; exact(show Tryz.prog.wantsStandIn 9=false by kernel_rfl)
    | _+2,h=>by cases h)
  (by kernel_rfl)
end Go.Proofs.YtjidhdlbojmlfaaGreatDoor.laws

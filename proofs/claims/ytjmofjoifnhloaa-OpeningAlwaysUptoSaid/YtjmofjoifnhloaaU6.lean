/- Written by shrink.py from texts of ours: comments struck, what is not reached left out, names short. -/
import Derived.Test.YtjmofjoifnhloaaU5
namespace Go.Proofs.Ytjmofjoifnhloaa.laws
open Go Go.Am Go.ChangeShapes Go.WideShapes Go.ChangeAt Go.RowKit
set_option maxRecDepth 100000
set_option linter.unusedVariables false
set_option linter.unusedSimpArgs false
theorem Ly (hlaw:F5)(H:Type)(enc:TypeId×Value→H)(W:World)(base:Nat)(args:Array Value)(ds gs:List (DataW H))(before:List MemPlace)
  (hval : ∀ (j:Nat) t v,Try.f6.params[j]? = some t→args[j]? = some v→Value.okWide Try.prog W .any base t v)
  (hW:DataW.Whole enc Try.prog Try.f6.params.toList Rows.openingAlwaysSpec.vars false W args.toList ds gs before) (hk:Rows.uptoSmall H (ds++gs)=true) :
  Calls Try.prog 6 args W fun e W' => ∃ v,e=.returned v∧Rows.openingAlwaysSpec.post enc Try.prog Try.f6 false true false false W args v W':=by
 refine Z4 (tb:=4) hW Abf (by rw [Try.params6]; exact(List.forall_mem_cons.2 ⟨Adq,(fun _ h=>(List.not_mem_nil h).elim)⟩)) rfl (by kernel_rfl) Try.underlying4 (fun ds hd=>?_) ?_
 ·rw [Try.params6] at hd
  match ds,hd with
  | [x0],_=>rfl
 obtain⟨p,q,hA,hV,rfl,hfz,hnd⟩:=hW
 rw [Try.params6] at hA hval
 obtain⟨v0,vs0,d0,ds0,p0,q0,hargs,rfl,rfl,h0,r0⟩:=trodAll_cons hA
 obtain⟨rfl,rfl,rfl⟩:=trodAll_nil r0
 obtain rfl:args = #[v0]:=by cases args; simp_all
 obtain⟨rfl,rfl⟩:=trodVars_none hV
 have hb:Rows.uptoBulkAll [d0]≤1048576:=of_decide_eq_true hk
 have hB:=Z0 (H:=H)
 simp only [hB.cons,hB.nil] at hb
 obtain⟨m0,h0⟩:=h0
 obtain⟨a0,l0,g0,b0⟩:=Adw enc W _ _ m0 _ _ _ _ hB h0 (by simp only [Do]; omega)
 replace b0:J3.bulk a0≤Rows.uptoBulk d0:=b0
 obtain⟨c0,rfl,_⟩:=okWide_struct Try.underlying31 (hval 0 31 v0 rfl rfl)
 have e0:=Abq l0
 exact Xh (L8 a0) ⟨Nat.zero_le _,trivial⟩ (hlaw a0 g0 (by omega)) (LR.one e0)
theorem M7 (hlaw:F5)(os:Os)(started:os.Started)(H:Type)(enc:TypeId×Value→H)(F:Stop.Interp) :
  ReturnsInHanded {} Try.checked os 6 .any ((Rows.OpenSpec.upto Rows.openingAlwaysSpec).pre6 enc Try.prog Try.f6 Rows.openingAlwaysUptoRow.domain false) (((Rows.OpenSpec.upto Rows.openingAlwaysSpec).at F).post enc Try.prog Try.f6 false true false false):=by
 refine returnsInHanded_of_cond (C:=Try.checked) (s:=Rows.OpenSpec.upto Rows.openingAlwaysSpec) (k:=Rows.uptoSmall) rfl own started (by kernel_rfl) Try.func6
  (OpenSpec.witness (enc:=enc) (C:=Try.checked) (s:=Rows.OpenSpec.upto Rows.openingAlwaysSpec) (k:=Rows.uptoSmall) rfl false ⟨#[],#[.agg #[.slice none 0 0,.slice none 0 0,.slice none 0 0,.slice none 0 0,.slice none 0 0,.slice none 0 0,.slice none 0 0,.slice none 0 0]],[]⟩ 8 (by kernel_rfl) (by kernel_rfl) (by kernel_rfl)
   (x:=([.agg [.nil,.nil,.nil,.nil,.nil,.nil,.nil,.nil]],[],[])) (by kernel_rfl) rfl (by kernel_rfl)) ?_
 intro W base args ds gs before hval hW _ hk _
 exact Ly hlaw H enc W base args ds gs before hval hW hk
theorem Om (hlaw:F5):Rows.OpeningAlwaysUptoSaid:=
 OpenClaim.holds_of_cond 6 Try.f6 rfl rfl rfl rfl rfl rfl rfl ⟨rfl,rfl,rfl,rfl,rfl⟩ rfl rfl rfl rfl rfl (by kernel_rfl) Try.func6 (by kernel_rfl)
  (of_decide_eq_true (by kernel_rfl)) (by unfold Func.isWrapper; first | (rw [if_pos (by decide +kernel)]; kernel_rfl) | (rw [if_neg (by decide +kernel)]; exact⟨rfl,rfl⟩))
  (fun os started H enc _ F=>M7 hlaw os started H enc F)
end Go.Proofs.Ytjmofjoifnhloaa.laws

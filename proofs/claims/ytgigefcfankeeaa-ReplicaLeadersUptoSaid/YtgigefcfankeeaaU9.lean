/- Written by shrink.py from texts of ours: comments struck, what is not reached left out, names short. -/
import Derived.Test.YtgigefcfankeeaaU8
namespace Go.Proofs.Ytgigefcfankeeaa.laws
open Go Go.Am Go.ChangeShapes Go.WideShapes Go.ChangeAt Go.RowKit
set_option maxRecDepth 100000
set_option linter.unusedVariables false
set_option linter.unusedSimpArgs false
theorem Uh (hlaw:Mc)(H:Type)(enc:TypeId×Value→H)(W:World)(base:Nat)(args:Array Value)(ds gs:List (DataW H))(before:List MemPlace)
  (hval : ∀ (j:Nat) t v,Try.f5.params[j]? = some t→args[j]? = some v→Value.okWide Try.prog W .any base t v)
  (hW:DataW.Whole enc Try.prog Try.f5.params.toList Rows.replicaLeadersSpec.vars false W args.toList ds gs before) (hk:Rows.uptoSmall H (ds++gs)=true) :
  Calls Try.prog 5 args W fun e W' => ∃ v,e=.returned v∧Rows.replicaLeadersSpec.post enc Try.prog Try.f5 false true false false W args v W':=by
 refine Ajw (tb:=4) hW Alt (by rw [Try.params5]; exact(List.forall_mem_cons.2 ⟨rd5,(List.forall_mem_cons.2 ⟨Aok,(fun _ h=>(List.not_mem_nil h).elim)⟩)⟩)) rfl (by kernel_rfl) Try.underlying4 (fun ds hd=>?_) ?_
 ·rw [Try.params5] at hd
  match ds,hd with
  | [x0,x1],_=>rfl
 obtain⟨p,q,hA,hV,rfl,hfz,hnd⟩:=hW
 rw [Try.params5] at hA hval
 obtain⟨v0,vs0,d0,ds0,p0,q0,hargs,rfl,rfl,h0,r0⟩:=trodAll_cons hA
 obtain⟨v1,vs1,d1,ds1,p1,q1,rfl,rfl,rfl,h1,r1⟩:=trodAll_cons r0
 obtain⟨rfl,rfl,rfl⟩:=trodAll_nil r1
 obtain rfl:args = #[v0,v1]:=by cases args; simp_all
 obtain⟨rfl,rfl⟩:=trodVars_none hV
 have hb:Rows.uptoBulkAll [d0,d1]≤1048576:=of_decide_eq_true hk
 have hB:=Akw (H:=H)
 simp only [hB.cons,hB.nil] at hb
 obtain⟨m0,h0⟩:=h0
 obtain⟨a0,l0,g0,b0⟩:=on5 enc W _ _ m0 _ _ _ _ hB h0 (by simp only [B2]; omega)
 replace b0:(Pt .u8).bulk a0≤Rows.uptoBulk d0:=b0
 have e0:=Af5 l0 (Y4 Try.underlying5 (by simp) (by simp) (hval 0 5 v0 rfl rfl))
 obtain⟨m1,h1⟩:=h1
 obtain⟨a1,l1,g1,b1⟩:=Aoa enc W _ _ m1 _ _ _ _ hB h1 (by simp only [B2]; omega)
 replace b1:(tSl 3 Zh).bulk a1≤Rows.uptoBulk d1:=b1
 have e1:=Af5 l1 (Y4 Try.underlying35 (by simp) (by simp) (hval 1 35 v1 rfl rfl))
 exact Aiw (Ue a0 a1) ⟨Nat.zero_le _,trivial⟩ (hlaw a0 a1 g0 g1 (by omega)) (LR.cons e0 (LR.one e1))
theorem V1 (hlaw:Mc)(os:Os)(started:os.Started)(H:Type)(enc:TypeId×Value→H)(F:Stop.Interp) :
  ReturnsInHanded {} Try.checked os 5 .any ((Rows.OpenSpec.upto Rows.replicaLeadersSpec).pre6 enc Try.prog Try.f5 Rows.replicaLeadersUptoRow.domain false) (((Rows.OpenSpec.upto Rows.replicaLeadersSpec).at F).post enc Try.prog Try.f5 false true false false):=by
 refine returnsInHanded_of_cond (C:=Try.checked) (s:=Rows.OpenSpec.upto Rows.replicaLeadersSpec) (k:=Rows.uptoSmall) rfl own started (by kernel_rfl) Try.func5
  (OpenSpec.witness (enc:=enc) (C:=Try.checked) (s:=Rows.OpenSpec.upto Rows.replicaLeadersSpec) (k:=Rows.uptoSmall) rfl false ⟨#[],#[.int .u8 0,.slice none 0 0],[]⟩ 8 (by kernel_rfl) (by kernel_rfl) (by kernel_rfl)
   (x:=([.lit (.int .u8 0),.nil],[],[])) (by kernel_rfl) rfl (by kernel_rfl)) ?_
 intro W base args ds gs before hval hW _ hk _
 exact Uh hlaw H enc W base args ds gs before hval hW hk
theorem W6 (hlaw:Mc):Rows.ReplicaLeadersUptoSaid:=
 OpenClaim.holds_of_cond 5 Try.f5 rfl rfl rfl rfl rfl rfl rfl ⟨rfl,rfl,rfl,rfl,rfl⟩ rfl rfl rfl rfl rfl (by kernel_rfl) Try.func5 (by kernel_rfl)
  (of_decide_eq_true (by kernel_rfl)) (by unfold Func.isWrapper; first | (rw [if_pos (by decide +kernel)]; kernel_rfl) | (rw [if_neg (by decide +kernel)]; exact⟨rfl,rfl⟩))
  (fun os started H enc _ F=>V1 hlaw os started H enc F)
end Go.Proofs.Ytgigefcfankeeaa.laws

/- Written by shrink.py from texts of ours: comments struck, what is not reached left out, names short. -/
import Derived.Test.YtgigefcfankeeaaU8
namespace Go.Proofs.Ytgigefcfankeeaa.laws
open Go Go.Am Go.ChangeShapes Go.WideShapes Go.ChangeAt Go.RowKit
set_option maxRecDepth 100000
set_option linter.unusedVariables false
set_option linter.unusedSimpArgs false
theorem Ut (hlaw:L1)(H:Type)(enc:TypeId×Value→H)(W:World)(base:Nat)(args:Array Value)(ds gs:List (DataW H))(before:List MemPlace)
  (hval : ∀ (j:Nat) t v,Try.f3.params[j]? = some t→args[j]? = some v→Value.okWide Try.prog W .any base t v)
  (hW:DataW.Whole enc Try.prog Try.f3.params.toList Rows.replicaCodeSpecSpec.vars false W args.toList ds gs before) (hk:Rows.uptoSmall H (ds++gs)=true) :
  Calls Try.prog 3 args W fun e W' => ∃ v,e=.returned v∧Rows.replicaCodeSpecSpec.post enc Try.prog Try.f3 false true false false W args v W':=by
 refine Alb (tb:=4) hW Amp (by rw [Try.params3]; exact(List.forall_mem_cons.2 ⟨Aox,(List.forall_mem_cons.2 ⟨Aow,(fun _ h=>(List.not_mem_nil h).elim)⟩)⟩)) rfl (by kernel_rfl) Try.underlying4 (fun ds hd=>?_) ?_
 ·rw [Try.params3] at hd
  match ds,hd with
  | [x0,x1],_=>rfl
 obtain⟨p,q,hA,hV,rfl,hfz,hnd⟩:=hW
 rw [Try.params3] at hA hval
 obtain⟨v0,vs0,d0,ds0,p0,q0,hargs,rfl,rfl,h0,r0⟩:=trodAll_cons hA
 obtain⟨v1,vs1,d1,ds1,p1,q1,rfl,rfl,rfl,h1,r1⟩:=trodAll_cons r0
 obtain⟨rfl,rfl,rfl⟩:=trodAll_nil r1
 obtain rfl:args = #[v0,v1]:=by cases args; simp_all
 obtain⟨rfl,rfl⟩:=trodVars_none hV
 have hb:Rows.uptoBulkAll [d0,d1]≤1048576:=of_decide_eq_true hk
 have hB:=Alz (H:=H)
 simp only [hB.cons,hB.nil] at hb
 obtain⟨m0,h0⟩:=h0
 obtain⟨a0,l0,g0,b0⟩:=Ao0 enc W _ _ m0 _ _ _ _ hB h0 (by simp only [C2]; omega)
 replace b0:Xj.bulk a0≤Rows.uptoBulk d0:=b0
 obtain⟨c0,rfl,_⟩:=okWide_struct Try.underlying24 (hval 0 24 v0 rfl rfl)
 have e0:=An2 l0
 obtain⟨m1,h1⟩:=h1
 obtain⟨a1,l1,g1,b1⟩:=Anf enc W _ _ m1 _ _ _ _ hB h1 (by simp only [C2]; omega)
 replace b1:(Ve 1 (G0 .u8)).bulk a1≤Rows.uptoBulk d1:=b1
 have e1:=Amo l1 (Agr Try.underlying25 (by simp) (by simp) (hval 1 25 v1 rfl rfl))
 exact Aj0 (Ur a0 a1) ⟨Nat.zero_le _,trivial⟩ (hlaw a0 a1 g0 g1 (by omega)) (LR.cons e0 (LR.one e1))
theorem Vz (hlaw:L1)(os:Os)(started:os.Started)(H:Type)(enc:TypeId×Value→H)(F:Stop.Interp) :
  ReturnsInHanded {} Try.checked os 3 .any ((Rows.OpenSpec.upto Rows.replicaCodeSpecSpec).pre6 enc Try.prog Try.f3 Rows.replicaCodeSpecUptoRow.domain false) (((Rows.OpenSpec.upto Rows.replicaCodeSpecSpec).at F).post enc Try.prog Try.f3 false true false false):=by
 refine returnsInHanded_of_cond (C:=Try.checked) (s:=Rows.OpenSpec.upto Rows.replicaCodeSpecSpec) (k:=Rows.uptoSmall) rfl own started (by kernel_rfl) Try.func3
  (OpenSpec.witness (enc:=enc) (C:=Try.checked) (s:=Rows.OpenSpec.upto Rows.replicaCodeSpecSpec) (k:=Rows.uptoSmall) rfl false ⟨#[],#[.agg #[.int .i64 0,.int .i64 0,.int .i64 0,.int .i64 0,.int .i64 0,.int .i64 0,.slice none 0 0,.int .i64 0,.int .i64 0,.bool false],.slice none 0 0],[]⟩ 8 (by kernel_rfl) (by kernel_rfl) (by kernel_rfl)
   (x:=([.agg [.lit (.int .i64 0),.lit (.int .i64 0),.lit (.int .i64 0),.lit (.int .i64 0),.lit (.int .i64 0),.lit (.int .i64 0),.nil,.lit (.int .i64 0),.lit (.int .i64 0),.lit (.bool false)],.nil],[],[])) (by kernel_rfl) rfl (by kernel_rfl)) ?_
 intro W base args ds gs before hval hW _ hk _
 exact Ut hlaw H enc W base args ds gs before hval hW hk
theorem W3 (hlaw:L1):Rows.ReplicaCodeSpecUptoSaid:=
 OpenClaim.holds_of_cond 3 Try.f3 rfl rfl rfl rfl rfl rfl rfl ⟨rfl,rfl,rfl,rfl,rfl⟩ rfl rfl rfl rfl rfl (by kernel_rfl) Try.func3 (by kernel_rfl)
  (of_decide_eq_true (by kernel_rfl)) (by unfold Func.isWrapper; first | (rw [if_pos (by decide +kernel)]; kernel_rfl) | (rw [if_neg (by decide +kernel)]; exact⟨rfl,rfl⟩))
  (fun os started H enc _ F=>Vz hlaw os started H enc F)
end Go.Proofs.Ytgigefcfankeeaa.laws

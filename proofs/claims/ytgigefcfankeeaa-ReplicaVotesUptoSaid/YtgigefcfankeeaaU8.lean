/- Written by shrink.py from texts of ours: comments struck, what is not reached left out, names short. -/
import Derived.Test.YtgigefcfankeeaaU7
namespace Go.Proofs.Ytgigefcfankeeaa.laws
open Go Go.Am Go.ChangeShapes Go.WideShapes Go.ChangeAt Go.RowKit
set_option maxRecDepth 100000
set_option linter.unusedVariables false
set_option linter.unusedSimpArgs false
theorem Ue (hlaw:Mq)(H:Type)(enc:TypeId×Value→H)(W:World)(base:Nat)(args:Array Value)(ds gs:List (DataW H))(before:List MemPlace)
  (hval : ∀ (j:Nat) t v,Try.f6.params[j]? = some t→args[j]? = some v→Value.okWide Try.prog W .any base t v)
  (hW:DataW.Whole enc Try.prog Try.f6.params.toList Rows.replicaVotesSpec.vars false W args.toList ds gs before) (hk:Rows.uptoSmall H (ds++gs)=true) :
  Calls Try.prog 6 args W fun e W' => ∃ v,e=.returned v∧Rows.replicaVotesSpec.post enc Try.prog Try.f6 false true false false W args v W':=by
 refine Agt (tb:=4) hW Aic (by rw [Try.params6]; exact(List.forall_mem_cons.2 ⟨Aku,(List.forall_mem_cons.2 ⟨Ajd,(List.forall_mem_cons.2 ⟨Ajd,(fun _ h=>(List.not_mem_nil h).elim)⟩)⟩)⟩)) rfl (by kernel_rfl) Try.underlying4 (fun ds hd=>?_) ?_
 ·rw [Try.params6] at hd
  match ds,hd with
  | [x0,x1,x2],_=>rfl
 obtain⟨p,q,hA,hV,rfl,hfz,hnd⟩:=hW
 rw [Try.params6] at hA hval
 obtain⟨v0,vs0,d0,ds0,p0,q0,hargs,rfl,rfl,h0,r0⟩:=trodAll_cons hA
 obtain⟨v1,vs1,d1,ds1,p1,q1,rfl,rfl,rfl,h1,r1⟩:=trodAll_cons r0
 obtain⟨v2,vs2,d2,ds2,p2,q2,rfl,rfl,rfl,h2,r2⟩:=trodAll_cons r1
 obtain⟨rfl,rfl,rfl⟩:=trodAll_nil r2
 obtain rfl:args = #[v0,v1,v2]:=by cases args; simp_all
 obtain⟨rfl,rfl⟩:=trodVars_none hV
 have hb:Rows.uptoBulkAll [d0,d1,d2]≤1048576:=of_decide_eq_true hk
 have hB:=Ahi (H:=H)
 simp only [hB.cons,hB.nil] at hb
 obtain⟨m0,h0⟩:=h0
 obtain⟨a0,l0,g0,b0⟩:=Ak4 enc W _ _ m0 _ _ _ _ hB h0 (by simp only [Cc]; omega)
 replace b0:Py.bulk a0≤Rows.uptoBulk d0:=b0
 obtain⟨c0,rfl,_⟩:=okWide_struct Try.underlying50 (hval 0 50 v0 rfl rfl)
 have e0:=Aa0 l0
 obtain⟨m1,h1⟩:=h1
 obtain⟨a1,l1,g1,b1⟩:=Aj5 enc W _ _ m1 _ _ _ _ hB h1 (by simp only [Cc]; omega)
 replace b1:Ov.bulk a1≤Rows.uptoBulk d1:=b1
 obtain⟨c1,rfl,_⟩:=okWide_struct Try.underlying24 (hval 1 24 v1 rfl rfl)
 have e1:=Aa0 l1
 obtain⟨m2,h2⟩:=h2
 obtain⟨a2,l2,g2,b2⟩:=Aj5 enc W _ _ m2 _ _ _ _ hB h2 (by simp only [Cc]; omega)
 replace b2:Ov.bulk a2≤Rows.uptoBulk d2:=b2
 obtain⟨c2,rfl,_⟩:=okWide_struct Try.underlying24 (hval 2 24 v2 rfl rfl)
 have e2:=Aa0 l2
 exact Af8 (T6 a0 a1 a2) ⟨Nat.zero_le _,trivial⟩ (hlaw a0 a1 a2 g0 g1 g2 (by omega)) (LR.cons e0 (LR.cons e1 (LR.one e2)))
theorem Vh (hlaw:Mq)(os:Os)(started:os.Started)(H:Type)(enc:TypeId×Value→H)(F:Stop.Interp) :
  ReturnsInHanded {} Try.checked os 6 .any ((Rows.OpenSpec.upto Rows.replicaVotesSpec).pre6 enc Try.prog Try.f6 Rows.replicaVotesUptoRow.domain false) (((Rows.OpenSpec.upto Rows.replicaVotesSpec).at F).post enc Try.prog Try.f6 false true false false):=by
 refine returnsInHanded_of_cond (C:=Try.checked) (s:=Rows.OpenSpec.upto Rows.replicaVotesSpec) (k:=Rows.uptoSmall) rfl own started (by kernel_rfl) Try.func6
  (OpenSpec.witness (enc:=enc) (C:=Try.checked) (s:=Rows.OpenSpec.upto Rows.replicaVotesSpec) (k:=Rows.uptoSmall) rfl false ⟨#[],#[.agg #[.int .i64 0,.int .i64 0,.int .i64 0,.int .i64 0,.slice none 0 0,.int .i64 0,.int .i64 0,.slice none 0 0,.slice none 0 0],.agg #[.int .i64 0,.int .i64 0,.int .i64 0,.int .i64 0,.int .i64 0,.int .i64 0,.slice none 0 0,.int .i64 0,.int .i64 0,.bool false],.agg #[.int .i64 0,.int .i64 0,.int .i64 0,.int .i64 0,.int .i64 0,.int .i64 0,.slice none 0 0,.int .i64 0,.int .i64 0,.bool false]],[]⟩ 8 (by kernel_rfl) (by kernel_rfl) (by kernel_rfl)
   (x:=([.agg [.lit (.int .i64 0),.lit (.int .i64 0),.lit (.int .i64 0),.lit (.int .i64 0),.nil,.lit (.int .i64 0),.lit (.int .i64 0),.nil,.nil],.agg [.lit (.int .i64 0),.lit (.int .i64 0),.lit (.int .i64 0),.lit (.int .i64 0),.lit (.int .i64 0),.lit (.int .i64 0),.nil,.lit (.int .i64 0),.lit (.int .i64 0),.lit (.bool false)],.agg [.lit (.int .i64 0),.lit (.int .i64 0),.lit (.int .i64 0),.lit (.int .i64 0),.lit (.int .i64 0),.lit (.int .i64 0),.nil,.lit (.int .i64 0),.lit (.int .i64 0),.lit (.bool false)]],[],[])) (by kernel_rfl) rfl (by kernel_rfl)) ?_
 intro W base args ds gs before hval hW _ hk _
 exact Ue hlaw H enc W base args ds gs before hval hW hk
theorem W5 (hlaw:Mq):Rows.ReplicaVotesUptoSaid:=
 OpenClaim.holds_of_cond 6 Try.f6 rfl rfl rfl rfl rfl rfl rfl ⟨rfl,rfl,rfl,rfl,rfl⟩ rfl rfl rfl rfl rfl (by kernel_rfl) Try.func6 (by kernel_rfl)
  (of_decide_eq_true (by kernel_rfl)) (by unfold Func.isWrapper; first | (rw [if_pos (by decide +kernel)]; kernel_rfl) | (rw [if_neg (by decide +kernel)]; exact⟨rfl,rfl⟩))
  (fun os started H enc _ F=>Vh hlaw os started H enc F)
end Go.Proofs.Ytgigefcfankeeaa.laws

/- Written by shrink.py from texts of ours: comments struck, what is not reached left out, names short. -/
import Derived.Test.YtgigefcfankeeaaGreatU8
namespace Go.Proofs.YtgigefcfankeeaaGreat.laws
open Go Go.Am Go.ChangeShapes Go.WideShapes Go.ChangeAt Go.RowKit
set_option maxRecDepth 100000
set_option linter.unusedVariables false
set_option linter.unusedSimpArgs false
theorem Ud (hlaw:Ls)(H:Type)(enc:TypeId×Value→H)(W:World)(base:Nat)(args:Array Value)(ds gs:List (DataW H))(before:List MemPlace)
  (hval : ∀ (j:Nat) t v,Tryz.f3.params[j]? = some t→args[j]? = some v→Value.okWide Tryz.prog W .any base t v)
  (hW:DataW.Whole enc Tryz.prog Tryz.f3.params.toList Rows.replicaStepSpecSpec.vars false W args.toList ds gs before) (hk:Rows.uptoSmall H (ds++gs)=true) :
  Calls Tryz.prog 3 args W fun e W' => ∃ v,e=.returned v∧Rows.replicaStepSpecSpec.post enc Tryz.prog Tryz.f3 false true false false W args v W':=by
 refine Ajs (tb:=4) hW Akh (by rw [Tryz.params3]; exact(List.forall_mem_cons.2 ⟨rd3,(List.forall_mem_cons.2 ⟨rd3,(List.forall_mem_cons.2 ⟨Amx,(List.forall_mem_cons.2 ⟨Amz,(fun _ h=>(List.not_mem_nil h).elim)⟩)⟩)⟩)⟩)) rfl (by kernel_rfl) Tryz.underlying4 (fun ds hd=>?_) ?_
 ·rw [Tryz.params3] at hd
  match ds,hd with
  | [x0,x1,x2,x3],_=>rfl
 obtain⟨p,q,hA,hV,rfl,hfz,hnd⟩:=hW
 rw [Tryz.params3] at hA hval
 obtain⟨v0,vs0,d0,ds0,p0,q0,hargs,rfl,rfl,h0,r0⟩:=trodAll_cons hA
 obtain⟨v1,vs1,d1,ds1,p1,q1,rfl,rfl,rfl,h1,r1⟩:=trodAll_cons r0
 obtain⟨v2,vs2,d2,ds2,p2,q2,rfl,rfl,rfl,h2,r2⟩:=trodAll_cons r1
 obtain⟨v3,vs3,d3,ds3,p3,q3,rfl,rfl,rfl,h3,r3⟩:=trodAll_cons r2
 obtain⟨rfl,rfl,rfl⟩:=trodAll_nil r3
 obtain rfl:args = #[v0,v1,v2,v3]:=by cases args; simp_all
 obtain⟨rfl,rfl⟩:=trodVars_none hV
 have hb:Rows.uptoBulkAll [d0,d1,d2,d3]≤1048576:=of_decide_eq_true hk
 have hB:=Ajl (H:=H)
 simp only [hB.cons,hB.nil] at hb
 obtain⟨m0,h0⟩:=h0
 obtain⟨a0,l0,g0,b0⟩:=Zk enc W _ _ m0 _ _ _ _ hB h0 (by simp only [B5]; omega)
 replace b0:(Gi .i64).bulk a0≤Rows.uptoBulk d0:=b0
 have e0:=Abv l0 (Vd Tryz.underlying3 (by simp) (by simp) (hval 0 3 v0 rfl rfl))
 obtain⟨m1,h1⟩:=h1
 obtain⟨a1,l1,g1,b1⟩:=Zk enc W _ _ m1 _ _ _ _ hB h1 (by simp only [B5]; omega)
 replace b1:(Gi .i64).bulk a1≤Rows.uptoBulk d1:=b1
 have e1:=Abv l1 (Vd Tryz.underlying3 (by simp) (by simp) (hval 1 3 v1 rfl rfl))
 obtain⟨m2,h2⟩:=h2
 obtain⟨a2,l2,g2,b2⟩:=Amm enc W _ _ m2 _ _ _ _ hB h2 (by simp only [B5]; omega)
 replace b2:T9.bulk a2≤Rows.uptoBulk d2:=b2
 obtain⟨c2,rfl,_⟩:=okWide_struct Tryz.underlying26 (hval 2 26 v2 rfl rfl)
 have e2:=Alt l2
 obtain⟨m3,h3⟩:=h3
 obtain⟨a3,l3,g3,b3⟩:=All enc W _ _ m3 _ _ _ _ hB h3 (by simp only [B5]; omega)
 replace b3:(Pd 1 (Gi .u8)).bulk a3≤Rows.uptoBulk d3:=b3
 have e3:=Abv l3 (Vd Tryz.underlying27 (by simp) (by simp) (hval 3 27 v3 rfl rfl))
 exact Aiu (Ue a0 a1 a2 a3) ⟨Nat.zero_le _,trivial⟩ (hlaw a0 a1 a2 a3 g0 g1 g2 g3 (by omega)) (LR.cons e0 (LR.cons e1 (LR.cons e2 (LR.one e3))))
theorem Vf (hlaw:Ls)(os:Os)(started:os.Started)(H:Type)(enc:TypeId×Value→H)(F:Stop.Interp) :
  ReturnsInHanded {} Tryz.checked os 3 .any ((Rows.OpenSpec.upto Rows.replicaStepSpecSpec).pre6 enc Tryz.prog Tryz.f3 Rows.replicaStepSpecUptoRow.domain false) (((Rows.OpenSpec.upto Rows.replicaStepSpecSpec).at F).post enc Tryz.prog Tryz.f3 false true false false):=by
 refine returnsInHanded_of_cond (C:=Tryz.checked) (s:=Rows.OpenSpec.upto Rows.replicaStepSpecSpec) (k:=Rows.uptoSmall) rfl own started (by kernel_rfl) Tryz.func3
  (OpenSpec.witness (enc:=enc) (C:=Tryz.checked) (s:=Rows.OpenSpec.upto Rows.replicaStepSpecSpec) (k:=Rows.uptoSmall) rfl false ⟨#[],#[.int .i64 0,.int .i64 0,.agg #[.int .i64 0,.int .i64 0,.int .i64 0,.int .i64 0,.slice none 0 0,.int .i64 0,.int .i64 0,.slice none 0 0,.slice none 0 0],.slice none 0 0],[]⟩ 8 (by kernel_rfl) (by kernel_rfl) (by kernel_rfl)
   (x:=([.lit (.int .i64 0),.lit (.int .i64 0),.agg [.lit (.int .i64 0),.lit (.int .i64 0),.lit (.int .i64 0),.lit (.int .i64 0),.nil,.lit (.int .i64 0),.lit (.int .i64 0),.nil,.nil],.nil],[],[])) (by kernel_rfl) rfl (by kernel_rfl)) ?_
 intro W base args ds gs before hval hW _ hk _
 exact Ud hlaw H enc W base args ds gs before hval hW hk
theorem Wj (hlaw:Ls):Rows.ReplicaStepSpecUptoSaid:=
 OpenClaim.holds_of_cond 3 Tryz.f3 rfl rfl rfl rfl rfl rfl rfl ⟨rfl,rfl,rfl,rfl,rfl⟩ rfl rfl rfl rfl rfl (by kernel_rfl) Tryz.func3 (by kernel_rfl)
  (of_decide_eq_true (by kernel_rfl)) (by unfold Func.isWrapper; first | (rw [if_pos (by decide +kernel)]; kernel_rfl) | (rw [if_neg (by decide +kernel)]; exact⟨rfl,rfl⟩))
  (fun os started H enc _ F=>Vf hlaw os started H enc F)
end Go.Proofs.YtgigefcfankeeaaGreat.laws

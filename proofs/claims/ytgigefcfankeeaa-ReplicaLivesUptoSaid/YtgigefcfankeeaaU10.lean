/- Written by shrink.py from texts of ours: comments struck, what is not reached left out, names short. -/
import Derived.Test.YtgigefcfankeeaaU9
namespace Go.Proofs.Ytgigefcfankeeaa.laws
open Go Go.Am Go.ChangeShapes Go.WideShapes Go.ChangeAt Go.RowKit
set_option maxRecDepth 100000
set_option linter.unusedVariables false
set_option linter.unusedSimpArgs false
theorem W7 (hlaw:Ot)(H:Type)(enc:TypeId×Value→H)(W:World)(base:Nat)(args:Array Value)(ds gs:List (DataW H))(before:List MemPlace)
  (hval : ∀ (j:Nat) t v,Try.f8.params[j]? = some t→args[j]? = some v→Value.okWide Try.prog W .any base t v)
  (hW:DataW.Whole enc Try.prog Try.f8.params.toList Rows.replicaLivesSpec.vars false W args.toList ds gs before) (hk:Rows.uptoSmall H (ds++gs)=true) :
  Calls Try.prog 8 args W fun e W' => ∃ v,e=.returned v∧Rows.replicaLivesSpec.post enc Try.prog Try.f8 false true false false W args v W':=by
 refine Al1 (tb:=4) hW Aoe (by rw [Try.params8]; exact(List.forall_mem_cons.2 ⟨rd5,(List.forall_mem_cons.2 ⟨Aqn,(List.forall_mem_cons.2 ⟨Aqj,(fun _ h=>(List.not_mem_nil h).elim)⟩)⟩)⟩)) rfl (by kernel_rfl) Try.underlying4 (fun ds hd=>?_) ?_
 ·rw [Try.params8] at hd
  match ds,hd with
  | [x0,x1,x2],_=>rfl
 obtain⟨p,q,hA,hV,rfl,hfz,hnd⟩:=hW
 rw [Try.params8] at hA hval
 obtain⟨v0,vs0,d0,ds0,p0,q0,hargs,rfl,rfl,h0,r0⟩:=trodAll_cons hA
 obtain⟨v1,vs1,d1,ds1,p1,q1,rfl,rfl,rfl,h1,r1⟩:=trodAll_cons r0
 obtain⟨v2,vs2,d2,ds2,p2,q2,rfl,rfl,rfl,h2,r2⟩:=trodAll_cons r1
 obtain⟨rfl,rfl,rfl⟩:=trodAll_nil r2
 obtain rfl:args = #[v0,v1,v2]:=by cases args; simp_all
 obtain⟨rfl,rfl⟩:=trodVars_none hV
 have hb:Rows.uptoBulkAll [d0,d1,d2]≤1048576:=of_decide_eq_true hk
 have hB:=Amn (H:=H)
 simp only [hB.cons,hB.nil] at hb
 obtain⟨m0,h0⟩:=h0
 obtain⟨a0,l0,g0,b0⟩:=on5 enc W _ _ m0 _ _ _ _ hB h0 (by simp only [Ca]; omega)
 replace b0:(Od .u8).bulk a0≤Rows.uptoBulk d0:=b0
 have e0:=Ac7 l0 (V5 Try.underlying5 (by simp) (by simp) (hval 0 5 v0 rfl rfl))
 obtain⟨m1,h1⟩:=h1
 obtain⟨a1,l1,g1,b1⟩:=Aqr enc W _ _ m1 _ _ _ _ hB h1 (by simp only [Ca]; omega)
 replace b1:(Zd 3 Aay).bulk a1≤Rows.uptoBulk d1:=b1
 have e1:=Ac7 l1 (V5 Try.underlying35 (by simp) (by simp) (hval 1 35 v1 rfl rfl))
 obtain⟨m2,h2⟩:=h2
 obtain⟨a2,l2,g2,b2⟩:=Aqc enc W _ _ m2 _ _ _ _ hB h2 (by simp only [Ca]; omega)
 replace b2:(Zd 1 (Od .u8)).bulk a2≤Rows.uptoBulk d2:=b2
 have e2:=Ac7 l2 (V5 Try.underlying25 (by simp) (by simp) (hval 2 25 v2 rfl rfl))
 exact Ajz (W0 a0 a1 a2) ⟨Nat.zero_le _,trivial⟩ (hlaw a0 a1 a2 g0 g1 g2 (by omega)) (LR.cons e0 (LR.cons e1 (LR.one e2)))
theorem Yb (hlaw:Ot)(os:Os)(started:os.Started)(H:Type)(enc:TypeId×Value→H)(F:Stop.Interp) :
  ReturnsInHanded {} Try.checked os 8 .any ((Rows.OpenSpec.upto Rows.replicaLivesSpec).pre6 enc Try.prog Try.f8 Rows.replicaLivesUptoRow.domain false) (((Rows.OpenSpec.upto Rows.replicaLivesSpec).at F).post enc Try.prog Try.f8 false true false false):=by
 refine returnsInHanded_of_cond (C:=Try.checked) (s:=Rows.OpenSpec.upto Rows.replicaLivesSpec) (k:=Rows.uptoSmall) rfl own started (by kernel_rfl) Try.func8
  (OpenSpec.witness (enc:=enc) (C:=Try.checked) (s:=Rows.OpenSpec.upto Rows.replicaLivesSpec) (k:=Rows.uptoSmall) rfl false ⟨#[],#[.int .u8 0,.slice none 0 0,.slice none 0 0],[]⟩ 8 (by kernel_rfl) (by kernel_rfl) (by kernel_rfl)
   (x:=([.lit (.int .u8 0),.nil,.nil],[],[])) (by kernel_rfl) rfl (by kernel_rfl)) ?_
 intro W base args ds gs before hval hW _ hk _
 exact W7 hlaw H enc W base args ds gs before hval hW hk
theorem Z0 (hlaw:Ot):Rows.ReplicaLivesUptoSaid:=
 OpenClaim.holds_of_cond 8 Try.f8 rfl rfl rfl rfl rfl rfl rfl ⟨rfl,rfl,rfl,rfl,rfl⟩ rfl rfl rfl rfl rfl (by kernel_rfl) Try.func8 (by kernel_rfl)
  (of_decide_eq_true (by kernel_rfl)) (by unfold Func.isWrapper; first | (rw [if_pos (by decide +kernel)]; kernel_rfl) | (rw [if_neg (by decide +kernel)]; exact⟨rfl,rfl⟩))
  (fun os started H enc _ F=>Yb hlaw os started H enc F)
end Go.Proofs.Ytgigefcfankeeaa.laws

/- Written by shrink.py from texts of ours: comments struck, what is not reached left out, names short. -/
import Derived.Test.YtnoinnijgnfhiaaGreatDoorU6
namespace Go.Proofs.YtnoinnijgnfhiaaGreatDoor.laws
open Go Go.Am Go.ChangeShapes Go.WideShapes Go.ChangeAt Go.RowKit
set_option maxRecDepth 100000
set_option linter.unusedVariables false
set_option linter.unusedSimpArgs false
theorem Aal (hlaw:N8)(H:Type)(enc:TypeId×Value→H)(W:World)(base:Nat)(args:Array Value)(ds gs:List (DataW H))(before:List MemPlace)
  (hval : ∀ (j:Nat) t v,Tryz.f4.params[j]? = some t→args[j]? = some v→Value.okWide Tryz.prog W .any base t v)
  (hW:DataW.Whole enc Tryz.prog Tryz.f4.params.toList Rows.roundsOrderSpec.vars false W args.toList ds gs before) (hk:Rows.uptoSmall H (ds++gs)=true) (hL:laidMetH Tryz.prog Rows.roundsOrderUptoRow.laid W) :
  Calls Tryz.prog 4 args W fun e W' => ∃ v,e=.returned v∧Rows.roundsOrderSpec.post enc Tryz.prog Tryz.f4 false true false false W args v W':=by
 refine Asm (tb:=4) hW Atf (by rw [Tryz.params4]; exact(List.forall_mem_cons.2 ⟨Axy,(List.forall_mem_cons.2 ⟨Axo,(List.forall_mem_cons.2 ⟨rd5,(fun _ h=>(List.not_mem_nil h).elim)⟩)⟩)⟩)) rfl (by kernel_rfl) Tryz.underlying4 (fun ds hd=>?_) ?_
 ·rw [Tryz.params4] at hd
  match ds,hd with
  | [x0,x1,x2],_=>rfl
 obtain⟨p,q,hA,hV,rfl,hfz,hnd⟩:=hW
 rw [Tryz.params4] at hA hval
 obtain⟨v0,vs0,d0,ds0,p0,q0,hargs,rfl,rfl,h0,r0⟩:=trodAll_cons hA
 obtain⟨v1,vs1,d1,ds1,p1,q1,rfl,rfl,rfl,h1,r1⟩:=trodAll_cons r0
 obtain⟨v2,vs2,d2,ds2,p2,q2,rfl,rfl,rfl,h2,r2⟩:=trodAll_cons r1
 obtain⟨rfl,rfl,rfl⟩:=trodAll_nil r2
 obtain rfl:args = #[v0,v1,v2]:=by cases args; simp_all
 obtain⟨rfl,rfl⟩:=trodVars_none hV
 have hb:Rows.uptoBulkAll [d0,d1,d2]≤1048576:=of_decide_eq_true hk
 have hB:=Arm (H:=H)
 simp only [hB.cons,hB.nil] at hb
 obtain⟨m0,h0⟩:=h0
 obtain⟨a0,l0,g0,b0⟩:=Axr enc W _ _ m0 _ _ _ _ hB h0 (by simp only [Bt]; omega)
 replace b0:Agj.bulk a0≤Rows.uptoBulk d0:=b0
 obtain⟨c0,rfl,_⟩:=okWide_struct Tryz.underlying26 (hval 0 26 v0 rfl rfl)
 have e0:=Av4 l0
 obtain⟨m1,h1⟩:=h1
 obtain⟨a1,l1,g1,b1⟩:=Ar4 enc W _ _ m1 _ _ _ _ hB h1 (by simp only [Bt]; omega)
 replace b1:(Ph 1 (I4 .u8)).bulk a1≤Rows.uptoBulk d1:=b1
 have e1:=Amn l1 (Ads Tryz.underlying22 (by simp) (by simp) (hval 1 22 v1 rfl rfl))
 obtain⟨m2,h2⟩:=h2
 obtain⟨a2,l2,g2,b2⟩:=on5 enc W _ _ m2 _ _ _ _ hB h2 (by simp only [Bt]; omega)
 replace b2:(I4 .u8).bulk a2≤Rows.uptoBulk d2:=b2
 have e2:=Amn l2 (Ads Tryz.underlying5 (by simp) (by simp) (hval 2 5 v2 rfl rfl))
 exact Aqw (Aac a0 a1 a2) (At7 hL) (hlaw a0 a1 a2 g0 g1 g2 (by omega)) (LR.cons e0 (LR.cons e1 (LR.one e2)))
set_option maxRecDepth 100000 in
theorem Abc (hlaw : N8) (os : Os) (started : os.Started) (H : Type) (enc : TypeId × Value → H) (F : Stop.Interp) :
  ReturnsInHanded {} Tryz.checked os 4 .any ((Rows.OpenSpec.upto Rows.roundsOrderSpec).preRow enc Tryz.prog Tryz.f4 Rows.roundsOrderUptoRow.domain false Rows.roundsOrderUptoRow.laid) (((Rows.OpenSpec.upto Rows.roundsOrderSpec).at F).post enc Tryz.prog Tryz.f4 false true false false) := by
 have hx : ∃ places, DataW.whole enc Tryz.prog ((World.doorLaid Tryz.prog 24 os).forCall (fun _ _ => 0) ⟨#[], #[.agg #[.slice none 0 0, .int .u8 0, .slice none 0 0, .slice none 0 0, .slice none 0 0], .slice none 0 0, .int .u8 0], []⟩).memory Tryz.f4.params.toList Rows.roundsOrderSpec.vars false #[.agg #[.slice none 0 0, .int .u8 0, .slice none 0 0, .slice none 0 0, .slice none 0 0], .slice none 0 0, .int .u8 0].toList 8 = some ([.agg [.nil, .lit (.int .u8 0), .nil, .nil, .nil], .nil, .lit (.int .u8 0)], [], places) := ⟨[], by kernel_rfl⟩
 obtain ⟨places, hx⟩ := hx
 refine returnsInHanded_of_row (C := Tryz.checked) (s := Rows.OpenSpec.upto Rows.roundsOrderSpec) own started (by kernel_rfl) Tryz.func4
  (Abk (enc := enc) (C := Tryz.checked) false (World.doorLaid Tryz.prog 24 os) #[.agg #[.slice none 0 0, .int .u8 0, .slice none 0 0, .slice none 0 0, .slice none 0 0], .slice none 0 0, .int .u8 0] rfl (World.shaped_of_RefB (by kernel_rfl) (by kernel_rfl)) (by kernel_rfl)
   (OpenSpec.preRow_of_cond 8 hx (by kernel_rfl) (fun k hk => by cases hk; kernel_rfl) (by kernel_rfl) (laidMetH_of_parts3 (fuel := 8) (laidMet_of_run' 8 (by kernel_rfl) (by kernel_rfl)) (by kernel_rfl) (by kernel_rfl)))) ?_
 intro W base args ds gs before hval hW _ hcond _ hL _ _
 exact Aal hlaw H enc W base args ds gs before hval hW (hcond _ rfl) hL
theorem Aa1 (hlaw:N8):Rows.RoundsOrderUptoSaid:=
 OpenClaim.holds_of_cond 4 Tryz.f4 rfl rfl rfl rfl rfl rfl rfl ⟨rfl,rfl,rfl,rfl,rfl⟩ rfl rfl rfl rfl rfl (by kernel_rfl) Tryz.func4 (by kernel_rfl)
  (of_decide_eq_true (by kernel_rfl)) (by unfold Func.isWrapper; first | (rw [if_pos (by decide +kernel)]; kernel_rfl) | (rw [if_neg (by decide +kernel)]; exact⟨rfl,rfl⟩))
  (fun os started H enc _ F=>by rw [OpenClaim.pre_eq_preRow]; exact Abc hlaw os started H enc F)
theorem Ad1 (hlaw:N8):Rows.RoundsOrderUptoCardSaid:=
 Claim7.holds_tied_plain_at .later [] _ _ _ _ (Aa1 hlaw) (fun _ h=>by cases h) (by kernel_rfl) (fun _ h=>by cases h) roundsOrderUpto_row_tie rfl ⟨rfl,rfl⟩ (by kernel_rfl) rfl
  (fun f fn hf hfn=>by
   obtain rfl:f=4:=Option.some.inj ((show Tryz.prog.funcNamed Rows.roundsOrderUptoRow.func=some 4 by kernel_rfl).symm.trans hf) |>.symm
   obtain rfl:fn=Tryz.f4:=(Option.some.inj (Tryz.func4.symm.trans hfn)).symm
   refine⟨by kernel_rfl,fun j t ht=>?_⟩
   rw [Tryz.params4] at ht
   exact match j,ht with
    | 0,h=>by cases h; exact(show Tryz.prog.wantsStandIn 26=false by kernel_rfl)
    | 1,h=>by cases h; exact(show Tryz.prog.wantsStandIn 22=false by kernel_rfl)
    | 2,h=>by cases h; exact(show Tryz.prog.wantsStandIn 5=false by kernel_rfl)
    | _+3,h=>by cases h)
  (by kernel_rfl)
end Go.Proofs.YtnoinnijgnfhiaaGreatDoor.laws

/- Written by shrink.py from texts of ours: comments struck, what is not reached left out, names short. -/
import Derived.Test.YtnoinnijgnfhiaaGreatDoorU7
namespace Go.Proofs.YtnoinnijgnfhiaaGreatDoor.laws
open Go Go.Am Go.ChangeShapes Go.WideShapes Go.ChangeAt Go.RowKit
set_option maxRecDepth 100000
set_option linter.unusedVariables false
set_option linter.unusedSimpArgs false
theorem Acx (hlaw:Pq)(H:Type)(enc:TypeId×Value→H)(W:World)(base:Nat)(args:Array Value)(ds gs:List (DataW H))(before:List MemPlace)
  (hval : ∀ (j:Nat) t v,Tryz.f5.params[j]? = some t→args[j]? = some v→Value.okWide Tryz.prog W .any base t v)
  (hW:DataW.Whole enc Tryz.prog Tryz.f5.params.toList Rows.roundsValidSpec.vars false W args.toList ds gs before) (hk:Rows.uptoSmall H (ds++gs)=true) (hL:laidMetH Tryz.prog Rows.roundsValidUptoRow.laid W) :
  Calls Tryz.prog 5 args W fun e W' => ∃ v,e=.returned v∧Rows.roundsValidSpec.post enc Tryz.prog Tryz.f5 false true false false W args v W':=by
 refine As2 (tb:=4) hW Avd (by rw [Tryz.params5]; exact(List.forall_mem_cons.2 ⟨Ayp,(List.forall_mem_cons.2 ⟨rd3,(List.forall_mem_cons.2 ⟨Ayk,(List.forall_mem_cons.2 ⟨Ayi,(fun _ h=>(List.not_mem_nil h).elim)⟩)⟩)⟩)⟩)) rfl (by kernel_rfl) Tryz.underlying4 (fun ds hd=>?_) ?_
 ·rw [Tryz.params5] at hd
  match ds,hd with
  | [x0,x1,x2,x3],_=>rfl
 obtain⟨p,q,hA,hV,rfl,hfz,hnd⟩:=hW
 rw [Tryz.params5] at hA hval
 obtain⟨v0,vs0,d0,ds0,p0,q0,hargs,rfl,rfl,h0,r0⟩:=trodAll_cons hA
 obtain⟨v1,vs1,d1,ds1,p1,q1,rfl,rfl,rfl,h1,r1⟩:=trodAll_cons r0
 obtain⟨v2,vs2,d2,ds2,p2,q2,rfl,rfl,rfl,h2,r2⟩:=trodAll_cons r1
 obtain⟨v3,vs3,d3,ds3,p3,q3,rfl,rfl,rfl,h3,r3⟩:=trodAll_cons r2
 obtain⟨rfl,rfl,rfl⟩:=trodAll_nil r3
 obtain rfl:args = #[v0,v1,v2,v3]:=by cases args; simp_all
 obtain⟨rfl,rfl⟩:=trodVars_none hV
 have hb:Rows.uptoBulkAll [d0,d1,d2,d3]≤1048576:=of_decide_eq_true hk
 have hB:=Atk (H:=H)
 simp only [hB.cons,hB.nil] at hb
 obtain⟨m0,h0⟩:=h0
 obtain⟨a0,l0,g0,b0⟩:=Ayq enc W _ _ m0 _ _ _ _ hB h0 (by simp only [Cm]; omega)
 replace b0:Aad.bulk a0≤Rows.uptoBulk d0:=b0
 obtain⟨c0,rfl,_⟩:=okWide_struct Tryz.underlying35 (hval 0 35 v0 rfl rfl)
 have e0:=Amq l0
 obtain⟨m1,h1⟩:=h1
 obtain⟨a1,l1,g1,b1⟩:=on3 enc W _ _ m1 _ _ _ _ hB h1 (by simp only [Cm]; omega)
 replace b1:(E5 .i64).bulk a1≤Rows.uptoBulk d1:=b1
 have e1:=Auq l1 (An2 Tryz.underlying3 (by simp) (by simp) (hval 1 3 v1 rfl rfl))
 obtain⟨m2,h2⟩:=h2
 obtain⟨a2,l2,g2,b2⟩:=Asx enc W _ _ m2 _ _ _ _ hB h2 (by simp only [Cm]; omega)
 replace b2:(Uh 32 (E5 .u8)).bulk a2≤Rows.uptoBulk d2:=b2
 obtain⟨c2,rfl,_⟩:=Am5 Tryz.underlying49 (hval 2 49 v2 rfl rfl)
 have e2:=Amq l2
 obtain⟨m3,h3⟩:=h3
 obtain⟨a3,l3,g3,b3⟩:=Av4 enc W _ _ m3 _ _ _ _ hB h3 (by simp only [Cm]; omega)
 replace b3:Te.bulk a3≤Rows.uptoBulk d3:=b3
 obtain⟨c3,rfl,_⟩:=okWide_struct Tryz.underlying61 (hval 3 61 v3 rfl rfl)
 have e3:=Amq l3
 exact Asj (Ack a0 a1 a2 a3) (Avo hL) (hlaw a0 a1 a2 a3 g0 g1 g2 g3 (by omega)) (LR.cons e0 (LR.cons e1 (LR.cons e2 (LR.one e3))))
def Ws:Array Value := #[.agg #[.int .i64 0,.int .i64 0,.int .i64 0,.slice none 0 0,.slice none 0 0,.slice none 0 0,.slice none 0 0,.slice none 0 0],.int .i64 0,.agg #[.int .u8 0,.int .u8 0,.int .u8 0,.int .u8 0,.int .u8 0,.int .u8 0,.int .u8 0,.int .u8 0,.int .u8 0,.int .u8 0,.int .u8 0,.int .u8 0,.int .u8 0,.int .u8 0,.int .u8 0,.int .u8 0,.int .u8 0,.int .u8 0,.int .u8 0,.int .u8 0,.int .u8 0,.int .u8 0,.int .u8 0,.int .u8 0,.int .u8 0,.int .u8 0,.int .u8 0,.int .u8 0,.int .u8 0,.int .u8 0,.int .u8 0,.int .u8 0],.agg ⟨([.int .i64 0,.int .i64 0,.int .i64 0,.int .i64 0,.int .u8 0,.int .u8 0,.int .u8 0,.int .u8 0,.int .u8 0,.int .u8 0,.int .u8 0,.int .u8 0,.int .u8 0,.int .u8 0,.int .u8 0,.int .u8 0,.int .u8 0,.int .u8 0,.int .u8 0,.int .u8 0,.int .u8 0,.int .u8 0,.int .u8 0,.int .u8 0]++[.int .u8 0,.int .u8 0,.int .u8 0,.int .u8 0,.int .u8 0,.int .u8 0,.int .u8 0,.int .u8 0,.int .u8 0,.int .u8 0,.int .u8 0,.int .u8 0,.slice none 0 0])⟩]
set_option maxRecDepth 100000 in
theorem Aev (hlaw : Pq) (os : Os) (started : os.Started) (H : Type) (enc : TypeId × Value → H) (F : Stop.Interp) :
  ReturnsInHanded {} Tryz.checked os 5 .any ((Rows.OpenSpec.upto Rows.roundsValidSpec).preRow enc Tryz.prog Tryz.f5 Rows.roundsValidUptoRow.domain false Rows.roundsValidUptoRow.laid) (((Rows.OpenSpec.upto Rows.roundsValidSpec).at F).post enc Tryz.prog Tryz.f5 false true false false) := by
 have hx : ∃ places, DataW.whole enc Tryz.prog ((World.doorLaid Tryz.prog 24 os).forCall (fun _ _ => 0) ⟨#[], Ws, []⟩).memory Tryz.f5.params.toList Rows.roundsValidSpec.vars false Ws.toList 8 = some ([.agg [.lit (.int .i64 0), .lit (.int .i64 0), .lit (.int .i64 0), .nil, .nil, .nil, .nil, .nil], .lit (.int .i64 0), .agg [.lit (.int .u8 0), .lit (.int .u8 0), .lit (.int .u8 0), .lit (.int .u8 0), .lit (.int .u8 0), .lit (.int .u8 0), .lit (.int .u8 0), .lit (.int .u8 0), .lit (.int .u8 0), .lit (.int .u8 0), .lit (.int .u8 0), .lit (.int .u8 0), .lit (.int .u8 0), .lit (.int .u8 0), .lit (.int .u8 0), .lit (.int .u8 0), .lit (.int .u8 0), .lit (.int .u8 0), .lit (.int .u8 0), .lit (.int .u8 0), .lit (.int .u8 0), .lit (.int .u8 0), .lit (.int .u8 0), .lit (.int .u8 0), .lit (.int .u8 0), .lit (.int .u8 0), .lit (.int .u8 0), .lit (.int .u8 0), .lit (.int .u8 0), .lit (.int .u8 0), .lit (.int .u8 0), .lit (.int .u8 0)], .agg [.lit (.int .i64 0), .lit (.int .i64 0), .lit (.int .i64 0), .lit (.int .i64 0), .agg [.lit (.int .u8 0), .lit (.int .u8 0), .lit (.int .u8 0), .lit (.int .u8 0), .lit (.int .u8 0), .lit (.int .u8 0), .lit (.int .u8 0), .lit (.int .u8 0), .lit (.int .u8 0), .lit (.int .u8 0), .lit (.int .u8 0), .lit (.int .u8 0), .lit (.int .u8 0), .lit (.int .u8 0), .lit (.int .u8 0), .lit (.int .u8 0), .lit (.int .u8 0), .lit (.int .u8 0), .lit (.int .u8 0), .lit (.int .u8 0), .lit (.int .u8 0), .lit (.int .u8 0), .lit (.int .u8 0), .lit (.int .u8 0), .lit (.int .u8 0), .lit (.int .u8 0), .lit (.int .u8 0), .lit (.int .u8 0), .lit (.int .u8 0), .lit (.int .u8 0), .lit (.int .u8 0), .lit (.int .u8 0)], .nil]], [], places) := ⟨[], by kernel_rfl⟩
 obtain ⟨places, hx⟩ := hx
 refine returnsInHanded_of_row (C := Tryz.checked) (s := Rows.OpenSpec.upto Rows.roundsValidSpec) own started (by kernel_rfl) Tryz.func5
  (Ad3 (enc := enc) (C := Tryz.checked) false (World.doorLaid Tryz.prog 24 os) Ws rfl (World.shaped_of_RefB (by kernel_rfl) (by kernel_rfl)) (by kernel_rfl)
   (OpenSpec.preRow_of_cond 8 hx (by kernel_rfl) (fun k hk => by cases hk; kernel_rfl) (by kernel_rfl) (laidMetH_of_parts3 (fuel := 8) (laidMet_of_run' 8 (by kernel_rfl) (by kernel_rfl)) (by kernel_rfl) (by kernel_rfl)))) ?_
 intro W base args ds gs before hval hW _ hcond _ hL _ _
 exact Acx hlaw H enc W base args ds gs before hval hW (hcond _ rfl) hL
theorem Adx (hlaw:Pq):Rows.RoundsValidUptoSaid:=
 OpenClaim.holds_of_cond 5 Tryz.f5 rfl rfl rfl rfl rfl rfl rfl ⟨rfl,rfl,rfl,rfl,rfl⟩ rfl rfl rfl rfl rfl (by kernel_rfl) Tryz.func5 (by kernel_rfl)
  (of_decide_eq_true (by kernel_rfl)) (by unfold Func.isWrapper; first | (rw [if_pos (by decide +kernel)]; kernel_rfl) | (rw [if_neg (by decide +kernel)]; exact⟨rfl,rfl⟩))
  (fun os started H enc _ F=>by rw [OpenClaim.pre_eq_preRow]; exact Aev hlaw os started H enc F)
theorem Agv (hlaw:Pq):Rows.RoundsValidUptoCardSaid:=
 Claim7.holds_tied_plain_at .later [] _ _ _ _ (Adx hlaw) (fun _ h=>by cases h) (by kernel_rfl) (fun _ h=>by cases h) roundsValidUpto_row_tie rfl ⟨rfl,rfl⟩ (by kernel_rfl) rfl
  (fun f fn hf hfn=>by
   obtain rfl:f=5:=Option.some.inj ((show Tryz.prog.funcNamed Rows.roundsValidUptoRow.func=some 5 by kernel_rfl).symm.trans hf) |>.symm
   obtain rfl:fn=Tryz.f5:=(Option.some.inj (Tryz.func5.symm.trans hfn)).symm
   refine⟨by kernel_rfl,fun j t ht=>?_⟩
   rw [Tryz.params5] at ht
   exact match j,ht with
    | 0,h=>by cases h; exact(show Tryz.prog.wantsStandIn 35=false by kernel_rfl)
    | 1,h=>by cases h; exact(show Tryz.prog.wantsStandIn 3=false by kernel_rfl)
    | 2,h=>by cases h; exact(show Tryz.prog.wantsStandIn 49=false by kernel_rfl)
    | 3,h=>by cases h; exact(show Tryz.prog.wantsStandIn 61=false by kernel_rfl)
    | _+4,h=>by cases h)
  (by kernel_rfl)
end Go.Proofs.YtnoinnijgnfhiaaGreatDoor.laws

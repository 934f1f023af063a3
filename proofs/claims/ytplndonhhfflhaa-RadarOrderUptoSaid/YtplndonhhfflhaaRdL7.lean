/- The row of RadarOrder, from its law in plain Lean. Written by args.py. -/
import Derived.Test.YtplndonhhfflhaaRdA
namespace Go.Proofs.Ytplndonhhfflhaa.laws
open Go Go.Am Go.ChangeShapes Go.WideShapes Go.ChangeAt Go.RowKit
set_option maxRecDepth 100000
set_option linter.unusedVariables false
set_option linter.unusedSimpArgs false

theorem contract_RadarOrder (hlaw : Law_RadarOrder) (H : Type) (enc : TypeId × Value → H) (W : World) (base : Nat) (args : Array Value) (ds gs : List (DataW H)) (before : List MemPlace)
    (hval : ∀ (j : Nat) t v, Try.f7.params[j]? = some t → args[j]? = some v → Value.okWide Try.prog W .any base t v)
    (hW : DataW.Whole enc Try.prog Try.f7.params.toList Rows.radarOrderSpec.vars false W args.toList ds gs before) (hk : Rows.uptoSmall H (ds ++ gs) = true) :
    Calls Try.prog 7 args W fun e W' => ∃ v, e = .returned v ∧ Rows.radarOrderSpec.post enc Try.prog Try.f7 false true false false W args v W' := by
  refine law_post (tb := 4) hW laidOut (by rw [Try.params7]; exact (List.forall_mem_cons.2 ⟨rd3, (List.forall_mem_cons.2 ⟨rd22, (List.forall_mem_cons.2 ⟨rd24, (List.forall_mem_cons.2 ⟨rd24, (fun _ h => (List.not_mem_nil h).elim)⟩)⟩)⟩)⟩)) rfl (by kernel_rfl) Try.underlying4 (fun ds hd => ?_) ?_
  · rw [Try.params7] at hd
    match ds, hd with
    | [x0, x1, x2, x3], _ => rfl
  obtain ⟨p, q, hA, hV, rfl, hfz, hnd⟩ := hW
  rw [Try.params7] at hA hval
  obtain ⟨v0, vs0, d0, ds0, p0, q0, hargs, rfl, rfl, h0, r0⟩ := trodAll_cons hA
  obtain ⟨v1, vs1, d1, ds1, p1, q1, rfl, rfl, rfl, h1, r1⟩ := trodAll_cons r0
  obtain ⟨v2, vs2, d2, ds2, p2, q2, rfl, rfl, rfl, h2, r2⟩ := trodAll_cons r1
  obtain ⟨v3, vs3, d3, ds3, p3, q3, rfl, rfl, rfl, h3, r3⟩ := trodAll_cons r2
  obtain ⟨rfl, rfl, rfl⟩ := trodAll_nil r3
  obtain rfl : args = #[v0, v1, v2, v3] := by cases args; simp_all
  obtain ⟨rfl, rfl⟩ := trodVars_none hV
  have hb : Rows.uptoBulkAll [d0, d1, d2, d3] ≤ 1048576 := of_decide_eq_true hk
  have hB := bulkLaws (H := H)
  simp only [hB.cons, hB.nil] at hb
  obtain ⟨m0, h0⟩ := h0
  obtain ⟨a0, l0, g0, b0⟩ := on3 enc W _ _ m0 _ _ _ _ hB h0 (by simp only [LIM]; omega)
  replace b0 : (tInt .i64).bulk a0 ≤ Rows.uptoBulk d0 := b0
  have e0 := rv_cell l0 (okWide_cell Try.underlying3 (by simp) (by simp) (hval 0 3 v0 rfl rfl))
  obtain ⟨m1, h1⟩ := h1
  obtain ⟨a1, l1, g1, b1⟩ := on22 enc W _ _ m1 _ _ _ _ hB h1 (by simp only [LIM]; omega)
  replace b1 : (tSl 3 tStatus).bulk a1 ≤ Rows.uptoBulk d1 := b1
  have e1 := rv_cell l1 (okWide_cell Try.underlying22 (by simp) (by simp) (hval 1 22 v1 rfl rfl))
  obtain ⟨m2, h2⟩ := h2
  obtain ⟨a2, l2, g2, b2⟩ := on24 enc W _ _ m2 _ _ _ _ hB h2 (by simp only [LIM]; omega)
  replace b2 : tStatus.bulk a2 ≤ Rows.uptoBulk d2 := b2
  obtain ⟨c2, rfl, _⟩ := okWide_struct Try.underlying24 (hval 2 24 v2 rfl rfl)
  have e2 := rv_agg l2
  obtain ⟨m3, h3⟩ := h3
  obtain ⟨a3, l3, g3, b3⟩ := on24 enc W _ _ m3 _ _ _ _ hB h3 (by simp only [LIM]; omega)
  replace b3 : tStatus.bulk a3 ≤ Rows.uptoBulk d3 := b3
  obtain ⟨c3, rfl, _⟩ := okWide_struct Try.underlying24 (hval 3 24 v3 rfl rfl)
  have e3 := rv_agg l3
  exact law_calls (cp_law26_RadarOrder a0 a1 a2 a3) ⟨Nat.zero_le _, trivial⟩ (hlaw a0 a1 a2 a3 g0 g1 g2 g3 (by omega)) (LR.cons e0 (LR.cons e1 (LR.cons e2 (LR.one e3))))

theorem lifted_RadarOrder (hlaw : Law_RadarOrder) (os : Os) (started : os.Started) (H : Type) (enc : TypeId × Value → H) (F : Stop.Interp) :
    ReturnsInHanded {} Try.checked os 7 .any ((Rows.OpenSpec.upto Rows.radarOrderSpec).pre6 enc Try.prog Try.f7 Rows.radarOrderUptoRow.domain false) (((Rows.OpenSpec.upto Rows.radarOrderSpec).at F).post enc Try.prog Try.f7 false true false false) := by
  refine returnsInHanded_of_cond (C := Try.checked) (s := Rows.OpenSpec.upto Rows.radarOrderSpec) (k := Rows.uptoSmall) rfl own started (by kernel_rfl) Try.func7
    (OpenSpec.witness (enc := enc) (C := Try.checked) (s := Rows.OpenSpec.upto Rows.radarOrderSpec) (k := Rows.uptoSmall) rfl false ⟨#[], #[.int .i64 0, .slice none 0 0, .agg #[.int .i64 0, .int .i64 0, .bool false], .agg #[.int .i64 0, .int .i64 0, .bool false]], []⟩ 8 (by kernel_rfl) (by kernel_rfl) (by kernel_rfl)
      (x := ([.lit (.int .i64 0), .nil, .agg [.lit (.int .i64 0), .lit (.int .i64 0), .lit (.bool false)], .agg [.lit (.int .i64 0), .lit (.int .i64 0), .lit (.bool false)]], [], [])) (by kernel_rfl) rfl (by kernel_rfl)) ?_
  intro W base args ds gs before hval hW _ hk _
  exact contract_RadarOrder hlaw H enc W base args ds gs before hval hW hk
theorem said_RadarOrder (hlaw : Law_RadarOrder) : Rows.RadarOrderUptoSaid :=
  OpenClaim.holds_of_cond 7 Try.f7 rfl rfl rfl rfl rfl rfl rfl ⟨rfl, rfl, rfl, rfl, rfl⟩ rfl rfl rfl rfl rfl (by kernel_rfl) Try.func7 (by kernel_rfl)
    (of_decide_eq_true (by kernel_rfl)) (by unfold Func.isWrapper; first | (rw [if_pos (by decide +kernel)]; kernel_rfl) | (rw [if_neg (by decide +kernel)]; exact ⟨rfl, rfl⟩))
    (fun os started H enc _ F => lifted_RadarOrder hlaw os started H enc F)
end Go.Proofs.Ytplndonhhfflhaa.laws

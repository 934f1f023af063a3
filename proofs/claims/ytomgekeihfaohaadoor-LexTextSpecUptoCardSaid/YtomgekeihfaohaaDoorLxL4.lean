/- The row of LexTextSpec, from its law in plain Lean. Written by args.py. -/
import Derived.Test.YtomgekeihfaohaaDoorLxA
namespace Go.Proofs.YtomgekeihfaohaaDoor.laws
open Go Go.Am Go.ChangeShapes Go.WideShapes Go.ChangeAt Go.RowKit
set_option maxRecDepth 100000
set_option linter.unusedVariables false
set_option linter.unusedSimpArgs false

theorem contract_LexTextSpec (hlaw : Law_LexTextSpec) (H : Type) (enc : TypeId × Value → H) (W : World) (base : Nat) (args : Array Value) (ds gs : List (DataW H)) (before : List MemPlace)
    (hval : ∀ (j : Nat) t v, Tryd.f4.params[j]? = some t → args[j]? = some v → Value.okWide Tryd.prog W .any base t v)
    (hW : DataW.Whole enc Tryd.prog Tryd.f4.params.toList Rows.lexTextSpecSpec.vars false W args.toList ds gs before) (hk : Rows.uptoSmall H (ds ++ gs) = true) (hL : laidMetH Tryd.prog Rows.lexTextSpecUptoRow.laid W) :
    Calls Tryd.prog 4 args W fun e W' => ∃ v, e = .returned v ∧ Rows.lexTextSpecSpec.post enc Tryd.prog Tryd.f4 false true false false W args v W' := by
  refine law_post (tb := 4) hW laidOut (by rw [Tryd.params4]; exact (List.forall_mem_cons.2 ⟨rd23, (List.forall_mem_cons.2 ⟨rd23, (List.forall_mem_cons.2 ⟨rd9, (fun _ h => (List.not_mem_nil h).elim)⟩)⟩)⟩)) rfl (by kernel_rfl) Tryd.underlying4 (fun ds hd => ?_) ?_
  · rw [Tryd.params4] at hd
    match ds, hd with
    | [x0, x1, x2], _ => rfl
  obtain ⟨p, q, hA, hV, rfl, hfz, hnd⟩ := hW
  rw [Tryd.params4] at hA hval
  obtain ⟨v0, vs0, d0, ds0, p0, q0, hargs, rfl, rfl, h0, r0⟩ := trodAll_cons hA
  obtain ⟨v1, vs1, d1, ds1, p1, q1, rfl, rfl, rfl, h1, r1⟩ := trodAll_cons r0
  obtain ⟨v2, vs2, d2, ds2, p2, q2, rfl, rfl, rfl, h2, r2⟩ := trodAll_cons r1
  obtain ⟨rfl, rfl, rfl⟩ := trodAll_nil r2
  obtain rfl : args = #[v0, v1, v2] := by cases args; simp_all
  obtain ⟨rfl, rfl⟩ := trodVars_none hV
  have hb : Rows.uptoBulkAll [d0, d1, d2] ≤ 1048576 := of_decide_eq_true hk
  have hB := bulkLaws (H := H)
  simp only [hB.cons, hB.nil] at hb
  obtain ⟨m0, h0⟩ := h0
  obtain ⟨a0, l0, g0, b0⟩ := on23 enc W _ _ m0 _ _ _ _ hB h0 (by simp only [LIM]; omega)
  replace b0 : (tSl 4 tToken).bulk a0 ≤ Rows.uptoBulk d0 := b0
  have e0 := rv_cell l0 (okWide_cell Tryd.underlying23 (by simp) (by simp) (hval 0 23 v0 rfl rfl))
  obtain ⟨m1, h1⟩ := h1
  obtain ⟨a1, l1, g1, b1⟩ := on23 enc W _ _ m1 _ _ _ _ hB h1 (by simp only [LIM]; omega)
  replace b1 : (tSl 4 tToken).bulk a1 ≤ Rows.uptoBulk d1 := b1
  have e1 := rv_cell l1 (okWide_cell Tryd.underlying23 (by simp) (by simp) (hval 1 23 v1 rfl rfl))
  obtain ⟨m2, h2⟩ := h2
  obtain ⟨a2, l2, g2, b2⟩ := on9 enc W _ _ m2 _ _ _ _ hB h2 (by simp only [LIM]; omega)
  replace b2 : tStr.bulk a2 ≤ Rows.uptoBulk d2 := b2
  have e2 := rv_cell l2 (okWide_cell Tryd.underlying9 (by simp) (by simp) (hval 2 9 v2 rfl rfl))
  exact law_calls (cp_law07_LexTextSpec a0 a1 a2) (gw_laid hL) (hlaw a0 a1 a2 g0 g1 g2 (by omega)) (LR.cons e0 (LR.cons e1 (LR.one e2)))

set_option maxRecDepth 100000 in
theorem lifted_LexTextSpec (hlaw : Law_LexTextSpec) (os : Os) (started : os.Started) (H : Type) (enc : TypeId × Value → H) (F : Stop.Interp) :
    ReturnsInHanded {} Tryd.checked os 4 .any ((Rows.OpenSpec.upto Rows.lexTextSpecSpec).preRow enc Tryd.prog Tryd.f4 Rows.lexTextSpecUptoRow.domain false Rows.lexTextSpecUptoRow.laid) (((Rows.OpenSpec.upto Rows.lexTextSpecSpec).at F).post enc Tryd.prog Tryd.f4 false true false false) := by
  have hx : ∃ places, DataW.whole enc Tryd.prog ((World.laidAll Tryd.prog os [("math/bits.deBruijn32tab", Rows.laid_math_bits_deBruijn32tab), ("math/bits.deBruijn64tab", Rows.laid_math_bits_deBruijn64tab), ("internal/strconv.uint64pow10", Rows.laid_internal_strconv_uint64pow10), ("strconv.ErrRange", Rows.laid_strconv_ErrRange), ("strconv.ErrSyntax", Rows.laid_strconv_ErrSyntax)]).forCall (fun _ _ => 0) ⟨#[], #[.slice none 0 0, .slice none 0 0, .string .empty], []⟩).memory Tryd.f4.params.toList Rows.lexTextSpecSpec.vars false #[.slice none 0 0, .slice none 0 0, .string .empty].toList 8 = some ([.nil, .nil, .lit (.string [])], [], places) := ⟨[], by kernel_rfl⟩
  obtain ⟨places, hx⟩ := hx
  refine returnsInHanded_of_row (C := Tryd.checked) (s := Rows.OpenSpec.upto Rows.lexTextSpecSpec) own started (by kernel_rfl) Tryd.func4
    (witness_row_shaped (enc := enc) (C := Tryd.checked) false (World.laidAll Tryd.prog os [("math/bits.deBruijn32tab", Rows.laid_math_bits_deBruijn32tab), ("math/bits.deBruijn64tab", Rows.laid_math_bits_deBruijn64tab), ("internal/strconv.uint64pow10", Rows.laid_internal_strconv_uint64pow10), ("strconv.ErrRange", Rows.laid_strconv_ErrRange), ("strconv.ErrSyntax", Rows.laid_strconv_ErrSyntax)]) #[.slice none 0 0, .slice none 0 0, .string .empty] (World.laidAll_os _ _ _) (World.shaped_of_ZipB (by kernel_rfl) (by kernel_rfl)) (by kernel_rfl)
      (OpenSpec.preRow_of_cond 8 hx (by kernel_rfl) (fun k hk => by cases hk; kernel_rfl) (by kernel_rfl) (laidMet_laidAll _ (by kernel_rfl) (by kernel_rfl)))) ?_
  intro W base args ds gs before hval hW _ hcond _ hL _ _
  exact contract_LexTextSpec hlaw H enc W base args ds gs before hval hW (hcond _ rfl) hL
theorem saidRow_LexTextSpec (hlaw : Law_LexTextSpec) : Rows.LexTextSpecUptoSaid :=
  OpenClaim.holds_of_cond 4 Tryd.f4 rfl rfl rfl rfl rfl rfl rfl ⟨rfl, rfl, rfl, rfl, rfl⟩ rfl rfl rfl rfl rfl (by kernel_rfl) Tryd.func4 (by kernel_rfl)
    (of_decide_eq_true (by kernel_rfl)) (by unfold Func.isWrapper; first | (rw [if_pos (by decide +kernel)]; kernel_rfl) | (rw [if_neg (by decide +kernel)]; exact ⟨rfl, rfl⟩))
    (fun os started H enc _ F => by rw [OpenClaim.pre_eq_preRow]; exact lifted_LexTextSpec hlaw os started H enc F)
theorem said_LexTextSpec (hlaw : Law_LexTextSpec) : Rows.LexTextSpecUptoCardSaid :=
  Claim7.holds_tied_plain_at .later [] _ _ _ _ (saidRow_LexTextSpec hlaw) (fun _ h => by cases h) (by kernel_rfl) (fun _ h => by cases h) lexTextSpecUpto_row_tie rfl ⟨rfl, rfl⟩ (by kernel_rfl) rfl
    (fun f fn hf hfn => by
      obtain rfl : f = 4 := Option.some.inj ((show Tryd.prog.funcNamed Rows.lexTextSpecUptoRow.func = some 4 by kernel_rfl).symm.trans hf) |>.symm
      obtain rfl : fn = Tryd.f4 := (Option.some.inj (Tryd.func4.symm.trans hfn)).symm
      refine ⟨by kernel_rfl, fun j t ht => ?_⟩
      rw [Tryd.params4] at ht
      exact match j, ht with
        | 0, h => by cases h; exact (show Tryd.prog.wantsStandIn 23 = false by kernel_rfl)
        | 1, h => by cases h; exact (show Tryd.prog.wantsStandIn 23 = false by kernel_rfl)
        | 2, h => by cases h; exact (show Tryd.prog.wantsStandIn 9 = false by kernel_rfl)
        | _ + 3, h => by cases h)
    (by kernel_rfl)
end Go.Proofs.YtomgekeihfaohaaDoor.laws

/- The row of LexPlaces, from its law in plain Lean. Written by args.py. -/
import Derived.Test.YtomgekeihfaohaaDoorLxA
namespace Go.Proofs.YtomgekeihfaohaaDoor.laws
open Go Go.Am Go.ChangeShapes Go.WideShapes Go.ChangeAt Go.RowKit
set_option maxRecDepth 100000
set_option linter.unusedVariables false
set_option linter.unusedSimpArgs false

theorem contract_LexPlaces (hlaw : Law_LexPlaces) (H : Type) (enc : TypeId × Value → H) (W : World) (base : Nat) (args : Array Value) (ds gs : List (DataW H)) (before : List MemPlace)
    (hval : ∀ (j : Nat) t v, Tryd.f6.params[j]? = some t → args[j]? = some v → Value.okWide Tryd.prog W .any base t v)
    (hW : DataW.Whole enc Tryd.prog Tryd.f6.params.toList Rows.lexPlacesSpec.vars false W args.toList ds gs before) (hk : Rows.uptoSmall H (ds ++ gs) = true) (hL : laidMetH Tryd.prog Rows.lexPlacesUptoRow.laid W) :
    Calls Tryd.prog 6 args W fun e W' => ∃ v, e = .returned v ∧ Rows.lexPlacesSpec.post enc Tryd.prog Tryd.f6 false true false false W args v W' := by
  refine law_post (tb := 4) hW laidOut (by rw [Tryd.params6]; exact (List.forall_mem_cons.2 ⟨rd9, (fun _ h => (List.not_mem_nil h).elim)⟩)) rfl (by kernel_rfl) Tryd.underlying4 (fun ds hd => ?_) ?_
  · rw [Tryd.params6] at hd
    match ds, hd with
    | [x0], _ => rfl
  obtain ⟨p, q, hA, hV, rfl, hfz, hnd⟩ := hW
  rw [Tryd.params6] at hA hval
  obtain ⟨v0, vs0, d0, ds0, p0, q0, hargs, rfl, rfl, h0, r0⟩ := trodAll_cons hA
  obtain ⟨rfl, rfl, rfl⟩ := trodAll_nil r0
  obtain rfl : args = #[v0] := by cases args; simp_all
  obtain ⟨rfl, rfl⟩ := trodVars_none hV
  have hb : Rows.uptoBulkAll [d0] ≤ 1048576 := of_decide_eq_true hk
  have hB := bulkLaws (H := H)
  simp only [hB.cons, hB.nil] at hb
  obtain ⟨m0, h0⟩ := h0
  obtain ⟨a0, l0, g0, b0⟩ := on9 enc W _ _ m0 _ _ _ _ hB h0 (by simp only [LIM]; omega)
  replace b0 : tStr.bulk a0 ≤ Rows.uptoBulk d0 := b0
  have e0 := rv_cell l0 (okWide_cell Tryd.underlying9 (by simp) (by simp) (hval 0 9 v0 rfl rfl))
  exact law_calls (cp_law07_LexPlaces a0) (gw_laid hL) (hlaw a0 g0 (by omega)) (LR.one e0)

set_option maxRecDepth 100000 in
theorem lifted_LexPlaces (hlaw : Law_LexPlaces) (os : Os) (started : os.Started) (H : Type) (enc : TypeId × Value → H) (F : Stop.Interp) :
    ReturnsInHanded {} Tryd.checked os 6 .any ((Rows.OpenSpec.upto Rows.lexPlacesSpec).preRow enc Tryd.prog Tryd.f6 Rows.lexPlacesUptoRow.domain false Rows.lexPlacesUptoRow.laid) (((Rows.OpenSpec.upto Rows.lexPlacesSpec).at F).post enc Tryd.prog Tryd.f6 false true false false) := by
  have hx : ∃ places, DataW.whole enc Tryd.prog ((World.laidAll Tryd.prog os [("math/bits.deBruijn32tab", Rows.laid_math_bits_deBruijn32tab), ("math/bits.deBruijn64tab", Rows.laid_math_bits_deBruijn64tab), ("internal/strconv.uint64pow10", Rows.laid_internal_strconv_uint64pow10), ("strconv.ErrRange", Rows.laid_strconv_ErrRange), ("strconv.ErrSyntax", Rows.laid_strconv_ErrSyntax)]).forCall (fun _ _ => 0) ⟨#[], #[.string .empty], []⟩).memory Tryd.f6.params.toList Rows.lexPlacesSpec.vars false #[.string .empty].toList 8 = some ([.lit (.string [])], [], places) := ⟨[], by kernel_rfl⟩
  obtain ⟨places, hx⟩ := hx
  refine returnsInHanded_of_row (C := Tryd.checked) (s := Rows.OpenSpec.upto Rows.lexPlacesSpec) own started (by kernel_rfl) Tryd.func6
    (witness_row_shaped (enc := enc) (C := Tryd.checked) false (World.laidAll Tryd.prog os [("math/bits.deBruijn32tab", Rows.laid_math_bits_deBruijn32tab), ("math/bits.deBruijn64tab", Rows.laid_math_bits_deBruijn64tab), ("internal/strconv.uint64pow10", Rows.laid_internal_strconv_uint64pow10), ("strconv.ErrRange", Rows.laid_strconv_ErrRange), ("strconv.ErrSyntax", Rows.laid_strconv_ErrSyntax)]) #[.string .empty] (World.laidAll_os _ _ _) (World.shaped_of_ZipB (by kernel_rfl) (by kernel_rfl)) (by kernel_rfl)
      (OpenSpec.preRow_of_cond 8 hx (by kernel_rfl) (fun k hk => by cases hk; kernel_rfl) (by kernel_rfl) (laidMet_laidAll _ (by kernel_rfl) (by kernel_rfl)))) ?_
  intro W base args ds gs before hval hW _ hcond _ hL _ _
  exact contract_LexPlaces hlaw H enc W base args ds gs before hval hW (hcond _ rfl) hL
theorem saidRow_LexPlaces (hlaw : Law_LexPlaces) : Rows.LexPlacesUptoSaid :=
  OpenClaim.holds_of_cond 6 Tryd.f6 rfl rfl rfl rfl rfl rfl rfl ⟨rfl, rfl, rfl, rfl, rfl⟩ rfl rfl rfl rfl rfl (by kernel_rfl) Tryd.func6 (by kernel_rfl)
    (of_decide_eq_true (by kernel_rfl)) (by unfold Func.isWrapper; first | (rw [if_pos (by decide +kernel)]; kernel_rfl) | (rw [if_neg (by decide +kernel)]; exact ⟨rfl, rfl⟩))
    (fun os started H enc _ F => by rw [OpenClaim.pre_eq_preRow]; exact lifted_LexPlaces hlaw os started H enc F)
theorem said_LexPlaces (hlaw : Law_LexPlaces) : Rows.LexPlacesUptoCardSaid :=
  Claim7.holds_tied_plain_at .later [] _ _ _ _ (saidRow_LexPlaces hlaw) (fun _ h => by cases h) (by kernel_rfl) (fun _ h => by cases h) lexPlacesUpto_row_tie rfl ⟨rfl, rfl⟩ (by kernel_rfl) rfl
    (fun f fn hf hfn => by
      obtain rfl : f = 6 := Option.some.inj ((show Tryd.prog.funcNamed Rows.lexPlacesUptoRow.func = some 6 by kernel_rfl).symm.trans hf) |>.symm
      obtain rfl : fn = Tryd.f6 := (Option.some.inj (Tryd.func6.symm.trans hfn)).symm
      refine ⟨by kernel_rfl, fun j t ht => ?_⟩
      rw [Tryd.params6] at ht
      exact match j, ht with
        | 0, h => by cases h; exact (show Tryd.prog.wantsStandIn 9 = false by kernel_rfl)
        | _ + 1, h => by cases h)
    (by kernel_rfl)
end Go.Proofs.YtomgekeihfaohaaDoor.laws

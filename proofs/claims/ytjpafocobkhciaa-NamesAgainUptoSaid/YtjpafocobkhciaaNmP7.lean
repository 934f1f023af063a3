/- Names: resolving again changes nothing. -/
import Derived.Test.YtjpafocobkhciaaNmP5
namespace Go.Am
open Go
set_option linter.unusedVariables false
set_option linter.unusedSimpArgs false
set_option maxRecDepth 100000

theorem law_NamesAgain : Law_NamesAgain := by
  intro a _ hb
  have hs := small_of hb
  unfold law09_NamesAgain
  rw [sane_true]
  obtain ⟨q, hf⟩ := few_some a
  rw [R.ok_bind, if_pos rfl, hf, R.ok_bind]
  cases q
  · rfl
  rw [if_pos rfl, names_Resolve_eq a hs, R.ok_bind, Unnumbered_eq a hs, R.ok_bind, names_Resolve_eq _ (hs.alike (alike_unn a)), R.ok_bind, alike_resolve (alike_unn a), if_neg (by simp), same_self]
  simp only [R.ok_bind, Bool.not_true, Bool.false_eq_true, if_false]
  rcases resolve_cases a with ⟨n, hn, e⟩ | ⟨h1, h2, e⟩
  · rw [e, names_Resolve_eq _ (small_empty _)]
    rcases hn with rfl | rfl <;> rfl
  · rw [e, names_Resolve_eq _ (hs.alike (alike_resolved a)), alike_resolve (alike_resolved a), e]
    simp [same_self]
end Go.Am

/- lex: LexSpaces. -/
import Derived.Test.YtomgekeihfaohaaDoorLxP8
namespace Go.Am
open Go
set_option linter.unusedVariables false
set_option linter.unusedSimpArgs false

theorem words_each (note : Str) (hn : note.length ≤ 1048576) : ∀ (l : Str) (k : Nat) (w : Str), note.drop k = l → w.length ≤ k → eachS (fun j a => fun words => law07_LexSpaces_b1 note j a words) k l w = .ok (w ++ l.filter (· != 10))
  | [], k, w, _, _ => by simp
  | c :: l, k, w, hd, hw => by
    have hlen := len_drop hd
    have hw1 : IntKind.wrap .i64 ((k : Int) + 1) = ((k + 1 : Nat) : Int) := by rw [wrap64 (by omega) (by omega)]; rfl
    rw [eachS_cons']
    unfold law07_LexSpaces_b1
    rw [hw1, ne10]
    have hd' : note.drop (k + 1) = l := by rw [← List.drop_drop, hd]; rfl
    cases hc : (c != 10)
    · simp only [Bool.false_eq_true, if_false, R.ok_bind]
      rw [List.filter_cons, hc]
      exact words_each note hn l (k + 1) w hd' (by omega)
    · simp only [if_true]
      rw [if_pos ⟨by omega, by omega, by omega⟩, cut_one hd, if_pos (by simp only [List.length_singleton]; omega), R.ok_bind]
      refine (words_each note hn l (k + 1) (w ++ [c]) hd' (by simp; omega)).trans ?_
      rw [List.filter_cons, hc]
      simp
def gaps (words : Str) : List Str := [[32], [9], [10], [13, 10], [32, 32], (([47, 47] ++ words) ++ [10]), [32, 47, 47, 32, 10], [10, 47, 47, 10]]
theorem gaps_ok {words : Str} (hw : words.all (· != 10) = true) (hl : words.length ≤ 100) : ∀ g ∈ gaps words, Gap g ∧ g.length ≤ 103 := by
  intro g hg
  simp only [gaps, List.mem_cons, List.not_mem_nil, or_false] at hg
  rcases hg with rfl | rfl | rfl | rfl | rfl | rfl | rfl | rfl
  · exact ⟨gap_sps (by rfl), by simp⟩
  · exact ⟨gap_sps (by rfl), by simp⟩
  · exact ⟨gap_sps (by rfl), by simp⟩
  · exact ⟨gap_sps (by rfl), by simp⟩
  · exact ⟨gap_sps (by rfl), by simp⟩
  · exact ⟨gap_note hw, by simp; omega⟩
  · have h1 : Gap [32] := gap_sps (by rfl)
    have h2 : Gap (([47, 47] ++ [32]) ++ [10]) := gap_note (by rfl)
    exact ⟨gap_app h1 h2, by simp⟩
  · have h1 : Gap [10] := gap_sps (by rfl)
    have h2 : Gap (([47, 47] ++ []) ++ [10]) := gap_note (by rfl)
    exact ⟨gap_app h1 h2, by simp⟩
theorem text_one {t : Token} (h1 : t.Text.length ≤ 1048576) (h2 : t.N ≤ 9223372036854775807) : lex_Text [t] = .ok (if validTok t then (spell t, 0) else ([], 70)) := by
  rw [text_eq [t] (small_of (by simp) (by simpa [total] using h1) (by intro x hx; simp at hx; subst hx; exact h2))]
  unfold textOut
  rw [List.all_cons, List.all_nil, Bool.and_true]
  cases validTok t
  · rfl
  · simp only [if_true, List.map_cons, List.map_nil, Lib.join_one]
theorem spaces_each {l0 : List Token} {turns : List Int} {words : Str} (h0 : small l0) (ht : ∀ n ∈ turns, 0 ≤ n ∧ n ≤ 255) (hw : words.all (· != 10) = true) (hl : words.length ≤ 100) :
    ∀ (l : List Token) (k : Nat) (s : Str), (∀ t ∈ l, t ∈ l0) → s.length + total l + 125 * l.length ≤ 1048576 →
    ∃ X : Str, each (fun j1 a1 => fun s => law07_LexSpaces_b2 l0 turns words j1 a1 s) k l s = .ok (if l.all validTok then .inl (s ++ X) else .inr true) ∧
      X.length ≤ total l + 125 * l.length ∧ (l.all validTok = true → ∀ p, ∃ r, lexP X p = .ok r ∧ same l r = true)
  | [], k, s, _, _ => ⟨[], by simp, by simp, fun _ p => ⟨[], rfl, rfl⟩⟩
  | t :: l, k, s, hm, hs => by
    have et : total (t :: l) = t.Text.length + total l := by simp [total]
    have ht0 : t ∈ l0 := hm t (List.mem_cons_self ..)
    have hN := h0.2.2 t ht0
    rw [List.length_cons, et] at hs
    rw [each_cons]
    have e2 : ∀ s, law07_LexSpaces_b2 l0 turns words k t s = (lex_Text [t]).bind fun r2 => if (r2.2 != 0) then ((lex_Text l0).bind fun r3 => .ok (.inr ((r3.2 == 70))))
        else (if (k : Int) < (turns.length : Int) then ((idx turns (k : Int)).bind fun a2 => if ((gaps words).length : Int) ≠ 0 then (idx (gaps words) (Int.tmod (IntKind.wrap .i64 a2) ((gaps words).length : Int))).bind fun a3 => law07_LexSpaces_j1 s r2 a3 else .bad) else (law07_LexSpaces_j1 s r2 [32])) := fun s => rfl
    rw [e2, text_one (by omega) hN, R.ok_bind, List.all_cons]
    cases hv : validTok t
    · refine ⟨[], ?_, by simp, fun h => by simp at h⟩
      simp only [Bool.false_eq_true, if_false, Bool.false_and]
      rw [if_pos (by decide), text_eq l0 h0]
      have : (textOut l0).2 = 70 := by
        unfold textOut
        have : l0.all validTok = false := by
          cases h : l0.all validTok
          · rfl
          · have := List.all_eq_true.1 h t ht0; rw [hv] at this; cases this
        rw [this]; rfl
      rw [R.ok_bind, this]
      rfl
    · simp only [if_true, Bool.true_and]
      rw [if_neg (by decide)]
      have hsp := spell_le hN
      have hg : ∃ g, (if (k : Int) < (turns.length : Int) then ((idx turns (k : Int)).bind fun a2 => if ((gaps words).length : Int) ≠ 0 then (idx (gaps words) (Int.tmod (IntKind.wrap .i64 a2) ((gaps words).length : Int))).bind fun a3 => law07_LexSpaces_j1 s (spell t, 0) a3 else .bad) else (law07_LexSpaces_j1 s (spell t, 0) [32])) = law07_LexSpaces_j1 s (spell t, 0) g ∧ Gap g ∧ g.length ≤ 103 := by
        by_cases hk : k < turns.length
        · have hti := ht turns[k] (List.getElem_mem ..)
          rw [if_pos (by omega), idx_nat (List.getElem?_eq_getElem hk), R.ok_bind, show ((gaps words).length : Int) = 8 from rfl, if_pos (by decide), wrap64 (by omega) (by omega)]
          obtain ⟨m, hm⟩ : ∃ m : Nat, turns[k] = (m : Int) := ⟨turns[k].toNat, by omega⟩
          have e8 : Int.tmod (turns[k]) 8 = ((m % 8 : Nat) : Int) := by rw [hm]; exact (Int.ofNat_tmod m 8).symm
          have hlt : m % 8 < (gaps words).length := by show _ < 8; omega
          rw [e8, idx_nat (List.getElem?_eq_getElem hlt), R.ok_bind]
          exact ⟨_, rfl, gaps_ok hw hl _ (List.getElem_mem hlt)⟩
        · rw [if_neg (by omega)]
          exact ⟨[32], rfl, gap_sps (by rfl), by simp⟩
      obtain ⟨g, hg1, hg2, hg3⟩ := hg
      rw [hg1]
      have hj : law07_LexSpaces_j1 s (spell t, 0) g = .ok (.inl (s ++ ((spell t ++ [32]) ++ g))) := by
        unfold law07_LexSpaces_j1
        have q1 : (spell t ++ [32]).length = (spell t).length + 1 := by simp
        have q2 : ((spell t ++ [32]) ++ g).length = (spell t).length + 1 + g.length := by rw [List.length_append, q1]
        dsimp only
        rw [if_pos (by show (spell t).length + 1 ≤ _; omega), if_pos (by rw [q1]; omega), if_pos (by rw [q2]; omega)]
      rw [hj, R.ok_bind]
      have q : (s ++ ((spell t ++ [32]) ++ g)).length = s.length + ((spell t).length + 1 + g.length) := by simp; omega
      obtain ⟨X, x1, x2, x3⟩ := spaces_each h0 ht hw hl l (k + 1) (s ++ ((spell t ++ [32]) ++ g)) (fun t h => hm t (List.mem_cons_of_mem _ h)) (by rw [q]; omega)
      refine ⟨((spell t ++ [32]) ++ g) ++ X, ?_, ?_, fun h p => ?_⟩
      · refine x1.trans ?_
        rw [List.append_assoc s]
      · rw [et, List.length_cons, List.length_append, List.length_append, List.length_append, List.length_singleton]
        omega
      · obtain ⟨r, y1, y2⟩ := x3 h (p + (spell t).length + 1 + g.length)
        obtain ⟨u, z1, z2⟩ := lexP_tok (m := [32] ++ (g ++ X)) hv (.inr ⟨32, g ++ X, rfl, by rfl⟩) p
        refine ⟨at' p u :: r, ?_, ?_⟩
        · rw [show ((spell t ++ [32]) ++ g) ++ X = spell t ++ ([32] ++ (g ++ X)) by simp, z1, gap_sps (g := [32]) (by rfl), hg2]
          show (lexP X (p + (spell t).length + 1 + g.length)).add _ _ = _
          rw [y1]; rfl
        · show (key t u && all2 key l r) = true
          rw [z2]; exact y2
theorem law_LexSpaces : Law_LexSpaces := by
  intro l turns note gl gt _ hb
  have hb1 : (tSl 4 tToken).bulk l + ((tSl 1 (tInt .u8)).bulk turns + (note.length + 1)) ≤ 1048576 := hb
  have sl := small_good gl (by omega)
  have tl := total_le l
  unfold law07_LexSpaces
  rw [sane_ok, R.ok_bind, if_pos rfl, few_eq l (by omega)]
  simp only [R.ok_bind]
  by_cases hs : few l = false ∨ note.length > 100
  · rw [if_pos (by rcases hs with h | h <;> simp [h]; omega)]
  · have hf : few l = true := by cases h : few l with
      | true => rfl
      | false => exact absurd (.inl h) hs
    have hnl : note.length ≤ 100 := by
      by_cases h : note.length ≤ 100
      · exact h
      · exact absurd (.inr (by omega)) hs
    rw [if_neg (by rw [hf]; simp; omega), if_pos (by simp only [LIM]; omega), words_each note (by omega) note 0 [] rfl (by simp)]
    simp only [R.ok_bind, List.nil_append]
    have hwl : (note.filter (· != 10)).length ≤ 100 := Nat.le_trans (List.length_filter_le ..) hnl
    have q1 : ([47, 47] ++ note.filter (· != 10)).length = 2 + (note.filter (· != 10)).length := by simp; omega
    rw [if_pos (by show 2 + _ ≤ _; omega), if_pos (by rw [q1]; show _ + 1 ≤ _; omega)]
    have hfe : l.length ≤ 200 ∧ total l ≤ 2000 := by unfold few at hf; simpa using hf
    obtain ⟨X, x1, x2, x3⟩ := spaces_each sl (turns := turns) (words := note.filter (· != 10)) (fun n hn => by
      have : (Lit.int .u8 n).wf = true := gt n hn
      simpa [Lit.wf, IntKind.min, IntKind.max, IntKind.signed, IntKind.bits] using this) (by rw [List.all_eq_true]; intro c hc; exact (List.mem_filter.1 hc).2) hwl l 0 [10] (fun t h => h) (by show 1 + _ + _ ≤ _; omega)
    rw [x1]
    cases hv : l.all validTok
    · rfl
    · obtain ⟨r, y1, y2⟩ := x3 hv (0 + 1)
      simp only [if_true, R.ok_bind, alt]
      have e : lexP ([10] ++ X) 0 = .ok r := by rw [gap_sps (g := [10]) (by rfl)]; exact y1
      rw [lex_eq, R.ok_bind, lexOut_small (by rw [List.length_append]; show 1 + _ ≤ _; omega), e, out_ok]
      simp only [same_eq, y2, R.ok_bind]
      rfl
end Go.Am
